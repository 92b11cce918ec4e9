import Derived.Test.YtbfkejjljeaklaaGreatDoorWalk2
set_option linter.unusedVariables false
set_option linter.unusedSimpArgs false
namespace Go.Proofs.W
open Go Go.AM Go.Proofs.G
set_option maxRecDepth 10000
variable (hm : Tryz.prog.follows .mixedOrders = true)
def nbAt (N : List Int) (size j : Nat) : Int := IntKind.u8.wrap ((N.getD ((size - 1 - j) / 2) 0).fdiv (2 ^ (8 * ((size - 1 - j) % 2))))
def natBy (N : List Int) (size : Nat) : List Int := (List.range size).map (nbAt N size)
theorem natBy_length (N : List Int) (size : Nat) : (natBy N size).length = size := by simp [natBy]
include hm in
theorem l1Digit (N : List Int) (i : Nat) (h3 : N.length ≤ 9223372036854775807) : Holds Tryz.prog 177 [.sl .sh (N.map intA), .v (.int .i64 i)] [] (.v (.int .i64 (N.getD i 0))) [] := by
  refine holds_of (ann := []) tabOk hm Tryz.func177 (by kernel_rfl) rfl ?_
  have hl : (N.map intA).length = N.length := List.length_map _
  simp +decide only [Tryz.f177, hl, go_sem, Nat.reduceAdd, Nat.reduceMul, Nat.reduceSub]
  refine Runs.split (fun h => ?_) (fun h => ?_)
  · have hlt : i < N.length := by simpa using h
    have hg := getIntA hlt
    simp +decide (disch := first | omega | (simp only [ll]; omega)) only [hl, hg, if_pos, go_sem, Nat.reduceAdd, Nat.reduceMul, Nat.reduceSub]
    exact Runs.ret_v
  · have hge : N.length ≤ i := by simpa using h
    simp +decide only [go_sem, Nat.reduceAdd, Nat.reduceMul, Nat.reduceSub]
    exact Runs.ret_eq (by simp [List.getD, List.getElem?_eq_none hge])
def nbPre (N : List Int) (size j : Nat) : List A := ((List.range j).map (nbAt N size)).map u8A
theorem nbPre_length (N : List Int) (size j : Nat) : (nbPre N size j).length = j := by simp [nbPre]
theorem nbPre_succ (N : List Int) (size j : Nat) : nbPre N size j ++ [u8A (nbAt N size j)] = nbPre N size (j + 1) := by simp [nbPre, List.range_succ]
def snbAnn : Ann := [(0, [0, 6, 7])]
def snbSt (N : List Int) (size : Nat) (j : Nat) : St := ⟨[.sl .sh (N.map intA), .any, .any, .any, .any, .any, .ms (.l 0) 0 j j, .v (.int .i64 ((size : Int) - 1 - j)), .any, .any, .any, .any, .any, .any, .any, .any, .any, .any, .any, .any, .any, .any, .any, .any, .any, .any, .any, .any, .any, .any, .any, .any, .any, .any, .any, .any, .any, .any, .any, .any, .any, .any, .any, .any], [(0, ⟨true, 1, false, nbPre N size j⟩)], []⟩
set_option maxHeartbeats 4000000 in
include hm in
theorem sNatBytes (N : List Int) (size : Nat) (hN : natB N = true) (h1 : size ≤ 128) (h2 : bitsZ N ≤ 8 * (size : Int)) :
    Holds Tryz.prog 140 [.sl .sh (N.map intA), .v (.int .i64 size)] [] (.tup [.sl (.ow 1) ((natBy N size).map u8A), .v (.bool true)]) [] := by
  have hl64 : N.length ≤ 64 := by
    simp only [natB, Bool.and_eq_true, decide_eq_true_eq] at hN
    omega
  have hok := sNatOk hm N (by omega)
  rw [hN] at hok
  have hin : inB (size : Int) 0 128 = true := by simp [inB]; omega
  have hw := l1In hm (size : Int) 0 128
  rw [hin] at hw
  have hd : decide (bitsZ N > 8 * (size : Int)) = false := by simp; omega
  refine holds_of (ann := snbAnn) tabOk hm Tryz.func140 (by kernel_rfl) rfl ?_
  simp +decide only [Tryz.f140, go_sem, Nat.reduceAdd, Nat.reduceMul, Nat.reduceSub]
  refine Runs.call hok ?_
  simp +decide only [go_sem, Nat.reduceAdd, Nat.reduceMul, Nat.reduceSub]
  refine Runs.call hw ?_
  simp +decide only [go_sem, Nat.reduceAdd, Nat.reduceMul, Nat.reduceSub]
  refine Runs.call (l1Bits hm N hN) ?_
  simp +decide (disch := first | omega | (simp only [ll]; omega)) only [hd, if_pos, go_sem, Nat.reduceAdd, Nat.reduceMul, Nat.reduceSub]
  refine Runs.while (α := Nat) (snbSt N size) (fun j => size - j) (fun j => j ≤ size) 0 (by omega) ?_ ?_
  · simp [go_sem, snbAnn, snbSt, nbPre]
  · intro j hj ih
    have hlen := nbPre_length N size j
    simp +decide only [snbSt, hlen, go_sem, Nat.reduceAdd, Nat.reduceMul, Nat.reduceSub]
    refine Runs.split (fun h => ?_) (fun h => ?_)
    · have hlt : j < size := by simp at h; omega
      have e1 : (size : Int) - 1 - j = ((size - 1 - j : Nat) : Int) := by omega
      have e2 : ((size : Int) - 1 - j).tdiv 2 = (((size - 1 - j) / 2 : Nat) : Int) := by rw [e1]; rfl
      have e3 : ((size : Int) - 1 - j).tmod 2 = (((size - 1 - j) % 2 : Nat) : Int) := by rw [e1]; rfl
      have hdg := l1Digit hm N ((size - 1 - j) / 2) (by omega)
      have e4 : min (8 * (((size - 1 - j) % 2 : Nat) : Int)).toNat 64 = 8 * ((size - 1 - j) % 2) := by omega
      have e5 : decide (0 ≤ 8 * (((size - 1 - j) % 2 : Nat) : Int)) = true := by simp; omega
      have hs := nbPre_succ N size j
      simp only [u8A, nbAt] at hs
      simp +decide (disch := first | omega | (simp only [ll]; omega)) only [hlen, e2, e3, if_pos, go_sem, Nat.reduceAdd, Nat.reduceMul, Nat.reduceSub]
      refine Runs.call hdg ?_
      simp +decide (disch := first | omega | (simp only [ll]; omega)) only [hlen, e2, e3, e4, e5, IntKind.bits, hs, if_pos, go_sem, Nat.reduceAdd, Nat.reduceMul, Nat.reduceSub]
      refine ih (j + 1) _ (by omega) hlt ?_
      simp [go_sem, snbAnn, snbSt]
      omega
    · have hge : j = size := by simp at h; omega
      subst hge
      have ht : List.take j (nbPre N j j) = (natBy N j).map u8A := List.take_of_length_le (by rw [hlen]; exact Nat.le_refl _)
      simp +decide only [hlen, ht, go_sem, Nat.reduceAdd, Nat.reduceMul, Nat.reduceSub]
      exact Runs.ret_refl
def nbI (N : List Int) (size i : Nat) : List A := (List.range size).map fun j => if size ≤ j + 2 * i then u8A (nbAt N size j) else u8A 0
theorem nbI_length (N : List Int) (size i : Nat) : (nbI N size i).length = size := by simp [nbI]
theorem nbI_zero (N : List Int) (size : Nat) : nbI N size 0 = List.replicate size (.v (.int .u8 0)) := by
  apply List.ext_getElem
  · simp [nbI]
  · intro j h1 h2
    simp [nbI] at h1
    simp [nbI, u8A, show ¬ size ≤ j by omega]
theorem nbI_get (N : List Int) (size i k : Nat) (h : k < size) (h2 : k + 2 * i < size) : (nbI N size i).getD k .any = .v (.int .u8 0) := by
  simp [nbI, List.getD, h, show ¬ size ≤ k + 2 * i by omega, u8A]
theorem nbI_one (N : List Int) (size i : Nat) (h : size = 2 * i + 1) : (nbI N size i).set 0 (u8A (nbAt N size 0)) = nbI N size (i + 1) := by
  apply List.ext_getElem
  · simp [nbI]
  · intro j h1 h2
    simp [nbI] at h1 h2
    simp only [List.getElem_set, nbI, List.getElem_map, List.getElem_range]
    by_cases hj : 0 = j
    · subst hj; rw [if_pos rfl, if_pos (by omega)]
    · rw [if_neg hj, if_pos (by omega), if_pos (by omega)]
theorem nbI_two (N : List Int) (size i K : Nat) (h : K + 2 + 2 * i = size) : ((nbI N size i).set (K + 1) (u8A (nbAt N size (K + 1)))).set K (u8A (nbAt N size K)) = nbI N size (i + 1) := by
  apply List.ext_getElem
  · simp [nbI]
  · intro j h1 h2
    simp [nbI] at h1 h2
    simp only [List.getElem_set, nbI, List.getElem_map, List.getElem_range]
    by_cases hj : K = j
    · subst hj; rw [if_pos rfl, if_pos (by omega)]
    · rw [if_neg hj]
      by_cases hk : K + 1 = j
      · subst hk; rw [if_pos rfl, if_pos (by omega)]
      · rw [if_neg hk]
        by_cases h3 : size ≤ j + 2 * i
        · rw [if_pos h3, if_pos (by omega)]
        · rw [if_neg h3, if_neg (by omega)]
theorem nbAt_lo (N : List Int) (size i K : Nat) (h : K + 1 + 2 * i = size) : nbAt N size K = IntKind.u8.wrap (N.getD i 0) := by
  rw [nbAt, show (size - 1 - K) / 2 = i by omega, show (size - 1 - K) % 2 = 0 by omega]
  simp
theorem nbAt_hi (N : List Int) (size i K : Nat) (h : K + 2 + 2 * i = size) : nbAt N size K = IntKind.u8.wrap ((N.getD i 0).fdiv (2 ^ 8)) := by
  rw [nbAt, show (size - 1 - K) / 2 = i by omega, show (size - 1 - K) % 2 = 1 by omega]
theorem nbI_all (N : List Int) (size : Nat) : nbI N size N.length = (natBy N size).map u8A := by
  apply List.ext_getElem
  · simp [nbI, natBy]
  · intro j h1 h2
    simp [nbI] at h1
    simp only [nbI, natBy, List.getElem_map, List.getElem_range]
    split
    · rfl
    · rename_i h
      have e : N.getD ((size - 1 - j) / 2) 0 = 0 := by
        rw [List.getD, List.getElem?_eq_none (by omega)]; rfl
      rw [nbAt, e, Int.zero_fdiv]
      rfl
theorem nat_fits {N : List Int} {size : Nat} (hN : natB N = true) (h2 : bitsZ N ≤ 8 * (size : Int)) : 2 * N.length ≤ size + 1 := by
  by_cases h0 : N.length = 0
  · omega
  · obtain ⟨t1, t2, t3⟩ := nat_top hN h0
    have : 1 ≤ blen (topD N).toNat := by
      unfold blen
      rw [dif_neg (by omega)]
      omega
    rw [bitsZ, if_neg h0] at h2
    omega
def inbAnn : Ann := [(0, [1, 6, 27, 28, 29])]
def inbSt (N : List Int) (size : Nat) (i : Nat) : St := ⟨[.any, .v (.int .i64 size), .any, .any, .any, .any, .ms (.l 0) 0 size size, .any, .any, .any, .any, .any, .any, .any, .any, .any, .any, .any, .any, .any, .any, .any, .any, .any, .any, .any, .any, .sl .sh (N.map intA), .v (.int .i64 N.length), .v (.int .i64 i), .any, .any, .any, .any, .any, .any, .any, .any, .any, .any, .any, .any, .any, .any, .any, .any, .any, .any, .any, .any, .any, .any, .any, .any, .any, .any, .any, .any], [(0, ⟨true, 1, false, nbI N size i⟩)], []⟩
set_option maxHeartbeats 4000000 in
include hm in
theorem iNatBytes (N : List Int) (size : Nat) (hN : natB N = true) (h1 : size ≤ 128) (h2 : bitsZ N ≤ 8 * (size : Int)) :
    Holds Tryz.prog 164 [.sl .sh (N.map intA), .v (.int .i64 size)] [] (.tup [.sl (.ow 1) ((natBy N size).map u8A), .v (.bool true)]) [] := by
  have hl64 : N.length ≤ 64 := by
    simp only [natB, Bool.and_eq_true, decide_eq_true_eq] at hN
    omega
  have hf := nat_fits hN h2
  have hok := iNatOk hm N (by omega)
  rw [hN] at hok
  have hin : inB (size : Int) 0 128 = true := by simp [inB]; omega
  have hw := within hm (size : Int) 0 128
  rw [hin] at hw
  have hd : decide (bitsZ N > 8 * (size : Int)) = false := by simp; omega
  have hl : (N.map intA).length = N.length := List.length_map _
  refine holds_of (ann := inbAnn) tabOk hm Tryz.func164 (by kernel_rfl) rfl ?_
  simp +decide only [Tryz.f164, go_sem, Nat.reduceAdd, Nat.reduceMul, Nat.reduceSub]
  refine Runs.call hok ?_
  simp +decide only [go_sem, Nat.reduceAdd, Nat.reduceMul, Nat.reduceSub]
  refine Runs.call hw ?_
  simp +decide only [go_sem, Nat.reduceAdd, Nat.reduceMul, Nat.reduceSub]
  refine Runs.call (natBits hm N hN) ?_
  simp +decide (disch := first | omega | (simp only [ll]; omega)) only [hd, hl, if_pos, go_sem, Nat.reduceAdd, Nat.reduceMul, Nat.reduceSub]
  refine Runs.while (α := Nat) (inbSt N size) (fun i => N.length - i) (fun i => i ≤ N.length) 0 (by omega) ?_ ?_
  · simp [go_sem, inbAnn, inbSt, nbI_zero]
  · clear hok hw hin hd hN h2
    intro i hi ih
    have hlen := nbI_length N size i
    simp +decide only [inbSt, hlen, hl, go_sem, Nat.reduceAdd, Nat.reduceMul, Nat.reduceSub]
    refine Runs.split (fun h => ?_) (fun h => ?_)
    · have hlt : i < N.length := by simpa using h
      have hg := getIntA hlt
      have wr : ∀ n : Int, -1000000 ≤ n → n ≤ 1000000 → IntKind.i64.wrap n = n := fun n h1 h2 => wrap_i64 (by omega) (by omega)
      have w1 := wr ((size : Int) - 1) (by omega) (by omega)
      have w2 := wr (2 * (i : Int)) (by omega) (by omega)
      have w3 := wr ((size : Int) - 1 - 2 * i) (by omega) (by omega)
      have w4 := wr ((size : Int) - 2) (by omega) (by omega)
      have w5 := wr ((size : Int) - 2 - 2 * i) (by omega) (by omega)
      have w6 := wr ((i : Int) + 1) (by omega) (by omega)
      have d1 : decide (0 ≤ (i : Int) ∧ (i : Int) < N.length) = true := by simp; omega
      have d2 : decide (0 ≤ (size : Int) - 1 - 2 * i ∧ (size : Int) - 1 - 2 * i < size) = true := by simp; omega
      by_cases h3 : 2 * i + 2 ≤ size
      · obtain ⟨K, hK⟩ : ∃ K, K + 2 + 2 * i = size := ⟨size - 2 - 2 * i, by omega⟩
        have hx1 := nbAt_lo N size i (K + 1) (by omega)
        have hx2 := nbAt_hi N size i K hK
        have k1 : ((size : Int) - 1 - 2 * i).toNat = K + 1 := by omega
        have k2 : ((size : Int) - 2 - 2 * i).toNat = K := by omega
        have g1 := nbI_get N size i (K + 1) (by omega) (by omega)
        have hs := nbI_two N size i K hK
        rw [hx1, hx2] at hs
        simp only [u8A] at hs
        have hd2 : decide ((size : Int) - 2 - 2 * i ≥ 0) = true := by simp; omega
        have g2 := nbI_get N size i K (by omega) (by omega)
        have g3 : ((nbI N size i).set (K + 1) (.v (.int .u8 (IntKind.u8.wrap (N.getD i 0))))).getD K .any = .v (.int .u8 0) := by
          rw [List.getD, List.getElem?_set_ne (by omega)]; exact g2
        have d3 : decide (0 ≤ (size : Int) - 2 - 2 * i ∧ (size : Int) - 2 - 2 * i < size) = true := by simp; omega
        simp +decide (maxSteps := 9^7) only [hlen, hl, hg, Int.toNat_natCast, w1, w2, w3, w4, w5, w6, d1, d2, d3, k1, g1, hd2, k2, g3, s8, List.length_set, hs, go_sem, Nat.reduceAdd, Nat.reduceMul, Nat.reduceSub]
        refine ih (i + 1) _ (by omega) (by omega) ?_
        simp [go_sem, inbAnn, inbSt]
      · have e0 : size = 2 * i + 1 := by omega
        have hx1 := nbAt_lo N size i 0 (by omega)
        have k1 : ((size : Int) - 1 - 2 * i).toNat = 0 := by omega
        have g1 := nbI_get N size i 0 (by omega) (by omega)
        have hs := nbI_one N size i e0
        rw [hx1] at hs
        simp only [u8A] at hs
        have hd2 : decide ((size : Int) - 2 - 2 * i ≥ 0) = false := by simp; omega
        simp +decide (maxSteps := 9^7) only [hlen, hl, hg, Int.toNat_natCast, w1, w2, w3, w4, w5, w6, d1, d2, k1, g1, hd2, hs, go_sem, Nat.reduceAdd, Nat.reduceMul, Nat.reduceSub]
        refine ih (i + 1) _ (by omega) (by omega) ?_
        simp [go_sem, inbAnn, inbSt]
    · have hge : i = N.length := by simp at h; omega
      subst hge
      have ht : List.take size (nbI N size N.length) = (natBy N size).map u8A := by rw [List.take_of_length_le (by rw [hlen]; exact Nat.le_refl _), nbI_all]
      simp +decide only [hlen, ht, go_sem, Nat.reduceAdd, Nat.reduceMul, Nat.reduceSub]
      exact Runs.ret_refl
end Go.Proofs.W

namespace Go.Proofs.W
open Go Go.AM Go.Proofs.G
variable (hm : Tryz.prog.follows .mixedOrders = true)
attribute [local go_sem] edA prA cvA ptA keyA
theorem bits_pos {N : List Int} (h : inB (bitsZ N) 128 512 = true) : 0 < N.length := by
  rcases Nat.eq_zero_or_pos N.length with h0 | h0
  · have := inB_t h
    simp [bitsZ, h0] at this
  · exact h0
theorem curve_n {k : GCv} (h : curveB k = true) : 0 ≤ k.n ∧ k.n ≤ 2097152 := by
  simp only [curveB, Bool.and_eq_true] at h
  obtain ⟨⟨⟨⟨⟨⟨⟨⟨⟨_, _⟩, _⟩, _⟩, _⟩, c6⟩, _⟩, _⟩, _⟩, _⟩ := h
  have := inB_t c6
  omega
theorem curve_p {k : GCv} (h : curveB k = true) : PrimeN k.p.toNat := by
  simp only [curveB, Bool.and_eq_true] at h
  obtain ⟨⟨⟨⟨⟨⟨⟨⟨⟨_, _⟩, c3⟩, _⟩, _⟩, _⟩, _⟩, _⟩, _⟩, _⟩ := h
  exact (primeZ_of c3).2.2
theorem curve_d {k : GCv} (h : curveB k = true) : (4 * (k.a * k.a % k.p) * k.a + 27 * (k.b * k.b % k.p)) % k.p ≠ 0 := by
  simp only [curveB, Bool.and_eq_true] at h
  obtain ⟨⟨⟨⟨⟨⟨⟨⟨⟨_, _⟩, _⟩, _⟩, _⟩, _⟩, _⟩, c8⟩, _⟩, _⟩ := h
  simpa using c8
theorem same_rsa (k : GKey) : keySame k ⟨1, k.N, k.e, cv0, pt0, ed0, pr0⟩ = (decide (k.kind = 1) && (noCurve k && noEd k)) := by
  simp only [keySame, noCurve, noEd, decide_true, Bool.true_and, Bool.and_assoc]
theorem same_curve (k : GKey) : keySame k ⟨2, [], 0, k.cv, k.q, ed0, pr0⟩ = (decide (k.kind = 2) && (noRsa k && noEd k)) := by
  have e1 : eqCv k.cv k.cv = true := by simp [eqCv]
  have e2 : eqPt k.q k.q = true := by simp [eqPt]
  have e3 : decide (k.N = []) = decide (k.N.length = 0) := by simp
  simp only [keySame, noRsa, noEd, e1, e2, e3, Bool.true_and, Bool.and_assoc]
theorem same_ed (k : GKey) : keySame k ⟨3, [], 0, cv0, pt0, k.ed, k.a⟩ = (decide (k.kind = 3) && (noRsa k && noCurve k)) := by
  have e1 : eqEd k.ed k.ed = true := by simp [eqEd]
  have e2 : eqPr k.a k.a = true := by simp [eqPr]
  have e3 : decide (k.N = []) = decide (k.N.length = 0) := by simp
  simp only [keySame, noRsa, noCurve, e1, e2, e3, Bool.and_true, Bool.and_assoc]
set_option maxRecDepth 10000 in
set_option maxHeartbeats 8000000 in
include hm in
theorem sKeyOk (k : GKey) (h3 : k.N.length ≤ 9223372036854775807) : Holds Tryz.prog 43 [keyA k] [] (.v (.bool (keyB k))) [] := by
  refine holds_ref (ann := []) tabOk hm (byL [] [1000001]) Tryz.func43 (by kernel_rfl) rfl ?_
  have n1 := noCurveS hm k
  have n2 := noEdS hm k
  have n3 := noRsaS hm k
  have nN := sNatOk hm k.N h3
  have nP := sPointOk hm k.cv k.q
  have nE := sPairOk hm k.ed k.a
  simp +decide (maxSteps := 9^7) only [Tryz.f43, go_sem, Nat.reduceAdd, Nat.reduceMul, Nat.reduceSub]
  refine Runs.split (fun k1 => ?_) (fun k1 => ?_)
  · have k1' : k.kind = 1 := by simpa using k1
    simp +decide (maxSteps := 9^7) only [go_sem, Nat.reduceAdd, Nat.reduceMul, Nat.reduceSub]
    refine Runs.call n1 ?_
    simp +decide (maxSteps := 9^7) only [go_sem, Nat.reduceAdd, Nat.reduceMul, Nat.reduceSub]
    refine Runs.split (fun c1 => ?_) (fun c1 => ?_)
    case _ =>
      simp +decide (maxSteps := 9^7) only [go_sem, Nat.reduceAdd, Nat.reduceMul, Nat.reduceSub]
      refine Runs.call n2 ?_
      simp +decide (maxSteps := 9^7) only [go_sem, Nat.reduceAdd, Nat.reduceMul, Nat.reduceSub]
      refine Runs.split (fun c2 => ?_) (fun c2 => ?_)
      case _ =>
        simp +decide (maxSteps := 9^7) only [go_sem, Nat.reduceAdd, Nat.reduceMul, Nat.reduceSub]
        refine Runs.call nN ?_
        simp +decide (maxSteps := 9^7) only [go_sem, Nat.reduceAdd, Nat.reduceMul, Nat.reduceSub]
        refine Runs.split (fun c3 => ?_) (fun c3 => ?_)
        case _ =>
          simp +decide (maxSteps := 9^7) only [go_sem, Nat.reduceAdd, Nat.reduceMul, Nat.reduceSub]
          refine Runs.call (l1Bits hm k.N c3) ?_
          simp +decide (maxSteps := 9^7) only [go_sem, Nat.reduceAdd, Nat.reduceMul, Nat.reduceSub]
          refine Runs.call (l1In hm (bitsZ k.N) 128 512) ?_
          simp +decide (maxSteps := 9^7) only [go_sem, Nat.reduceAdd, Nat.reduceMul, Nat.reduceSub]
          refine Runs.split (fun c4 => ?_) (fun c4 => ?_)
          case _ =>
            have hpos := bits_pos c4
            have hlow : lowD k.N = k.N[0] := by simp [lowD, List.getD, hpos]
            have hg := getIntA (N := k.N) (i := 0) hpos
            have hb : decide ((0 : Int) ≤ 0 ∧ (0 : Int) < k.N.length) = true := by simp; omega
            simp +decide (maxSteps := 9^7) (disch := first | omega | (simp only [ll]; omega)) only [hg, hb, if_pos, go_sem, Nat.reduceAdd, Nat.reduceMul, Nat.reduceSub]
            refine Runs.split (fun c5 => ?_) (fun c5 => ?_)
            case _ =>
              have c5' : (lowD k.N).tmod 2 = 1 := by rw [hlow]; simpa using c5
              simp +decide (maxSteps := 9^7) only [go_sem, Nat.reduceAdd, Nat.reduceMul, Nat.reduceSub]
              refine Runs.call (l1In hm k.e 3 65537) ?_
              simp +decide (maxSteps := 9^7) only [go_sem, Nat.reduceAdd, Nat.reduceMul, Nat.reduceSub]
              refine Runs.split (fun c6 => ?_) (fun c6 => ?_)
              case _ =>
                simp +decide (maxSteps := 9^7) only [go_sem, Nat.reduceAdd, Nat.reduceMul, Nat.reduceSub]
                exact Runs.ret_eq (by simp [keyB, k1', c1, c2, c3, c4, c5', c6])
              simp +decide (maxSteps := 9^7) only [go_sem, Nat.reduceAdd, Nat.reduceMul, Nat.reduceSub]
              exact Runs.ret_eq (by rw [show keyB k = false by simp [keyB, k1', c6]])
            have : ¬ (lowD k.N).tmod 2 = 1 := by rw [hlow]; simpa using c5
            simp +decide (maxSteps := 9^7) only [go_sem, Nat.reduceAdd, Nat.reduceMul, Nat.reduceSub]
            exact Runs.ret_eq (by rw [show keyB k = false by simp [keyB, k1', this]])
          simp +decide (maxSteps := 9^7) only [go_sem, Nat.reduceAdd, Nat.reduceMul, Nat.reduceSub]
          exact Runs.ret_eq (by rw [show keyB k = false by simp [keyB, k1', c4]])
        simp +decide (maxSteps := 9^7) only [go_sem, Nat.reduceAdd, Nat.reduceMul, Nat.reduceSub]
        exact Runs.ret_eq (by rw [show keyB k = false by simp [keyB, k1', c3]])
      simp +decide (maxSteps := 9^7) only [go_sem, Nat.reduceAdd, Nat.reduceMul, Nat.reduceSub]
      exact Runs.ret_eq (by rw [show keyB k = false by simp [keyB, k1', c2]])
    simp +decide (maxSteps := 9^7) only [go_sem, Nat.reduceAdd, Nat.reduceMul, Nat.reduceSub]
    exact Runs.ret_eq (by rw [show keyB k = false by simp [keyB, k1', c1]])
  · have k1' : ¬ k.kind = 1 := by simpa using k1
    simp +decide (maxSteps := 9^7) only [go_sem, Nat.reduceAdd, Nat.reduceMul, Nat.reduceSub]
    refine Runs.split (fun k2 => ?_) (fun k2 => ?_)
    · have k2' : k.kind = 2 := by simpa using k2
      simp +decide (maxSteps := 9^7) only [go_sem, Nat.reduceAdd, Nat.reduceMul, Nat.reduceSub]
      refine Runs.call n3 ?_
      simp +decide (maxSteps := 9^7) only [go_sem, Nat.reduceAdd, Nat.reduceMul, Nat.reduceSub]
      refine Runs.split (fun c1 => ?_) (fun c1 => ?_)
      case _ =>
        simp +decide (maxSteps := 9^7) only [go_sem, Nat.reduceAdd, Nat.reduceMul, Nat.reduceSub]
        refine Runs.call n2 ?_
        simp +decide (maxSteps := 9^7) only [go_sem, Nat.reduceAdd, Nat.reduceMul, Nat.reduceSub]
        refine Runs.split (fun c2 => ?_) (fun c2 => ?_)
        case _ =>
          simp +decide (maxSteps := 9^7) only [go_sem, Nat.reduceAdd, Nat.reduceMul, Nat.reduceSub]
          refine Runs.call nP ?_
          simp +decide (maxSteps := 9^7) only [go_sem, Nat.reduceAdd, Nat.reduceMul, Nat.reduceSub]
          refine Runs.split (fun c3 => ?_) (fun c3 => ?_)
          case _ =>
            have c3' : curveB k.cv = true ∧ onZ k.cv.p k.cv.a k.cv.b k.q = true := by simpa using c3
            simp +decide (maxSteps := 9^7) only [go_sem, Nat.reduceAdd, Nat.reduceMul, Nat.reduceSub]
            refine Runs.split (fun c4 => ?_) (fun c4 => ?_)
            case _ =>
              have c4' : k.q.far = false := by simpa using c4
              have kin := curve_in c3'.1
              have hp : 0 < k.cv.p := by have := kin.1; omega
              have hn : ((k.cv.n.toNat : Nat) : Int) = k.cv.n := Int.toNat_of_nonneg (curve_n c3'.1).1
              have hM := l3Mul hm k.cv k.cv.n.toNat k.q kin (onZ_in hp c3'.2) (by have := (curve_n c3'.1).2; omega)
              rw [hn] at hM
              simp +decide (maxSteps := 9^7) only [go_sem, Nat.reduceAdd, Nat.reduceMul, Nat.reduceSub]
              refine Runs.call hM ?_
              simp +decide (maxSteps := 9^7) only [go_sem, Nat.reduceAdd, Nat.reduceMul, Nat.reduceSub]
              exact Runs.ret_eq (by simp [keyB, k2', c1, c2, c3', c4'])
            have c4' : k.q.far = true := by simpa using c4
            simp +decide (maxSteps := 9^7) only [go_sem, Nat.reduceAdd, Nat.reduceMul, Nat.reduceSub]
            exact Runs.ret_eq (by rw [show keyB k = false by simp [keyB, k2', c4']])
          have : (curveB k.cv && onZ k.cv.p k.cv.a k.cv.b k.q) = false := c3
          simp +decide (maxSteps := 9^7) only [go_sem, Nat.reduceAdd, Nat.reduceMul, Nat.reduceSub]
          exact Runs.ret_eq (by rw [show keyB k = false by simp only [keyB, k2', this]; simp])
        simp +decide (maxSteps := 9^7) only [go_sem, Nat.reduceAdd, Nat.reduceMul, Nat.reduceSub]
        exact Runs.ret_eq (by rw [show keyB k = false by simp [keyB, k2', c2]])
      simp +decide (maxSteps := 9^7) only [go_sem, Nat.reduceAdd, Nat.reduceMul, Nat.reduceSub]
      exact Runs.ret_eq (by rw [show keyB k = false by simp [keyB, k2', c1]])
    · have k2' : ¬ k.kind = 2 := by simpa using k2
      simp +decide (maxSteps := 9^7) only [go_sem, Nat.reduceAdd, Nat.reduceMul, Nat.reduceSub]
      refine Runs.split (fun k3 => ?_) (fun k3 => ?_)
      · have k3' : k.kind = 3 := by simpa using k3
        simp +decide (maxSteps := 9^7) only [go_sem, Nat.reduceAdd, Nat.reduceMul, Nat.reduceSub]
        refine Runs.call n3 ?_
        simp +decide (maxSteps := 9^7) only [go_sem, Nat.reduceAdd, Nat.reduceMul, Nat.reduceSub]
        refine Runs.split (fun c1 => ?_) (fun c1 => ?_)
        case _ =>
          simp +decide (maxSteps := 9^7) only [go_sem, Nat.reduceAdd, Nat.reduceMul, Nat.reduceSub]
          refine Runs.call n1 ?_
          simp +decide (maxSteps := 9^7) only [go_sem, Nat.reduceAdd, Nat.reduceMul, Nat.reduceSub]
          refine Runs.split (fun c2 => ?_) (fun c2 => ?_)
          case _ =>
            simp +decide (maxSteps := 9^7) only [go_sem, Nat.reduceAdd, Nat.reduceMul, Nat.reduceSub]
            refine Runs.call nE ?_
            simp +decide (maxSteps := 9^7) only [go_sem, Nat.reduceAdd, Nat.reduceMul, Nat.reduceSub]
            exact Runs.ret_eq (by simp [keyB, k3', c1, c2])
          simp +decide (maxSteps := 9^7) only [go_sem, Nat.reduceAdd, Nat.reduceMul, Nat.reduceSub]
          exact Runs.ret_eq (by rw [show keyB k = false by simp [keyB, k3', c2]])
        simp +decide (maxSteps := 9^7) only [go_sem, Nat.reduceAdd, Nat.reduceMul, Nat.reduceSub]
        exact Runs.ret_eq (by rw [show keyB k = false by simp [keyB, k3', c1]])
      · have k3' : ¬ k.kind = 3 := by simpa using k3
        simp +decide (maxSteps := 9^7) only [go_sem, Nat.reduceAdd, Nat.reduceMul, Nat.reduceSub]
        exact Runs.ret_eq (by simp [keyB, k1', k2', k3'])
set_option maxRecDepth 10000 in
set_option maxHeartbeats 8000000 in
include hm in
theorem iKeyOk (k : GKey) (h3 : k.N.length ≤ 9223372036854775807) : Holds Tryz.prog 63 [keyA k] [] (.v (.bool (keyB k))) [] := by
  refine holds_ref (ann := []) tabOk hm (byL [] [1000001]) Tryz.func63 (by kernel_rfl) rfl ?_
  have s1 := sameK hm k ⟨1, k.N, k.e, cv0, pt0, ed0, pr0⟩ h3 h3
  have s2 := sameK hm k ⟨2, [], 0, k.cv, k.q, ed0, pr0⟩ h3 (by simp)
  have s3 := sameK hm k ⟨3, [], 0, cv0, pt0, k.ed, k.a⟩ h3 (by simp)
  rw [same_rsa] at s1
  rw [same_curve] at s2
  rw [same_ed] at s3
  have nN := iNatOk hm k.N h3
  have nP := iPointOk hm k.cv k.q
  have nE := iPairOk hm k.ed k.a
  simp +decide (maxSteps := 9^7) only [Tryz.f63, go_sem, Nat.reduceAdd, Nat.reduceMul, Nat.reduceSub]
  refine Runs.split (fun k1 => ?_) (fun k1 => ?_)
  · have k1' : k.kind = 1 := by simpa using k1
    simp only [k1', decide_true, Bool.true_and] at s1
    simp +decide (maxSteps := 9^7) only [go_sem, Nat.reduceAdd, Nat.reduceMul, Nat.reduceSub]
    refine Runs.call (Holds.le s1 (by simp only [keyA, k1', cv0, pt0, ed0, pr0, List.map_nil]; exact LeD.refl _)) ?_
    simp +decide (maxSteps := 9^7) only [go_sem, Nat.reduceAdd, Nat.reduceMul, Nat.reduceSub]
    refine Runs.split (fun c1 => ?_) (fun c1 => ?_)
    case _ =>
      have : (noCurve k && noEd k) = false := by first | exact c1 | (rw [Bool.not_eq_true'] at c1; exact c1)
      simp +decide (maxSteps := 9^7) only [go_sem, Nat.reduceAdd, Nat.reduceMul, Nat.reduceSub]
      exact Runs.ret_eq (by rw [show keyB k = false by (have t := this; simp only [Bool.and_eq_false_iff] at t; rcases t with t | t <;> simp [keyB, k1', t])])
    have c1' : noCurve k = true ∧ noEd k = true := by simpa using c1
    simp +decide (maxSteps := 9^7) only [go_sem, Nat.reduceAdd, Nat.reduceMul, Nat.reduceSub]
    refine Runs.call nN ?_
    simp +decide (maxSteps := 9^7) only [go_sem, Nat.reduceAdd, Nat.reduceMul, Nat.reduceSub]
    refine Runs.split (fun c3 => ?_) (fun c3 => ?_)
    case _ =>
      have c3' : natB k.N = false := by simpa using c3
      simp +decide (maxSteps := 9^7) only [go_sem, Nat.reduceAdd, Nat.reduceMul, Nat.reduceSub]
      exact Runs.ret_eq (by rw [show keyB k = false by simp [keyB, k1', c3']])
    have c3' : natB k.N = true := by simpa using c3
    simp +decide (maxSteps := 9^7) only [go_sem, Nat.reduceAdd, Nat.reduceMul, Nat.reduceSub]
    refine Runs.call (natBits hm k.N c3') ?_
    simp +decide (maxSteps := 9^7) only [go_sem, Nat.reduceAdd, Nat.reduceMul, Nat.reduceSub]
    refine Runs.call (within hm (bitsZ k.N) 128 512) ?_
    simp +decide (maxSteps := 9^7) only [go_sem, Nat.reduceAdd, Nat.reduceMul, Nat.reduceSub]
    refine Runs.split (fun c4 => ?_) (fun c4 => ?_)
    case _ =>
      have c4' : inB (bitsZ k.N) 128 512 = false := by simpa using c4
      simp +decide (maxSteps := 9^7) only [go_sem, Nat.reduceAdd, Nat.reduceMul, Nat.reduceSub]
      exact Runs.ret_eq (by rw [show keyB k = false by simp [keyB, k1', c4']])
    have c4' : inB (bitsZ k.N) 128 512 = true := by simpa using c4
    have hpos := bits_pos c4'
    have hlow : lowD k.N = k.N[0] := by simp [lowD, List.getD, hpos]
    have hg := getIntA (N := k.N) (i := 0) hpos
    have hb : decide ((0 : Int) ≤ 0 ∧ (0 : Int) < k.N.length) = true := by simp; omega
    simp +decide (maxSteps := 9^7) (disch := first | omega | (simp only [ll]; omega)) only [hg, hb, if_pos, go_sem, Nat.reduceAdd, Nat.reduceMul, Nat.reduceSub]
    refine Runs.split (fun c5 => ?_) (fun c5 => ?_)
    case _ =>
      have c5' : (lowD k.N).tmod 2 = 1 := by rw [hlow]; simpa using c5
      simp +decide (maxSteps := 9^7) only [go_sem, Nat.reduceAdd, Nat.reduceMul, Nat.reduceSub]
      refine Runs.call (within hm k.e 3 65537) ?_
      simp +decide (maxSteps := 9^7) only [go_sem, Nat.reduceAdd, Nat.reduceMul, Nat.reduceSub]
      refine Runs.split (fun c6 => ?_) (fun c6 => ?_)
      case _ =>
        simp +decide (maxSteps := 9^7) only [go_sem, Nat.reduceAdd, Nat.reduceMul, Nat.reduceSub]
        exact Runs.ret_eq (by simp [keyB, k1', c1', c3', c4', c5', c6])
      simp +decide (maxSteps := 9^7) only [go_sem, Nat.reduceAdd, Nat.reduceMul, Nat.reduceSub]
      exact Runs.ret_eq (by rw [show keyB k = false by simp [keyB, k1', c6]])
    have : ¬ (lowD k.N).tmod 2 = 1 := by rw [hlow]; simpa using c5
    simp +decide (maxSteps := 9^7) only [go_sem, Nat.reduceAdd, Nat.reduceMul, Nat.reduceSub]
    exact Runs.ret_eq (by rw [show keyB k = false by simp [keyB, k1', this]])
  · have k1' : ¬ k.kind = 1 := by simpa using k1
    simp +decide (maxSteps := 9^7) only [go_sem, Nat.reduceAdd, Nat.reduceMul, Nat.reduceSub]
    refine Runs.split (fun k2 => ?_) (fun k2 => ?_)
    · have k2' : k.kind = 2 := by simpa using k2
      simp only [k2', decide_true, Bool.true_and] at s2
      simp +decide (maxSteps := 9^7) only [go_sem, Nat.reduceAdd, Nat.reduceMul, Nat.reduceSub]
      refine Runs.call (Holds.le s2 (by simp only [keyA, k2', cv0, pt0, ed0, pr0, List.map_nil]; exact .same _ (.agg (.same _ (.nils _ (LeD.refl _))) .nil))) ?_
      simp +decide (maxSteps := 9^7) only [go_sem, Nat.reduceAdd, Nat.reduceMul, Nat.reduceSub]
      refine Runs.split (fun c1 => ?_) (fun c1 => ?_)
      case _ =>
        have c1' : noRsa k = true ∧ noEd k = true := by simpa using c1
        simp +decide (maxSteps := 9^7) only [go_sem, Nat.reduceAdd, Nat.reduceMul, Nat.reduceSub]
        refine Runs.call nP ?_
        simp +decide (maxSteps := 9^7) only [go_sem, Nat.reduceAdd, Nat.reduceMul, Nat.reduceSub]
        refine Runs.split (fun c3 => ?_) (fun c3 => ?_)
        case _ =>
          have c3' : curveB k.cv = true ∧ onZ k.cv.p k.cv.a k.cv.b k.q = true := by simpa using c3
          simp +decide (maxSteps := 9^7) only [go_sem, Nat.reduceAdd, Nat.reduceMul, Nat.reduceSub]
          refine Runs.split (fun c4 => ?_) (fun c4 => ?_)
          case _ =>
            have c4' : k.q.far = false := by simpa using c4
            have kin := curve_in c3'.1
            have hp : 0 < k.cv.p := by have := kin.1; omega
            have hn : ((k.cv.n.toNat : Nat) : Int) = k.cv.n := Int.toNat_of_nonneg (curve_n c3'.1).1
            have hM := timesC hm k.cv k.cv.n.toNat k.q kin (onZ_in hp c3'.2) (by have := (curve_n c3'.1).2; omega)
            rw [hn, times_same (by have := kin.1; omega) (curve_p c3'.1) (curve_d c3'.1) c3'.2 k.cv.n.toNat] at hM
            simp +decide (maxSteps := 9^7) only [go_sem, Nat.reduceAdd, Nat.reduceMul, Nat.reduceSub]
            refine Runs.call hM ?_
            simp +decide (maxSteps := 9^7) only [go_sem, Nat.reduceAdd, Nat.reduceMul, Nat.reduceSub]
            exact Runs.ret_eq (by simp [keyB, k2', c1', c3', c4'])
          have c4' : k.q.far = true := by simpa using c4
          simp +decide (maxSteps := 9^7) only [go_sem, Nat.reduceAdd, Nat.reduceMul, Nat.reduceSub]
          exact Runs.ret_eq (by rw [show keyB k = false by simp [keyB, k2', c4']])
        have : (curveB k.cv && onZ k.cv.p k.cv.a k.cv.b k.q) = false := c3
        simp +decide (maxSteps := 9^7) only [go_sem, Nat.reduceAdd, Nat.reduceMul, Nat.reduceSub]
        exact Runs.ret_eq (by rw [show keyB k = false by simp only [keyB, k2', this]; simp])
      have : (noRsa k && noEd k) = false := by first | exact c1 | (rw [Bool.not_eq_true'] at c1; exact c1)
      simp +decide (maxSteps := 9^7) only [go_sem, Nat.reduceAdd, Nat.reduceMul, Nat.reduceSub]
      exact Runs.ret_eq (by rw [show keyB k = false by (have t := this; simp only [Bool.and_eq_false_iff] at t; rcases t with t | t <;> simp [keyB, k2', t])])
    · have k2' : ¬ k.kind = 2 := by simpa using k2
      simp +decide (maxSteps := 9^7) only [go_sem, Nat.reduceAdd, Nat.reduceMul, Nat.reduceSub]
      refine Runs.split (fun k3 => ?_) (fun k3 => ?_)
      · have k3' : k.kind = 3 := by simpa using k3
        simp only [k3', decide_true, Bool.true_and] at s3
        simp +decide (maxSteps := 9^7) only [go_sem, Nat.reduceAdd, Nat.reduceMul, Nat.reduceSub]
        refine Runs.call (Holds.le s3 (by simp only [keyA, k3', cv0, pt0, ed0, pr0, List.map_nil]; exact .same _ (.agg (.same _ (.nils _ (LeD.refl _))) .nil))) ?_
        simp +decide (maxSteps := 9^7) only [go_sem, Nat.reduceAdd, Nat.reduceMul, Nat.reduceSub]
        refine Runs.split (fun c1 => ?_) (fun c1 => ?_)
        case _ =>
          have c1' : noRsa k = true ∧ noCurve k = true := by simpa using c1
          simp +decide (maxSteps := 9^7) only [go_sem, Nat.reduceAdd, Nat.reduceMul, Nat.reduceSub]
          refine Runs.call nE ?_
          simp +decide (maxSteps := 9^7) only [go_sem, Nat.reduceAdd, Nat.reduceMul, Nat.reduceSub]
          exact Runs.ret_eq (by simp [keyB, k3', c1'])
        have : (noRsa k && noCurve k) = false := by first | exact c1 | (rw [Bool.not_eq_true'] at c1; exact c1)
        simp +decide (maxSteps := 9^7) only [go_sem, Nat.reduceAdd, Nat.reduceMul, Nat.reduceSub]
        exact Runs.ret_eq (by rw [show keyB k = false by (have t := this; simp only [Bool.and_eq_false_iff] at t; rcases t with t | t <;> simp [keyB, k3', t])])
      · have k3' : ¬ k.kind = 3 := by simpa using k3
        simp +decide (maxSteps := 9^7) only [go_sem, Nat.reduceAdd, Nat.reduceMul, Nat.reduceSub]
        exact Runs.ret_eq (by simp [keyB, k1', k2', k3'])
end Go.Proofs.W

namespace Go.Proofs.W
open Go Go.AM
variable (hm : Tryz.prog.follows .mixedOrders = true)
set_option maxRecDepth 10000 in
include hm in
theorem bitsOf (B : List Int) (h : B.length ≤ 1073741823) : Holds Tryz.prog 30 [.sl .sh (B.map u8A)] [] (nodeO (.mk 3 (0 :: B) [])) [] := by
  refine holds_ref (ann := []) tabOk hm (byL [] [72]) Tryz.func30 (by kernel_rfl) rfl ?_
  simp +decide (disch := first | omega | (simp only [ll]; omega)) only [Tryz.f30, if_pos, go_sem, Nat.reduceAdd, Nat.reduceMul, Nat.reduceSub]
  refine Runs.call' (as' := [.v (.int .i64 3), .sl (.ow 1) ((0 :: B).map u8A)]) (by simp [u8A]) (leaf hm 3 (0 :: B)) ?_
  simp +decide only [nodeO, nodesO, go_sem, Nat.reduceAdd, Nat.reduceMul, Nat.reduceSub]
  exact Runs.ret_refl
end Go.Proofs.W

namespace Go.Proofs.W
open Go Go.AM Go.Proofs.G
set_option maxRecDepth 10000
variable (hm : Tryz.prog.follows .mixedOrders = true)
attribute [local go_sem] keyA edA prA cvA ptA
def natSz (N : List Int) : Nat := ((bitsZ N + 7) / 8).toNat
def padB : List Int → List Int
  | [] => [0]
  | x :: r => if x > 127 then 0 :: x :: r else x :: r
theorem padB_length (b : List Int) : (padB b).length ≤ b.length + 1 := by
  cases b with
  | nil => simp [padB]
  | cons x r => simp only [padB]; split <;> simp
theorem natSz_in {N : List Int} (h : inB (bitsZ N) 128 512 = true) : 16 ≤ natSz N ∧ natSz N ≤ 64 ∧ (bitsZ N + 7).tdiv 8 = natSz N ∧ bitsZ N ≤ 8 * (natSz N : Int) := by
  have := inB_t h
  unfold natSz
  refine ⟨by omega, by omega, ?_, by omega⟩
  rw [Int.tdiv_eq_ediv_of_nonneg (by omega)]
  omega
def natBB (N : List Int) : List Int := padB (natBy N (natSz N))
theorem natBB_le {N : List Int} (h : inB (bitsZ N) 128 512 = true) : (natBB N).length ≤ 65 := by
  have := padB_length (natBy N (natSz N))
  have := (natSz_in h).2.1
  rw [natBy_length] at *
  unfold natBB
  omega
theorem padU (x : Int) (r : List Int) : (if x > 127 then 0 :: x :: r else x :: r) = padB (x :: r) := rfl
set_option maxHeartbeats 1000000 in
include hm in
theorem l10Nat (N : List Int) (hN : natB N = true) (hb : inB (bitsZ N) 128 512 = true) : Holds Tryz.prog 100 [.sl .sh (N.map intA)] [] (.sl (.ow 3) [itemO ⟨2, natBB N, 0⟩]) [] := by
  obtain ⟨s1, s2, s3, s4⟩ := natSz_in hb
  have b1 := inB_t hb
  have hc := sNatBytes hm N (natSz N) hN (by omega) s4
  have hl := natBy_length N (natSz N)
  rw [natBB]
  generalize natBy N (natSz N) = B at *
  refine holds_ref (ann := []) tabOk hm (byL [] [21]) Tryz.func100 (by kernel_rfl) rfl ?_
  simp +decide only [Tryz.f100, go_sem, Nat.reduceAdd, Nat.reduceMul, Nat.reduceSub]
  refine Runs.call (l1Bits hm N hN) ?_
  simp +decide (disch := first | omega | (simp only [ll]; omega)) only [s3, if_pos, go_sem, Nat.reduceAdd, Nat.reduceMul, Nat.reduceSub]
  refine Runs.call hc ?_
  cases B with
  | nil => simp at hl; omega
  | cons x r =>
    simp only [List.map_cons, List.length_cons] at hl ⊢
    have hd : decide (((r.length + 1 : Nat) : Int) = 0) = false := by simp; omega
    have hd2 : decide ((0 : Int) < ((r.length + 1 : Nat) : Int)) = true := by simp
    by_cases g : x > 127
    · have gd : decide (x > 127) = true := by simpa using g
      have hi := l10Item hm 2 (0 :: x :: r)
      have e : padB (x :: r) = 0 :: x :: r := by rw [padB, if_pos g]
      simp only [List.map_cons, u8A] at hi
      rw [e]
      simp +decide (disch := first | omega | (simp only [ll]; omega)) only [List.length_cons, List.length_map, hd, hd2, Int.toNat_zero, List.getD_cons_zero, gd, if_pos, go_sem, Nat.reduceAdd, Nat.reduceMul, Nat.reduceSub]
      refine Runs.call hi ?_
      simp +decide (disch := first | omega | (simp only [ll]; omega)) only [itemO, if_pos, go_sem, Nat.reduceAdd, Nat.reduceMul, Nat.reduceSub]
      exact Runs.ret_refl
    · have gd : decide (x > 127) = false := by simpa using g
      have hi := l10Item hm 2 (x :: r)
      have e : padB (x :: r) = x :: r := by rw [padB, if_neg g]
      simp only [List.map_cons, u8A] at hi
      rw [e]
      simp +decide (disch := first | omega | (simp only [ll]; omega)) only [List.length_cons, List.length_map, hd, hd2, Int.toNat_zero, List.getD_cons_zero, gd, if_pos, go_sem, Nat.reduceAdd, Nat.reduceMul, Nat.reduceSub]
      refine Runs.call hi ?_
      simp +decide (disch := first | omega | (simp only [ll]; omega)) only [itemO, if_pos, go_sem, Nat.reduceAdd, Nat.reduceMul, Nat.reduceSub]
      exact Runs.ret_refl
set_option maxHeartbeats 1000000 in
include hm in
theorem natural (N : List Int) (hN : natB N = true) (hb : inB (bitsZ N) 128 512 = true) : Holds Tryz.prog 125 [.sl .sh (N.map intA)] [] (nodeO (.mk 2 (natBB N) [])) [] := by
  obtain ⟨s1, s2, s3, s4⟩ := natSz_in hb
  have b1 := inB_t hb
  have hc := iNatBytes hm N (natSz N) hN (by omega) s4
  have hl := natBy_length N (natSz N)
  rw [natBB]
  generalize natBy N (natSz N) = B at *
  refine holds_ref (ann := []) tabOk hm (byL [] [72]) Tryz.func125 (by kernel_rfl) rfl ?_
  simp +decide only [Tryz.f125, go_sem, Nat.reduceAdd, Nat.reduceMul, Nat.reduceSub]
  refine Runs.call (natBits hm N hN) ?_
  simp +decide (disch := first | omega | (simp only [ll]; omega)) only [s3, if_pos, go_sem, Nat.reduceAdd, Nat.reduceMul, Nat.reduceSub]
  refine Runs.call hc ?_
  cases B with
  | nil => simp at hl; omega
  | cons x r =>
    simp only [List.map_cons, List.length_cons] at hl ⊢
    have hd : decide (((r.length + 1 : Nat) : Int) = 0) = false := by simp; omega
    have hd2 : decide ((0 : Int) < ((r.length + 1 : Nat) : Int)) = true := by simp
    by_cases g : x > 127
    · have gd : decide (x > 127) = true := by simpa using g
      have hi := leaf hm 2 (0 :: x :: r)
      have e : padB (x :: r) = 0 :: x :: r := by rw [padB, if_pos g]
      simp only [List.map_cons, u8A] at hi
      rw [e]
      simp +decide (disch := first | omega | (simp only [ll]; omega)) only [List.length_cons, List.length_map, hd, hd2, Int.toNat_zero, List.getD_cons_zero, gd, if_pos, go_sem, Nat.reduceAdd, Nat.reduceMul, Nat.reduceSub]
      refine Runs.call hi ?_
      simp +decide (disch := first | omega | (simp only [ll]; omega)) only [nodeO, nodesO, if_pos, go_sem, Nat.reduceAdd, Nat.reduceMul, Nat.reduceSub]
      exact Runs.ret_refl
    · have gd : decide (x > 127) = false := by simpa using g
      have hi := leaf hm 2 (x :: r)
      have e : padB (x :: r) = x :: r := by rw [padB, if_neg g]
      simp only [List.map_cons, u8A] at hi
      rw [e]
      simp +decide (disch := first | omega | (simp only [ll]; omega)) only [List.length_cons, List.length_map, hd, hd2, Int.toNat_zero, List.getD_cons_zero, gd, if_pos, go_sem, Nat.reduceAdd, Nat.reduceMul, Nat.reduceSub]
      refine Runs.call hi ?_
      simp +decide (disch := first | omega | (simp only [ll]; omega)) only [nodeO, nodesO, if_pos, go_sem, Nat.reduceAdd, Nat.reduceMul, Nat.reduceSub]
      exact Runs.ret_refl
def threeB (x : Int) : List Int := [IntKind.u8.wrap (x.fdiv (2 ^ 16)), IntKind.u8.wrap (x.fdiv (2 ^ 8)), IntKind.u8.wrap x]
theorem s16' : min (16 : Int).toNat 64 = 16 := by decide
include hm in
theorem sThree (x : Int) : Holds Tryz.prog 141 [.v (.int .i64 x)] [] (.sl (.ow 1) ((threeB x).map u8A)) [] := by
  refine holds_of (ann := []) tabOk hm Tryz.func141 (by kernel_rfl) rfl ?_
  simp +decide only [Tryz.f141, s8, s16', IntKind.bits, threeB, List.map_cons, List.map_nil, go_sem, Nat.reduceAdd, Nat.reduceMul, Nat.reduceSub]
  exact Runs.ret_refl
include hm in
theorem iThree (x : Int) : Holds Tryz.prog 165 [.v (.int .i64 x)] [] (.sl (.ow 1) ((threeB x).map u8A)) [] := by
  refine holds_of (ann := []) tabOk hm Tryz.func165 (by kernel_rfl) rfl ?_
  simp +decide only [Tryz.f165, s8, s16', IntKind.bits, threeB, List.map_cons, List.map_nil, go_sem, Nat.reduceAdd, Nat.reduceMul, Nat.reduceSub]
  exact Runs.ret_refl
def ptBy (q : GPt) : List Int := 4 :: (threeB q.x ++ threeB q.y)
def spbS : Sched := .take 1 (.take 5 (.ld 2 (.ld 6 (.alt 0 (.alt 3 (.alt 4 (.alt 7 (.alt 8 (.take 9 (.take 10 .fin)) .nil) .nil) .nil) .nil) (.alt 3 (.alt 0 (.alt 4 (.alt 7 (.alt 8 (.take 9 (.take 10 .fin)) .nil) .nil) .nil) .nil) .nil)))))
attribute [local go_sem] spbS
set_option maxHeartbeats 1000000 in
include hm in
theorem sPointBytes (k : GCv) (q : GPt) (h : (curveB k && onZ k.p k.a k.b q) = true) (hf : q.far = false) :
    Holds Tryz.prog 101 [cvA k, ptA q, .v (.bool false)] [] (.tup [.sl (.ow 1) ((ptBy q).map u8A), .v (.bool true)]) [] := by
  have hc := sPointOk hm k q
  rw [h] at hc
  have h1 := sThree hm q.x
  have h2 := sThree hm q.y
  rw [threeB] at h1 h2
  simp only [List.map_cons, List.map_nil] at h1 h2
  refine holds_ref (ann := []) tabOk hm (byL [] [1000003, 1000004]) Tryz.func101 (by kernel_rfl) rfl ?_
  simp +decide only [Tryz.f101, hf, go_sem, Nat.reduceAdd, Nat.reduceMul, Nat.reduceSub]
  rw [cvA, ptA, hf] at hc
  refine Runs.call hc ?_
  simp +decide only [hf, go_sem, Nat.reduceAdd, Nat.reduceMul, Nat.reduceSub]
  refine Runs.draw (st1 := ?s1) (draws_ref (ann := []) tabOk (byL [] [1000003, 1000004]) spbS (by kernel_rfl) ?p1) ?q1
  case p1 =>
    intro K r X hK
    simp +decide (disch := first | omega | (simp only [ll]; omega)) only [if_pos, go_sem, Nat.reduceAdd, Nat.reduceMul, Nat.reduceSub]
    repeat' apply And.intro
    all_goals
      refine Runs.call h1 ?_
      simp +decide (disch := first | omega | (simp only [ll]; omega)) only [if_pos, go_sem, Nat.reduceAdd, Nat.reduceMul, Nat.reduceSub]
      refine Runs.call h2 ?_
      simp +decide (disch := first | omega | (simp only [ll]; omega)) only [if_pos, go_sem, Nat.reduceAdd, Nat.reduceMul, Nat.reduceSub]
      exact hK
  case q1 =>
    simp +decide (disch := first | omega | (simp only [ll]; omega)) only [ptBy, threeB, List.map_cons, List.map_append, List.map_nil, if_pos, go_sem, Nat.reduceAdd, Nat.reduceMul, Nat.reduceSub]
    exact Runs.ret_refl
def ipbS : Sched := .take 1 (.take 5 (.ld 2 (.ld 6 (.alt 0 (.alt 3 (.alt 4 (.alt 7 (.alt 8 (.take 9 .fin) .nil) .nil) .nil) .nil) (.alt 3 (.alt 0 (.alt 4 (.alt 7 (.alt 8 (.take 9 .fin) .nil) .nil) .nil) .nil) .nil)))))
attribute [local go_sem] ipbS
set_option maxHeartbeats 1000000 in
include hm in
theorem iPointBytes (q : GPt) (hf : q.far = false) : Holds Tryz.prog 127 [ptA q, .v (.bool false)] [] (.sl (.ow 1) ((ptBy q).map u8A)) [] := by
  have h1 := iThree hm q.x
  have h2 := iThree hm q.y
  rw [threeB] at h1 h2
  simp only [List.map_cons, List.map_nil] at h1 h2
  refine holds_ref (ann := []) tabOk hm (byL [] [1000002]) Tryz.func127 (by kernel_rfl) rfl ?_
  simp +decide only [Tryz.f127, hf, go_sem, Nat.reduceAdd, Nat.reduceMul, Nat.reduceSub]
  refine Runs.draw (st1 := ?s1) (draws_ref (ann := []) tabOk (byL [] [1000002]) ipbS (by kernel_rfl) ?p1) ?q1
  case p1 =>
    intro K r X hK
    simp +decide (disch := first | omega | (simp only [ll]; omega)) only [if_pos, go_sem, Nat.reduceAdd, Nat.reduceMul, Nat.reduceSub]
    repeat' apply And.intro
    all_goals
      refine Runs.call h1 ?_
      simp +decide (disch := first | omega | (simp only [ll]; omega)) only [if_pos, go_sem, Nat.reduceAdd, Nat.reduceMul, Nat.reduceSub]
      refine Runs.call h2 ?_
      simp +decide (disch := first | omega | (simp only [ll]; omega)) only [if_pos, go_sem, Nat.reduceAdd, Nat.reduceMul, Nat.reduceSub]
      exact hK
  case q1 =>
    simp +decide (disch := first | omega | (simp only [ll]; omega)) only [ptBy, threeB, List.map_cons, List.map_append, List.map_nil, if_pos, go_sem, Nat.reduceAdd, Nat.reduceMul, Nat.reduceSub]
    exact Runs.ret_refl
def edBy (a : GPr) : List Int := [IntKind.u8.wrap a.2, IntKind.u8.wrap (a.2.fdiv (2 ^ 8)), IntKind.u8.wrap (a.2.fdiv (2 ^ 16) + 128 * a.1.tmod 2)]
theorem or128 : ∀ n : Fin 128, IntKind.i64.wrap ((BitVec.ofInt 64 (n.1 : Int) ||| BitVec.ofInt 64 128).toNat) = (n.1 : Int) + 128 ∧ IntKind.i64.wrap ((BitVec.ofInt 64 (n.1 : Int) ||| BitVec.ofInt 64 0).toNat) = (n.1 : Int) := by decide
set_option maxHeartbeats 1000000 in
include hm in
theorem sEdBytes (k : GEd) (a : GPr) (h : (edB k && eonZ k.p k.d a) = true) : Holds Tryz.prog 103 [edA k, prA a] [] (.tup [.sl (.ow 1) ((edBy a).map u8A), .v (.bool true)]) [] := by
  have hc := sPairOk hm k a
  rw [h, edA, prA] at hc
  simp only [Bool.and_eq_true] at h
  have hi := eonZ_in h.2
  have hp := ed_in h.1
  obtain ⟨⟨i1, i2⟩, i3, i4⟩ := hi
  obtain ⟨p1, p2, _⟩ := hp
  have m1 : 0 ≤ a.1.tmod 2 ∧ a.1.tmod 2 ≤ 1 := by rw [Int.tmod_eq_emod_of_nonneg (by omega)]; omega
  have f1 : 0 ≤ a.2.fdiv (2 ^ 16) ∧ a.2.fdiv (2 ^ 16) ≤ 100 := by rw [Int.fdiv_eq_ediv_of_nonneg _ (by omega)]; omega
  have w1 : IntKind.i64.wrap (128 * a.1.tmod 2) = 128 * a.1.tmod 2 := wrap_i64 (by omega) (by omega)
  have w2 : IntKind.i64.wrap (a.2.fdiv (2 ^ 16) + 128 * a.1.tmod 2) = a.2.fdiv (2 ^ 16) + 128 * a.1.tmod 2 := wrap_i64 (by omega) (by omega)
  refine holds_ref (ann := []) tabOk hm (byL [] [1000002, 1000003]) Tryz.func103 (by kernel_rfl) rfl ?_
  simp +decide only [Tryz.f103, go_sem, Nat.reduceAdd, Nat.reduceMul, Nat.reduceSub]
  refine Runs.call hc ?_
  simp +decide only [s8, s16', IntKind.bits, w1, w2, edBy, List.map_cons, List.map_nil, go_sem, Nat.reduceAdd, Nat.reduceMul, Nat.reduceSub]
  exact Runs.ret_refl
set_option maxHeartbeats 1000000 in
include hm in
theorem iEdBytes (k : GEd) (a : GPr) (h : (edB k && eonZ k.p k.d a) = true) : Holds Tryz.prog 128 [prA a] [] (.sl (.ow 1) ((edBy a).map u8A)) [] := by
  simp only [Bool.and_eq_true] at h
  have hi := eonZ_in h.2
  have hp := ed_in h.1
  obtain ⟨⟨i1, i2⟩, i3, i4⟩ := hi
  obtain ⟨p1, p2, _⟩ := hp
  have m1 : a.1.tmod 2 = 0 ∨ a.1.tmod 2 = 1 := by rw [Int.tmod_eq_emod_of_nonneg (by omega)]; omega
  have f1 : 0 ≤ a.2.fdiv (2 ^ 16) ∧ a.2.fdiv (2 ^ 16) < 128 := by rw [Int.fdiv_eq_ediv_of_nonneg _ (by omega)]; omega
  have s7 : min (7 : Int).toNat 64 = 7 := by decide
  have w1 : IntKind.i64.wrap (a.1.tmod 2 * 2 ^ 7) = 128 * a.1.tmod 2 := by rw [wrap_i64 (by omega) (by omega)]; omega
  have w2 : IntKind.i64.wrap ((BitVec.ofInt 64 (a.2.fdiv (2 ^ 16)) ||| BitVec.ofInt 64 (128 * a.1.tmod 2)).toNat) = a.2.fdiv (2 ^ 16) + 128 * a.1.tmod 2 := by
    have := or128 ⟨(a.2.fdiv (2 ^ 16)).toNat, by omega⟩
    simp only [Int.toNat_of_nonneg f1.1] at this
    rcases m1 with m | m <;> rw [m]
    · rw [show (128 : Int) * 0 = 0 from rfl, this.2]; omega
    · rw [show (128 : Int) * 1 = 128 from rfl, this.1]
  refine holds_ref (ann := []) tabOk hm (byL [] [1000001]) Tryz.func128 (by kernel_rfl) rfl ?_
  have w3 : orI .i64 (a.2.fdiv (2 ^ 16)) (128 * a.1.tmod 2) = a.2.fdiv (2 ^ 16) + 128 * a.1.tmod 2 := w2
  simp +decide only [Tryz.f128, s7, s8, s16', IntKind.bits, w1, w3, edBy, List.map_cons, List.map_nil, go_sem, Nat.reduceAdd, Nat.reduceMul, Nat.reduceSub]
  exact Runs.ret_refl
def keyInts (k : GKey) : List Int := if k.kind = 2 then [2, k.cv.p, k.cv.a, k.cv.b, k.cv.n, k.cv.gx, k.cv.gy] else [3, k.ed.p, k.ed.d, k.ed.l, k.ed.bx, k.ed.by']
def keyPt (k : GKey) : List Int := if k.kind = 2 then ptBy k.q else edBy k.a
def keyT (k : GKey) : List It :=
  if k.kind = 1 then [⟨48, [], 3⟩, intI 1, ⟨2, natBB k.N, 0⟩, intI k.e]
  else ⟨48, [], ((keyInts k).length + 1 : Nat)⟩ :: ((keyInts k).map intI ++ [⟨3, 0 :: keyPt k, 0⟩])
def keyNd (k : GKey) : Nd :=
  if k.kind = 1 then .mk 48 [] [intN 1, .mk 2 (natBB k.N) [], intN k.e]
  else .mk 48 [] ((keyInts k).map intN ++ [.mk 3 (0 :: keyPt k) []])
theorem keyInts_in {k : GKey} (h : keyB k = true) (h1 : k.kind ≠ 1) : ∀ n ∈ keyInts k, -9223372036854775808 ≤ n ∧ n < 9223372036854775808 := by
  unfold keyB at h
  rw [if_neg h1] at h
  unfold keyInts
  split at h
  · rename_i h2
    rw [if_pos h2]
    simp only [Bool.and_eq_true] at h
    have hc := curve_in h.2.2.1.1
    have h3 := h.2.2.1.1
    simp only [curveB, Bool.and_eq_true] at h3
    obtain ⟨⟨⟨⟨⟨⟨⟨⟨⟨c1, _⟩, _⟩, c4⟩, c5⟩, c6⟩, _⟩, _⟩, c9⟩, _⟩ := h3
    have := inB_t c1
    have := inB_t c4
    have := inB_t c5
    have := inB_t c6
    have hp := onZ_in (by omega) c9
    obtain ⟨⟨_, _⟩, _, _⟩ := hp
    simp only at *
    intro n hn
    simp only [List.mem_cons, List.not_mem_nil, or_false] at hn
    omega
  · split at h
    · rename_i h2 h3
      rw [if_neg h2]
      simp only [Bool.and_eq_true] at h
      have h3 := h.2.2.1
      simp only [edB, Bool.and_eq_true] at h3
      obtain ⟨⟨⟨⟨⟨⟨⟨⟨⟨c1, _⟩, _⟩, c4⟩, _⟩, c6⟩, _⟩, c8⟩, _⟩, _⟩ := h3
      have := inB_t c1
      have := inB_t c4
      have := inB_t c6
      have hp := eonZ_in c8
      obtain ⟨⟨_, _⟩, _, _⟩ := hp
      simp only at *
      intro n hn
      simp only [List.mem_cons, List.not_mem_nil, or_false] at hn
      omega
    · simp at h
theorem keyInts_len (k : GKey) : (keyInts k).length ≤ 7 := by unfold keyInts; split <;> simp
theorem keyPt_len (k : GKey) : (keyPt k).length ≤ 7 := by unfold keyPt; split <;> simp [ptBy, threeB, edBy]
def lkS : Sched := .take 1 (.take 5 (.ld 2 (.ld 6 (.alt 0 (.alt 3 (.alt 4 (.alt 7 (.alt 8 (.alt 9 (.take 10 .fin) .nil) .nil) .nil) .nil) .nil) .nil))))
attribute [local go_sem] lkS
set_option maxHeartbeats 4000000 in
include hm in
theorem l10Key (k : GKey) (h : keyB k = true) : Holds Tryz.prog 50 [keyA k] [] (.sl (.ow 3) ((keyT k).map itemO)) [] := by
  have hi := keyInts_in h
  unfold keyB at h
  refine holds_ref (ann := []) tabOk hm (byL [] [19, 21, 1000001]) Tryz.func50 (by kernel_rfl) rfl ?_
  simp +decide (maxSteps := 9^7) only [Tryz.f50, go_sem, Nat.reduceAdd, Nat.reduceMul, Nat.reduceSub]
  refine Runs.split (fun k1 => ?_) (fun k1 => ?_)
  · have k1' : k.kind = 1 := by simpa using k1
    rw [if_pos k1'] at h
    simp only [Bool.and_eq_true] at h
    obtain ⟨_, _, hN, hb, _, he, _⟩ := h
    have he := inB_t he
    have c1 := l10Int hm 1 (by omega) (by omega)
    have c2 := l10Nat hm k.N hN hb
    have c3 := l10Int hm k.e (by omega) (by omega)
    have c4 := l10Made hm 48 3 [intI 1, ⟨2, natBB k.N, 0⟩, intI k.e] (by simp)
    clear hi
    have e : keyT k = ⟨48, [], 3⟩ :: [intI 1, ⟨2, natBB k.N, 0⟩, intI k.e] := by rw [keyT, if_pos k1']
    rw [e]
    simp +decide (maxSteps := 9^7) only [go_sem, Nat.reduceAdd, Nat.reduceMul, Nat.reduceSub]
    refine Runs.draw (st1 := ?s1) (draws_ref (ann := []) tabOk (byL [] [19, 21, 1000001]) lkS (by kernel_rfl) ?p1) ?q1
    case p1 =>
      intro K r X hK
      simp +decide (maxSteps := 9^7) only [go_sem, Nat.reduceAdd, Nat.reduceMul, Nat.reduceSub]
      repeat' apply And.intro
      all_goals
        refine Runs.call c1 ?_
        simp +decide (maxSteps := 9^7) (disch := first | omega | (simp only [ll]; omega)) only [if_pos, go_sem, Nat.reduceAdd, Nat.reduceMul, Nat.reduceSub]
        refine Runs.call c2 ?_
        simp +decide (maxSteps := 9^7) (disch := first | omega | (simp only [ll]; omega)) only [if_pos, go_sem, Nat.reduceAdd, Nat.reduceMul, Nat.reduceSub]
        refine Runs.call c3 ?_
        simp +decide (maxSteps := 9^7) (disch := first | omega | (simp only [ll]; omega)) only [if_pos, go_sem, Nat.reduceAdd, Nat.reduceMul, Nat.reduceSub]
        refine Runs.call' (as' := [.v (.int .i64 48), .v (.int .i64 3), .sl (.ow 3) ([intI 1, ⟨2, natBB k.N, 0⟩, intI k.e].map itemO)]) (by simp [intI, mdL, md1_itemO]) c4 ?_
        simp +decide (maxSteps := 9^7) (disch := first | omega | (simp only [ll]; omega)) only [if_pos, go_sem, Nat.reduceAdd, Nat.reduceMul, Nat.reduceSub]
        exact hK
    case q1 =>
      simp +decide (maxSteps := 9^7) (disch := first | omega | (simp only [ll]; omega)) only [if_pos, go_sem, Nat.reduceAdd, Nat.reduceMul, Nat.reduceSub]
      exact Runs.ret_refl
  · have k1' : k.kind ≠ 1 := by simpa using k1
    rw [if_neg k1'] at h
    have hi := hi k1'
    have c2 := l10Ints hm (keyInts k) (by have := keyInts_len k; omega) hi
    have e : keyT k = ⟨48, [], ((keyInts k).length + 1 : Nat)⟩ :: ((keyInts k).map intI ++ [⟨3, 0 :: keyPt k, 0⟩]) := by rw [keyT, if_neg k1']
    rw [e]
    simp +decide (maxSteps := 9^7) only [go_sem, Nat.reduceAdd, Nat.reduceMul, Nat.reduceSub]
    refine Runs.split (fun k2 => ?_) (fun k2 => ?_)
    · have k2' : k.kind = 2 := by simpa using k2
      rw [if_pos k2'] at h
      simp only [Bool.and_eq_true] at h
      obtain ⟨_, _, hP, hf, _⟩ := h
      have hf : k.q.far = false := by simpa using hf
      have c1 := sPointBytes hm k.cv k.q (by simpa [Bool.and_eq_true] using hP) hf
      have ek : (keyInts k).map intA = [.v (.int .i64 2), .v (.int .i64 k.cv.p), .v (.int .i64 k.cv.a), .v (.int .i64 k.cv.b), .v (.int .i64 k.cv.n), .v (.int .i64 k.cv.gx), .v (.int .i64 k.cv.gy)] := by
        rw [keyInts, if_pos k2']; rfl
      have el : (keyInts k).length = 7 := by rw [keyInts, if_pos k2']; rfl
      have ep : keyPt k = ptBy k.q := by rw [keyPt, if_pos k2']
      rw [ek] at c2
      rw [cvA, ptA, hf] at c1
      rw [el, ep]
      have hJ : ((keyInts k).map intI).length = 7 := by rw [List.length_map, el]
      have hB : (ptBy k.q).length = 7 := rfl
      clear hi ek e
      generalize (keyInts k).map intI = J at *
      generalize ptBy k.q = B at *
      have c3 := l10Item hm 3 (0 :: B)
      have c4 := l10Made hm 48 8 (J ++ [⟨3, 0 :: B, 0⟩]) (by simp; omega)
      have hJ2 : (J.map itemO).length = 7 := by rw [List.length_map, hJ]
      have hB2 : (B.map u8A).length = 7 := by rw [List.length_map, hB]
      have hJt : List.take 7 (J.map itemO) = J.map itemO := List.take_of_length_le (by omega)
      have hBt : List.take 7 (B.map u8A) = B.map u8A := List.take_of_length_le (by omega)
      simp +decide (maxSteps := 9^7) (disch := first | omega | (simp only [ll]; omega)) only [hf, if_pos, go_sem, Nat.reduceAdd, Nat.reduceMul, Nat.reduceSub]
      refine Runs.call c1 ?_
      simp +decide (maxSteps := 9^7) (disch := first | omega | (simp only [ll]; omega)) only [hf, hB2, hBt, if_pos, go_sem, Nat.reduceAdd, Nat.reduceMul, Nat.reduceSub]
      refine Runs.call c2 ?_
      simp +decide (maxSteps := 9^7) (disch := first | omega | (simp only [ll]; omega)) only [hf, hB2, hBt, hJ2, hJt, if_pos, go_sem, Nat.reduceAdd, Nat.reduceMul, Nat.reduceSub]
      refine Runs.call' (as' := [.v (.int .i64 3), .sl (.ow 1) ((0 :: B).map u8A)]) (by simp [u8A, mdL, A.md, md_u8A]) c3 ?_
      simp +decide (maxSteps := 9^7) (disch := first | omega | (simp only [ll]; omega)) only [hf, hB2, hBt, hJ2, hJt, List.length_append, if_pos, go_sem, Nat.reduceAdd, Nat.reduceMul, Nat.reduceSub]
      refine Runs.call' (as' := [.v (.int .i64 48), .v (.int .i64 8), .sl (.ow 3) ((J ++ ([⟨3, 0 :: B, 0⟩] : List It)).map itemO)]) (by simp [mdL_append, md_itemO, mdL, md1_itemO, -List.map_map]) c4 ?_
      simp +decide (maxSteps := 9^7) (disch := first | omega | (simp only [ll]; omega)) only [if_pos, go_sem, Nat.reduceAdd, Nat.reduceMul, Nat.reduceSub]
      exact Runs.ret_refl
    · have k2' : k.kind ≠ 2 := by simpa using k2
      rw [if_neg k2'] at h
      split at h
      case isFalse => simp at h
      simp only [Bool.and_eq_true] at h
      obtain ⟨_, _, hP⟩ := h
      have c1 := sEdBytes hm k.ed k.a (by simpa [Bool.and_eq_true] using hP)
      have ek : (keyInts k).map intA = [.v (.int .i64 3), .v (.int .i64 k.ed.p), .v (.int .i64 k.ed.d), .v (.int .i64 k.ed.l), .v (.int .i64 k.ed.bx), .v (.int .i64 k.ed.by')] := by
        rw [keyInts, if_neg k2']; rfl
      have el : (keyInts k).length = 6 := by rw [keyInts, if_neg k2']; rfl
      have ep : keyPt k = edBy k.a := by rw [keyPt, if_neg k2']
      rw [ek] at c2
      rw [edA, prA] at c1
      rw [el, ep]
      have hJ : ((keyInts k).map intI).length = 6 := by rw [List.length_map, el]
      have hB : (edBy k.a).length = 3 := rfl
      clear hi ek e
      generalize (keyInts k).map intI = J at *
      generalize edBy k.a = B at *
      have c3 := l10Item hm 3 (0 :: B)
      have c4 := l10Made hm 48 7 (J ++ [⟨3, 0 :: B, 0⟩]) (by simp; omega)
      have hJ2 : (J.map itemO).length = 6 := by rw [List.length_map, hJ]
      have hB2 : (B.map u8A).length = 3 := by rw [List.length_map, hB]
      have hJt : List.take 6 (J.map itemO) = J.map itemO := List.take_of_length_le (by omega)
      have hBt : List.take 3 (B.map u8A) = B.map u8A := List.take_of_length_le (by omega)
      simp +decide (maxSteps := 9^7) (disch := first | omega | (simp only [ll]; omega)) only [if_pos, go_sem, Nat.reduceAdd, Nat.reduceMul, Nat.reduceSub]
      refine Runs.call c1 ?_
      simp +decide (maxSteps := 9^7) (disch := first | omega | (simp only [ll]; omega)) only [hB2, hBt, if_pos, go_sem, Nat.reduceAdd, Nat.reduceMul, Nat.reduceSub]
      refine Runs.call c2 ?_
      simp +decide (maxSteps := 9^7) (disch := first | omega | (simp only [ll]; omega)) only [hB2, hBt, hJ2, hJt, if_pos, go_sem, Nat.reduceAdd, Nat.reduceMul, Nat.reduceSub]
      refine Runs.call' (as' := [.v (.int .i64 3), .sl (.ow 1) ((0 :: B).map u8A)]) (by simp [u8A, mdL, A.md, md_u8A]) c3 ?_
      simp +decide (maxSteps := 9^7) (disch := first | omega | (simp only [ll]; omega)) only [hB2, hBt, hJ2, hJt, List.length_append, if_pos, go_sem, Nat.reduceAdd, Nat.reduceMul, Nat.reduceSub]
      refine Runs.call' (as' := [.v (.int .i64 48), .v (.int .i64 7), .sl (.ow 3) ((J ++ ([⟨3, 0 :: B, 0⟩] : List It)).map itemO)]) (by simp [mdL_append, md_itemO, mdL, md1_itemO, -List.map_map]) c4 ?_
      simp +decide (maxSteps := 9^7) (disch := first | omega | (simp only [ll]; omega)) only [if_pos, go_sem, Nat.reduceAdd, Nat.reduceMul, Nat.reduceSub]
      exact Runs.ret_refl
end Go.Proofs.W

namespace Go.Proofs.W
open Go Go.AM Go.Proofs.G
variable (hm : Tryz.prog.follows .mixedOrders = true)
attribute [local go_sem] keyA edA prA cvA ptA
def knS3 : Sched := .take 1 (.take 4 (.ld 2 (.ld 5 (.alt 0 (.alt 3 (.alt 6 (.alt 7 (.alt 8 (.alt 9 .fin .nil) .nil) .nil) .nil) .nil) .nil))))
def knS6 : Sched := .take 0 (.take 2 (.take 4 (.take 6 (.take 8 (.take 10 (.take 14 (.lds 192 [1, 3, 5, 7, 9, 11] (.ld 15 (.alt 12 (.alt 13 (.alt 16 (.alt 17 (.alt 18 (.alt 19 (.alt 20 (.alt 21 .fin .nil) .nil) .nil) .nil) .nil) .nil) .nil) .nil)))))))))
def knS8 : Sched := .take 0 (.take 2 (.take 4 (.take 6 (.take 8 (.take 12 (.lds 256 [1, 3, 5, 7, 9] (.ld 13 (.alt 10 (.alt 11 (.alt 14 (.alt 15 (.alt 16 (.alt 17 (.alt 18 (.alt 19 .fin .nil) .nil) .nil) .nil) .nil) .nil) .nil) .nil))))))))
attribute [local go_sem] knS3 knS6 knS8
theorem nodesO_app (l : List Nd) (n : Nd) : nodesO (l ++ [n]) = nodesO l ++ [nodeO n] := by rw [nodesO_eq, nodesO_eq, List.map_append]; rfl
set_option maxHeartbeats 4000000 in
set_option maxRecDepth 10000 in
include hm in
theorem keyNode (k : GKey) (h : keyB k = true) : Holds Tryz.prog 70 [keyA k] [] (nodeO (keyNd k)) [] := by
  have hi := keyInts_in h
  unfold keyB at h
  refine holds_ref (ann := []) tabOk hm (byL [] [28, 1000001]) Tryz.func70 (by kernel_rfl) rfl ?_
  simp +decide (maxSteps := 9^7) only [Tryz.f70, go_sem, Nat.reduceAdd, Nat.reduceMul, Nat.reduceSub]
  refine Runs.split (fun k1 => ?_) (fun k1 => ?_)
  · have k1' : k.kind = 1 := by simpa using k1
    rw [if_pos k1'] at h
    simp only [Bool.and_eq_true] at h
    obtain ⟨_, _, hN, hb, _, he, _⟩ := h
    have he := inB_t he
    have c1 := integer hm 1 (by omega) (by omega)
    have c2 := natural hm k.N hN hb
    have c3 := integer hm k.e (by omega) (by omega)
    have c4 := listN hm 48 [intN 1, .mk 2 (natBB k.N) [], intN k.e]
    clear hi
    have e : keyNd k = .mk 48 [] [intN 1, .mk 2 (natBB k.N) [], intN k.e] := by rw [keyNd, if_pos k1']
    rw [e]
    simp +decide (maxSteps := 9^7) only [go_sem, Nat.reduceAdd, Nat.reduceMul, Nat.reduceSub]
    refine Runs.draw (st1 := ?s1) (draws_ref (ann := []) tabOk (byL [] [28, 1000001]) knS3 (by kernel_rfl) ?p1) ?q1
    case p1 =>
      intro K r X hK
      simp +decide (maxSteps := 9^7) only [go_sem, Nat.reduceAdd, Nat.reduceMul, Nat.reduceSub]
      repeat' apply And.intro
      all_goals
        refine Runs.call c1 ?_
        simp +decide (maxSteps := 9^7) (disch := first | omega | (simp only [ll]; omega)) only [nodeO, nodesO, if_pos, go_sem, Nat.reduceAdd, Nat.reduceMul, Nat.reduceSub]
        refine Runs.call c2 ?_
        simp +decide (maxSteps := 9^7) (disch := first | omega | (simp only [ll]; omega)) only [nodeO, nodesO, if_pos, go_sem, Nat.reduceAdd, Nat.reduceMul, Nat.reduceSub]
        refine Runs.call c3 ?_
        simp +decide (maxSteps := 9^7) (disch := first | omega | (simp only [ll]; omega)) only [nodeO, nodesO, if_pos, go_sem, Nat.reduceAdd, Nat.reduceMul, Nat.reduceSub]
        refine Runs.call' (as' := [.v (.int .i64 48), .sl (.ow 3) (nodesO [intN 1, .mk 2 (natBB k.N) [], intN k.e])]) (by simp [nodeO, nodesO, intN, mdL, A.md, md_u8A]) c4 ?_
        simp +decide (maxSteps := 9^7) (disch := first | omega | (simp only [ll]; omega)) only [nodeO, nodesO, if_pos, go_sem, Nat.reduceAdd, Nat.reduceMul, Nat.reduceSub]
        exact hK
    case q1 =>
      simp +decide (maxSteps := 9^7) (disch := first | omega | (simp only [ll]; omega)) only [nodeO, nodesO, intN, if_pos, go_sem, Nat.reduceAdd, Nat.reduceMul, Nat.reduceSub]
      exact Runs.ret_refl
  · have k1' : k.kind ≠ 1 := by simpa using k1
    rw [if_neg k1'] at h
    have hi := hi k1'
    have c2 := integers hm (keyInts k) (by have := keyInts_len k; omega) hi
    have e : keyNd k = .mk 48 [] ((keyInts k).map intN ++ [.mk 3 (0 :: keyPt k) []]) := by rw [keyNd, if_neg k1']
    rw [e]
    simp +decide (maxSteps := 9^7) only [go_sem, Nat.reduceAdd, Nat.reduceMul, Nat.reduceSub]
    refine Runs.split (fun k2 => ?_) (fun k2 => ?_)
    · have k2' : k.kind = 2 := by simpa using k2
      rw [if_pos k2'] at h
      simp only [Bool.and_eq_true] at h
      obtain ⟨_, _, hP, hf, _⟩ := h
      have hf : k.q.far = false := by simpa using hf
      have c1 := iPointBytes hm k.q hf
      have ek : (keyInts k).map intA = [.v (.int .i64 2), .v (.int .i64 k.cv.p), .v (.int .i64 k.cv.a), .v (.int .i64 k.cv.b), .v (.int .i64 k.cv.n), .v (.int .i64 k.cv.gx), .v (.int .i64 k.cv.gy)] := by
        rw [keyInts, if_pos k2']; rfl
      have el : (keyInts k).length = 7 := by rw [keyInts, if_pos k2']; rfl
      have ep : keyPt k = ptBy k.q := by rw [keyPt, if_pos k2']
      rw [ek] at c2
      rw [ptA, hf] at c1
      rw [ep]
      have hJ : ((keyInts k).map intN).length = 7 := by rw [List.length_map, el]
      have hB : (ptBy k.q).length = 7 := rfl
      clear hi ek e
      generalize (keyInts k).map intN = J at *
      generalize ptBy k.q = B at *
      have c3 := bitsOf hm B (by omega)
      have c4 := listN hm 48 (J ++ [.mk 3 (0 :: B) []])
      have htk : List.take (J ++ ([.mk 3 (0 :: B) []] : List Nd)).length (nodesO (J ++ ([.mk 3 (0 :: B) []] : List Nd))) = nodesO (J ++ ([.mk 3 (0 :: B) []] : List Nd)) := List.take_of_length_le (by rw [nodesO_length]; exact Nat.le_refl _)
      have hJ2 : (nodesO J).length = 7 := by rw [nodesO_length, hJ]
      have hB2 : (B.map u8A).length = 7 := by rw [List.length_map, hB]
      have hJt : List.take 7 (nodesO J) = nodesO J := List.take_of_length_le (by omega)
      have hBt : List.take 7 (B.map u8A) = B.map u8A := List.take_of_length_le (by omega)
      simp +decide (maxSteps := 9^7) (disch := first | omega | (simp only [ll]; omega)) only [hf, if_pos, go_sem, Nat.reduceAdd, Nat.reduceMul, Nat.reduceSub]
      refine Runs.draw (st1 := ?s2) (draws_ref (ann := []) tabOk (byL [] [28, 1000001]) knS6 (by kernel_rfl) ?p2) ?q2
      case p2 =>
        intro K r X hK
        simp +decide (maxSteps := 9^7) (disch := first | omega | (simp only [ll]; omega)) only [hf, if_pos, go_sem, Nat.reduceAdd, Nat.reduceMul, Nat.reduceSub]
        repeat' apply And.intro
        all_goals
          refine Runs.call c2 ?_
          simp +decide (maxSteps := 9^7) (disch := first | omega | (simp only [ll]; omega)) only [hf, hB2, hBt, hJ2, hJt, if_pos, go_sem, Nat.reduceAdd, Nat.reduceMul, Nat.reduceSub]
          refine Runs.call c1 ?_
          simp +decide (maxSteps := 9^7) (disch := first | omega | (simp only [ll]; omega)) only [hf, hB2, hBt, hJ2, hJt, if_pos, go_sem, Nat.reduceAdd, Nat.reduceMul, Nat.reduceSub]
          refine Runs.call c3 ?_
          simp +decide (maxSteps := 9^7) (disch := first | omega | (simp only [ll]; omega)) only [hf, hB2, hBt, hJ2, hJt, nodeO, nodesO, List.length_append, if_pos, go_sem, Nat.reduceAdd, Nat.reduceMul, Nat.reduceSub]
          refine Runs.call' (as' := [.v (.int .i64 48), .sl (.ow 3) (nodesO (J ++ ([.mk 3 (0 :: B) []] : List Nd)))]) (by simp [nodesO_app, mdL_append, md_nodesO, mdL, nodeO, nodesO, A.md, md_u8A, u8A]) c4 ?_
          simp +decide (maxSteps := 9^7) (disch := first | omega | (simp only [ll]; omega)) only [nodeO, nodesO, if_pos, go_sem, Nat.reduceAdd, Nat.reduceMul, Nat.reduceSub]
          exact hK
      case q2 =>
        simp +decide (maxSteps := 9^7) (disch := first | omega | (simp only [ll]; omega)) only [nodeO, nodesO, htk, if_pos, go_sem, Nat.reduceAdd, Nat.reduceMul, Nat.reduceSub]
        exact Runs.ret_refl
    · have k2' : k.kind ≠ 2 := by simpa using k2
      rw [if_neg k2'] at h
      split at h
      case isFalse => simp at h
      simp only [Bool.and_eq_true] at h
      obtain ⟨_, _, hP⟩ := h
      have c1 := iEdBytes hm k.ed k.a (by simpa [Bool.and_eq_true] using hP)
      have ek : (keyInts k).map intA = [.v (.int .i64 3), .v (.int .i64 k.ed.p), .v (.int .i64 k.ed.d), .v (.int .i64 k.ed.l), .v (.int .i64 k.ed.bx), .v (.int .i64 k.ed.by')] := by
        rw [keyInts, if_neg k2']; rfl
      have el : (keyInts k).length = 6 := by rw [keyInts, if_neg k2']; rfl
      have ep : keyPt k = edBy k.a := by rw [keyPt, if_neg k2']
      rw [ek] at c2
      rw [prA] at c1
      rw [ep]
      have hJ : ((keyInts k).map intN).length = 6 := by rw [List.length_map, el]
      have hB : (edBy k.a).length = 3 := rfl
      clear hi ek e
      generalize (keyInts k).map intN = J at *
      generalize edBy k.a = B at *
      have c3 := bitsOf hm B (by omega)
      have c4 := listN hm 48 (J ++ [.mk 3 (0 :: B) []])
      have htk : List.take (J ++ ([.mk 3 (0 :: B) []] : List Nd)).length (nodesO (J ++ ([.mk 3 (0 :: B) []] : List Nd))) = nodesO (J ++ ([.mk 3 (0 :: B) []] : List Nd)) := List.take_of_length_le (by rw [nodesO_length]; exact Nat.le_refl _)
      have hJ2 : (nodesO J).length = 6 := by rw [nodesO_length, hJ]
      have hB2 : (B.map u8A).length = 3 := by rw [List.length_map, hB]
      have hJt : List.take 6 (nodesO J) = nodesO J := List.take_of_length_le (by omega)
      have hBt : List.take 3 (B.map u8A) = B.map u8A := List.take_of_length_le (by omega)
      simp +decide (maxSteps := 9^7) (disch := first | omega | (simp only [ll]; omega)) only [if_pos, go_sem, Nat.reduceAdd, Nat.reduceMul, Nat.reduceSub]
      refine Runs.draw (st1 := ?s3) (draws_ref (ann := []) tabOk (byL [] [28, 1000001]) knS8 (by kernel_rfl) ?p3) ?q3
      case p3 =>
        intro K r X hK
        simp +decide (maxSteps := 9^7) (disch := first | omega | (simp only [ll]; omega)) only [if_pos, go_sem, Nat.reduceAdd, Nat.reduceMul, Nat.reduceSub]
        repeat' apply And.intro
        all_goals
          refine Runs.call c2 ?_
          simp +decide (maxSteps := 9^7) (disch := first | omega | (simp only [ll]; omega)) only [hB2, hBt, hJ2, hJt, if_pos, go_sem, Nat.reduceAdd, Nat.reduceMul, Nat.reduceSub]
          refine Runs.call c1 ?_
          simp +decide (maxSteps := 9^7) (disch := first | omega | (simp only [ll]; omega)) only [hB2, hBt, hJ2, hJt, if_pos, go_sem, Nat.reduceAdd, Nat.reduceMul, Nat.reduceSub]
          refine Runs.call c3 ?_
          simp +decide (maxSteps := 9^7) (disch := first | omega | (simp only [ll]; omega)) only [hB2, hBt, hJ2, hJt, nodeO, nodesO, List.length_append, if_pos, go_sem, Nat.reduceAdd, Nat.reduceMul, Nat.reduceSub]
          refine Runs.call' (as' := [.v (.int .i64 48), .sl (.ow 3) (nodesO (J ++ ([.mk 3 (0 :: B) []] : List Nd)))]) (by simp [nodesO_app, mdL_append, md_nodesO, mdL, nodeO, nodesO, A.md, md_u8A, u8A]) c4 ?_
          simp +decide (maxSteps := 9^7) (disch := first | omega | (simp only [ll]; omega)) only [nodeO, nodesO, if_pos, go_sem, Nat.reduceAdd, Nat.reduceMul, Nat.reduceSub]
          exact hK
      case q3 =>
        simp +decide (maxSteps := 9^7) (disch := first | omega | (simp only [ll]; omega)) only [nodeO, nodesO, htk, if_pos, go_sem, Nat.reduceAdd, Nat.reduceMul, Nat.reduceSub]
        exact Runs.ret_refl
end Go.Proofs.W

namespace Go.Proofs.W
open Go Go.AM
set_option maxRecDepth 10000
variable (hm : Tryz.prog.follows .mixedOrders = true)
def mkFill (v : Nat → A) (es : List A) (i : Nat) : List A := (List.range i).map v ++ es.drop i
theorem mkFill_length (v : Nat → A) (es : List A) (i : Nat) (h : i ≤ es.length) : (mkFill v es i).length = es.length := by simp [mkFill]; omega
theorem mkFill_zero (v : Nat → A) (es : List A) : mkFill v es 0 = es := by simp [mkFill]
theorem mkFill_all (v : Nat → A) (es : List A) {n : Nat} (h : es.length = n) : mkFill v es n = (List.range n).map v := by subst h; simp [mkFill]
theorem mkFill_get (v : Nat → A) (es : List A) (i : Nat) (h : i < es.length) : (mkFill v es i).getD i .any = es[i] := by
  unfold mkFill
  rw [List.getD, List.getElem?_append_right (by simp)]
  simp [h]
theorem mkFill_set (v : Nat → A) (es : List A) (i : Nat) (h : i < es.length) : (mkFill v es i).set i (v i) = mkFill v es (i + 1) := by
  unfold mkFill
  rw [List.set_append_right _ _ (by simp), List.length_map, List.length_range, Nat.sub_self, List.drop_eq_getElem_cons h, List.set_cons_zero, List.range_succ, List.map_append, List.append_assoc]
  rfl
def mkAnn : Ann := [(0, [0, 1, 5])]
def mkInt (k : Int) (i : Nat) : A := intA (k + i)
def mkByte (k : Int) (i : Nat) : A := u8A (IntKind.u8.wrap (k + i))
attribute [local go_sem] mkInt mkByte
def markGo : Nat → Nat → ByteArray → ByteArray
  | 0, _, out => out
  | f + 1, n, out => if n = 0 then out else markGo f (n / 10) (⟨#[UInt8.ofNat (48 + n % 10)]⟩ ++ out)
def markT (k : Int) : ByteArray := if k ≤ 0 then ⟨#[109, 48]⟩ else ⟨#[109]⟩ ++ markGo (k.toNat + 1) k.toNat ⟨#[]⟩
def mkStr (k : Int) (i : Nat) : A := strA (markT (k + i))
attribute [local go_sem] mkStr
def markIntSt (L : List Int) (k : Int) (i : Nat) : St := ⟨[.ms (.x 0) 0 L.length L.length, .v (.int .i64 (k + i)), .any, .any, .any, .v (.int .i64 i), .any, .any, .any, .any, .any, .any, .any, .any, .any, .any, .any, .any, .any], [], [⟨true, 1, false, mkFill (mkInt k) (L.map intA) i⟩]⟩
include hm in
theorem markIntS (L : List Int) (k : Int) (h1 : 0 ≤ k) (h2 : k + L.length ≤ 4611686018427387904) :
    Holds Tryz.prog 81 [.ms (.x 0) 0 L.length L.length, .v (.int .i64 k)] [⟨true, 1, false, L.map intA⟩] (.v (.int .i64 (k + L.length))) [⟨true, 1, false, (List.range L.length).map (mkInt k)⟩] := by
  refine holds_of (ann := mkAnn) tabOk hm Tryz.func81 (by kernel_rfl) rfl ?_
  simp +decide only [Tryz.f81, go_sem, Nat.reduceAdd, Nat.reduceMul, Nat.reduceSub]
  refine Runs.while (α := Nat) (markIntSt L k) (fun i => L.length - i) (fun i => i ≤ L.length) 0 (by omega) ?_ ?_
  · simp [go_sem, mkAnn, markIntSt, mkFill_zero]
  · intro i hi ih
    have hlen := mkFill_length (mkInt k) (L.map intA) i (by simpa using hi)
    rw [List.length_map] at hlen
    simp +decide only [markIntSt, hlen, go_sem, Nat.reduceAdd, Nat.reduceMul, Nat.reduceSub]
    refine Runs.split (fun h => ?_) (fun h => ?_)
    · have hlt : i < L.length := by simpa using h
      have hg := mkFill_get (mkInt k) (L.map intA) i (by simpa using hlt)
      have hs := mkFill_set (mkInt k) (L.map intA) i (by simpa using hlt)
      simp only [List.getElem_map, intA] at hg
      simp only [mkInt, intA] at hs
      simp +decide (disch := first | omega | (simp only [ll]; omega)) only [hlen, hg, hs, if_pos, go_sem, Nat.reduceAdd, Nat.reduceMul, Nat.reduceSub]
      refine ih (i + 1) _ (by omega) (by omega) ?_
      simp [go_sem, mkAnn, markIntSt, Int.add_assoc]
    · have hge : i = L.length := by simp at h; omega
      subst hge
      simp +decide only [hlen, mkFill_all _ _ (List.length_map _), go_sem, Nat.reduceAdd, Nat.reduceMul, Nat.reduceSub]
      exact Runs.ret_refl
def markByteSt (L : List Int) (k : Int) (i : Nat) : St := ⟨[.ms (.x 0) 0 L.length L.length, .v (.int .i64 (k + i)), .any, .any, .any, .v (.int .i64 i), .any, .any, .any, .any, .any, .any, .any, .any, .any, .any, .any, .any, .any, .any], [], [⟨true, 1, false, mkFill (mkByte k) (L.map u8A) i⟩]⟩
include hm in
theorem markByteS (L : List Int) (k : Int) (h1 : 0 ≤ k) (h2 : k + L.length ≤ 4611686018427387904) :
    Holds Tryz.prog 11 [.ms (.x 0) 0 L.length L.length, .v (.int .i64 k)] [⟨true, 1, false, L.map u8A⟩] (.v (.int .i64 (k + L.length))) [⟨true, 1, false, (List.range L.length).map (mkByte k)⟩] := by
  refine holds_of (ann := mkAnn) tabOk hm Tryz.func11 (by kernel_rfl) rfl ?_
  simp +decide only [Tryz.f11, go_sem, Nat.reduceAdd, Nat.reduceMul, Nat.reduceSub]
  refine Runs.while (α := Nat) (markByteSt L k) (fun i => L.length - i) (fun i => i ≤ L.length) 0 (by omega) ?_ ?_
  · simp [go_sem, mkAnn, markByteSt, mkFill_zero]
  · intro i hi ih
    have hlen := mkFill_length (mkByte k) (L.map u8A) i (by simpa using hi)
    rw [List.length_map] at hlen
    simp +decide only [markByteSt, hlen, go_sem, Nat.reduceAdd, Nat.reduceMul, Nat.reduceSub]
    refine Runs.split (fun h => ?_) (fun h => ?_)
    · have hlt : i < L.length := by simpa using h
      have hg := mkFill_get (mkByte k) (L.map u8A) i (by simpa using hlt)
      have hs := mkFill_set (mkByte k) (L.map u8A) i (by simpa using hlt)
      simp only [List.getElem_map, u8A] at hg
      simp only [mkByte, u8A] at hs
      simp +decide (disch := first | omega | (simp only [ll]; omega)) only [hlen, hg, hs, if_pos, go_sem, Nat.reduceAdd, Nat.reduceMul, Nat.reduceSub]
      refine ih (i + 1) _ (by omega) (by omega) ?_
      simp [go_sem, mkAnn, markByteSt, Int.add_assoc]
    · have hge : i = L.length := by simp at h; omega
      subst hge
      simp +decide only [hlen, mkFill_all _ _ (List.length_map _), go_sem, Nat.reduceAdd, Nat.reduceMul, Nat.reduceSub]
      exact Runs.ret_refl
def heldByteSt (n : Nat) (k : Int) (i : Nat) : St := ⟨[.sl .sh ((List.range n).map (mkByte k)), .v (.int .i64 (k + i)), .any, .any, .any, .v (.int .i64 i), .any, .any, .any, .any, .any, .any, .any, .any, .any, .any, .any, .any, .any, .any, .any, .any], [], []⟩
include hm in
theorem heldByteS (n : Nat) (k : Int) (h1 : 0 ≤ k) (h2 : k + n ≤ 4611686018427387904) :
    Holds Tryz.prog 12 [.sl .sh ((List.range n).map (mkByte k)), .v (.int .i64 k)] [] (.v (.int .i64 (k + n))) [] := by
  refine holds_of (ann := mkAnn) tabOk hm Tryz.func12 (by kernel_rfl) rfl ?_
  simp +decide only [Tryz.f12, go_sem, Nat.reduceAdd, Nat.reduceMul, Nat.reduceSub]
  refine Runs.while (α := Nat) (heldByteSt n k) (fun i => n - i) (fun i => i ≤ n) 0 (by omega) ?_ ?_
  · simp [go_sem, mkAnn, heldByteSt]
  · intro i hi ih
    simp +decide only [heldByteSt, List.length_range, go_sem, Nat.reduceAdd, Nat.reduceMul, Nat.reduceSub]
    refine Runs.split (fun h => ?_) (fun h => ?_)
    · have hlt : i < n := by simpa using h
      have hg : ((List.range n).map (mkByte k)).getD i .any = mkByte k i := by simp [List.getD, hlt]
      simp +decide (disch := first | omega | (simp only [ll]; omega)) only [hg, List.length_range, if_pos, go_sem, Nat.reduceAdd, Nat.reduceMul, Nat.reduceSub]
      refine ih (i + 1) _ (by omega) (by omega) ?_
      simp [go_sem, mkAnn, heldByteSt, Int.add_assoc]
    · have hge : i = n := by simp at h; omega
      subst hge
      simp +decide only [go_sem, Nat.reduceAdd, Nat.reduceMul, Nat.reduceSub]
      exact Runs.ret_refl
def markTxAnn : Ann := [(0, [0, 3])]
def markTxSt (p : Nat × ByteArray) : St := ⟨[.v (.int .i64 p.1), .any, .any, .v (.string p.2), .any, .any, .any, .any, .any, .any, .any, .any, .any, .any, .any, .any, .any, .any, .any, .any], [], []⟩
theorem markGo_fuel : ∀ (f g n : Nat) (out : ByteArray), n < f → n < g → markGo f n out = markGo g n out
  | f + 1, g + 1, n, out, h1, h2 => by
    simp only [markGo]
    split
    · rfl
    · rename_i hn
      exact markGo_fuel f g (n / 10) _ (by omega) (by omega)
theorem markGo_size {n s n0 : Nat} (h : n * 10 ^ s ≤ n0) (hn : 0 < n) (h0 : n0 ≤ 4611686018427387904) : s ≤ 30 := by
  rcases Nat.lt_or_ge 30 s with h1 | h1
  · have h2 : 10 ^ 31 ≤ 10 ^ s := Nat.pow_le_pow_right (by omega) h1
    have h3 : 1 * 10 ^ s ≤ n * 10 ^ s := Nat.mul_le_mul_right _ hn
    have h4 : (10 : Nat) ^ 31 = 10000000000000000000000000000000 := rfl
    omega
  · exact h1
include hm in
theorem markText (k : Int) (h1 : 0 ≤ k) (h2 : k ≤ 4611686018427387904) : Holds Tryz.prog 80 [.v (.int .i64 k)] [] (.v (.string (markT k))) [] := by
  refine holds_of (ann := markTxAnn) tabOk hm Tryz.func80 (by kernel_rfl) rfl ?_
  simp +decide only [Tryz.f80, go_sem, Nat.reduceAdd, Nat.reduceMul, Nat.reduceSub]
  refine Runs.split (fun h => ?_) (fun h => ?_)
  · simp only [decide_eq_true_eq] at h
    simp +decide only [markT, if_pos h, go_sem, Nat.reduceAdd, Nat.reduceMul, Nat.reduceSub]
    exact Runs.ret_v
  · simp only [decide_eq_false_iff_not] at h
    simp +decide only [go_sem, Nat.reduceAdd, Nat.reduceMul, Nat.reduceSub]
    obtain ⟨n0, rfl⟩ : ∃ n0 : Nat, k = n0 := ⟨k.toNat, by omega⟩
    refine Runs.while (α := Nat × ByteArray) markTxSt (fun p => p.1) (fun p => p.1 ≤ n0 ∧ p.1 * 10 ^ p.2.size ≤ n0 ∧ p.2.size ≤ 31 ∧ markGo (p.1 + 1) p.1 p.2 = markGo (n0 + 1) n0 ⟨#[]⟩) (n0, ⟨#[]⟩) ⟨by simp, Nat.le_of_eq (by show n0 * 10 ^ 0 = n0; omega), by show 0 ≤ 31; omega, rfl⟩ ?_ ?_
    · simp [go_sem, markTxAnn, markTxSt]
    · rintro ⟨n, out⟩ ⟨hn, hp, hs, hr⟩ ih
      simp only at hn hp hs hr
      simp +decide only [markTxSt, go_sem, Nat.reduceAdd, Nat.reduceMul, Nat.reduceSub]
      refine Runs.split (fun h => ?_) (fun h => ?_)
      · have hn0 : 0 < n := by simp at h; omega
        have hs' := markGo_size hp hn0 (by omega)
        have ht : (n : Int).tmod 10 = ((n % 10 : Nat) : Int) := by rw [Int.tmod_eq_emod_of_nonneg (by omega)]; omega
        have hq : (n : Int).tdiv 10 = ((n / 10 : Nat) : Int) := by rw [Int.tdiv_eq_ediv_of_nonneg (by omega)]; omega
        have hw : IntKind.i64.wrap (48 + ((n % 10 : Nat) : Int)) = ((48 + n % 10 : Nat) : Int) := by rw [wrap_i64 (by omega) (by omega)]; omega
        have hw2 : IntKind.u8.wrap ((48 + n % 10 : Nat) : Int) = ((48 + n % 10 : Nat) : Int) := wrap_u8 (by omega) (by omega)
        have hw3 : IntKind.i64.wrap ((n / 10 : Nat) : Int) = ((n / 10 : Nat) : Int) := wrap_i64 (by omega) (by omega)
        have hb : (0 ≤ ((48 + n % 10 : Nat) : Int) ∧ ((48 + n % 10 : Nat) : Int) < 256) := by omega
        simp +decide only [ht, hq, hw, hw2, hw3, hb, go_sem, Nat.reduceAdd, Nat.reduceMul, Nat.reduceSub]
        refine Runs.chk (by simp; show 1 + out.size ≤ _; omega) ?_
        simp +decide only [go_sem, Nat.reduceAdd, Nat.reduceMul, Nat.reduceSub]
        refine ih (n / 10, ⟨#[UInt8.ofNat (48 + n % 10)]⟩ ++ out) _ (by simp only; omega) ⟨by simp only; omega, ?_, ?_, ?_⟩ ?_
        · simp only
          rw [ByteArray.size_append]
          show n / 10 * 10 ^ (1 + out.size) ≤ n0
          rw [Nat.pow_add, ← Nat.mul_assoc]
          exact Nat.le_trans (Nat.mul_le_mul_right _ (by omega)) hp
        · simp only
          rw [ByteArray.size_append]
          show 1 + out.size ≤ 31
          omega
        · simp only
          rw [← hr]
          conv => rhs; unfold markGo
          rw [if_neg (by omega)]
          exact markGo_fuel _ _ _ _ (by omega) (by omega)
        · simp [go_sem, markTxAnn, markTxSt]
      · have hn0 : n = 0 := by simp at h; omega
        subst hn0
        simp only [markGo, if_true] at hr
        simp +decide only [go_sem, Nat.reduceAdd, Nat.reduceMul, Nat.reduceSub]
        refine Runs.chk (by simp; show 1 + out.size ≤ _; omega) ?_
        refine Runs.ret_eq ?_
        rw [markT, if_neg ‹¬ ((n0 : Int) ≤ 0)›, hr]
        rfl
def markStringSt (L : List ByteArray) (k : Int) (i : Nat) : St := ⟨[.ms (.x 0) 0 L.length L.length, .v (.int .i64 (k + i)), .any, .any, .any, .v (.int .i64 i), .any, .any, .any, .any, .any, .any, .any, .any, .any, .any, .any, .any, .any, .any], [], [⟨true, 1, false, mkFill (mkStr k) (L.map strA) i⟩]⟩
include hm in
theorem markStringS (L : List ByteArray) (k : Int) (h1 : 0 ≤ k) (h2 : k + L.length ≤ 4611686018427387904) :
    Holds Tryz.prog 35 [.ms (.x 0) 0 L.length L.length, .v (.int .i64 k)] [⟨true, 1, false, L.map strA⟩] (.v (.int .i64 (k + L.length))) [⟨true, 1, false, (List.range L.length).map (mkStr k)⟩] := by
  refine holds_of (ann := mkAnn) tabOk hm Tryz.func35 (by kernel_rfl) rfl ?_
  simp +decide only [Tryz.f35, go_sem, Nat.reduceAdd, Nat.reduceMul, Nat.reduceSub]
  refine Runs.while (α := Nat) (markStringSt L k) (fun i => L.length - i) (fun i => i ≤ L.length) 0 (by omega) ?_ ?_
  · simp [go_sem, mkAnn, markStringSt, mkFill_zero]
  · intro i hi ih
    have hlen := mkFill_length (mkStr k) (L.map strA) i (by simpa using hi)
    rw [List.length_map] at hlen
    simp +decide only [markStringSt, hlen, go_sem, Nat.reduceAdd, Nat.reduceMul, Nat.reduceSub]
    refine Runs.split (fun h => ?_) (fun h => ?_)
    · have hlt : i < L.length := by simpa using h
      have hg := mkFill_get (mkStr k) (L.map strA) i (by simpa using hlt)
      have hs := mkFill_set (mkStr k) (L.map strA) i (by simpa using hlt)
      simp only [List.getElem_map, strA] at hg
      simp only [mkStr, strA] at hs
      simp +decide (disch := first | omega | (simp only [ll]; omega)) only [hlen, hg, if_pos, go_sem, Nat.reduceAdd, Nat.reduceMul, Nat.reduceSub]
      refine Runs.call (markText hm (k + i) (by omega) (by omega)) ?_
      simp +decide (disch := first | omega | (simp only [ll]; omega)) only [hlen, hg, hs, if_pos, go_sem, Nat.reduceAdd, Nat.reduceMul, Nat.reduceSub]
      refine ih (i + 1) _ (by omega) (by omega) ?_
      simp [go_sem, mkAnn, markStringSt, Int.add_assoc]
    · have hge : i = L.length := by simp at h; omega
      subst hge
      simp +decide only [hlen, mkFill_all _ _ (List.length_map _), go_sem, Nat.reduceAdd, Nat.reduceMul, Nat.reduceSub]
      exact Runs.ret_refl
end Go.Proofs.W

namespace Go.Proofs.W
open Go Go.AM
variable (hm : Tryz.prog.follows .mixedOrders = true)
def mkIt (k : Int) (x : It) : It := ⟨k, (List.range x.body.length).map (fun i : Nat => IntKind.u8.wrap (k + 1 + i)), k + 1 + x.body.length⟩
def mkIts : Int → List It → List It
  | _, [] => []
  | k, x :: r => mkIt k x :: mkIts (k + x.body.length + 2) r
def cntI : List It → Nat
  | [] => 0
  | x :: r => x.body.length + 2 + cntI r
def curI (k : Int) (L : List It) (i : Nat) : List It := mkIts k (L.take i) ++ L.drop i
def subI (x : It) : Blk := ⟨true, 1, false, x.body.map u8A⟩
def xItA (j : Nat) (x : It) : A := .agg [.v (.int .i64 x.tag), .ms (.x j) 0 x.body.length x.body.length, .v (.int .i64 x.kids)]
def xpIt : Nat → List It → List A
  | _, [] => []
  | j, x :: r => xItA j x :: xpIt (j + 1) r
end Go.Proofs.W

namespace Go.Proofs.W
open Go Go.AM Go.Proofs.G
set_option maxRecDepth 10000
variable (hm : Tryz.prog.follows .mixedOrders = true)
attribute [local go_sem] edA prA cvA ptA keyA
def keyO (k : GKey) : A := .agg [.v (.int .i64 k.kind), .sl (.ow 1) (k.N.map intA), .v (.int .i64 k.e), .v (.int .i64 k.cv.p), .v (.int .i64 k.cv.a), .v (.int .i64 k.cv.b), .v (.int .i64 k.cv.n), .v (.int .i64 k.cv.gx), .v (.int .i64 k.cv.gy),
  .v (.int .i64 k.q.x), .v (.int .i64 k.q.y), .v (.bool k.q.far), .v (.int .i64 k.ed.p), .v (.int .i64 k.ed.d), .v (.int .i64 k.ed.l), .v (.int .i64 k.ed.bx), .v (.int .i64 k.ed.by'), .v (.int .i64 k.a.1), .v (.int .i64 k.a.2)]
attribute [local go_sem] keyO
include hm in
theorem toCurve (k : GCv) : Holds Tryz.prog 53 [cvA k] [] (cvA k) [] := by
  refine holds_ref (ann := []) tabOk hm (byL [] [1000001]) Tryz.func53 (by kernel_rfl) rfl ?_
  simp +decide only [Tryz.f53, go_sem, Nat.reduceAdd, Nat.reduceMul, Nat.reduceSub]
  exact Runs.ret_refl
include hm in
theorem eqLCurve (k : GCv) : Holds Tryz.prog 75 [cvA k, cvA k] [] (.v (.bool true)) [] := by
  refine holds_ref (ann := []) tabOk hm (byL [] [1000002, 1000003]) Tryz.func75 (by kernel_rfl) rfl ?_
  simp +decide only [Tryz.f75, go_sem, Nat.reduceAdd, Nat.reduceMul, Nat.reduceSub]
  exact Runs.ret_v
include hm in
theorem toPoint (k : GPt) : Holds Tryz.prog 54 [ptA k] [] (ptA k) [] := by
  refine holds_ref (ann := []) tabOk hm (byL [] [1000001]) Tryz.func54 (by kernel_rfl) rfl ?_
  simp +decide only [Tryz.f54, go_sem, Nat.reduceAdd, Nat.reduceMul, Nat.reduceSub]
  exact Runs.ret_refl
include hm in
theorem eqLPoint (k : GPt) : Holds Tryz.prog 76 [ptA k, ptA k] [] (.v (.bool true)) [] := by
  refine holds_ref (ann := []) tabOk hm (byL [] [1000002, 1000003]) Tryz.func76 (by kernel_rfl) rfl ?_
  simp +decide only [Tryz.f76, go_sem, Nat.reduceAdd, Nat.reduceMul, Nat.reduceSub]
  exact Runs.ret_v
include hm in
theorem toEd (k : GEd) : Holds Tryz.prog 55 [edA k] [] (edA k) [] := by
  refine holds_ref (ann := []) tabOk hm (byL [] [1000001]) Tryz.func55 (by kernel_rfl) rfl ?_
  simp +decide only [Tryz.f55, go_sem, Nat.reduceAdd, Nat.reduceMul, Nat.reduceSub]
  exact Runs.ret_refl
include hm in
theorem eqLEd (k : GEd) : Holds Tryz.prog 77 [edA k, edA k] [] (.v (.bool true)) [] := by
  refine holds_ref (ann := []) tabOk hm (byL [] [1000002, 1000003]) Tryz.func77 (by kernel_rfl) rfl ?_
  simp +decide only [Tryz.f77, go_sem, Nat.reduceAdd, Nat.reduceMul, Nat.reduceSub]
  exact Runs.ret_v
include hm in
theorem toPair (k : GPr) : Holds Tryz.prog 56 [prA k] [] (prA k) [] := by
  refine holds_ref (ann := []) tabOk hm (byL [] [1000001]) Tryz.func56 (by kernel_rfl) rfl ?_
  simp +decide only [Tryz.f56, go_sem, Nat.reduceAdd, Nat.reduceMul, Nat.reduceSub]
  exact Runs.ret_refl
include hm in
theorem eqLPair (k : GPr) : Holds Tryz.prog 78 [prA k, prA k] [] (.v (.bool true)) [] := by
  refine holds_ref (ann := []) tabOk hm (byL [] [1000002, 1000003]) Tryz.func78 (by kernel_rfl) rfl ?_
  simp +decide only [Tryz.f78, go_sem, Nat.reduceAdd, Nat.reduceMul, Nat.reduceSub]
  exact Runs.ret_v
include hm in
theorem szKey (k : GKey) (left : Int) (l1 : 0 ≤ left) (l2 : left ≤ 1048576) (h3 : k.N.length ≤ 9223372036854775807) : Holds Tryz.prog 14 [keyA k, .v (.int .i64 left)] [] (.v (.int .i64 (szI k.N.length left))) [] := by
  refine holds_ref (ann := []) tabOk hm (byL [] [1000002]) Tryz.func14 (by kernel_rfl) rfl ?_
  simp +decide only [Tryz.f14, go_sem, Nat.reduceAdd, Nat.reduceMul, Nat.reduceSub]
  refine Runs.call (szIntS hm (k.N.map intA) left l1 l2 (by simpa using h3)) ?_
  simp +decide only [List.length_map, go_sem, Nat.reduceAdd, Nat.reduceMul, Nat.reduceSub]
  have b := szI_le k.N.length left l1
  refine Runs.split (fun e => ?_) (fun e => ?_)
  · simp only [decide_eq_true_eq] at e
    have e3 : szI k.N.length left = -1 := by omega
    simp +decide only [e3, go_sem, Nat.reduceAdd, Nat.reduceMul, Nat.reduceSub]
    exact Runs.ret_v
  · simp +decide only [go_sem, Nat.reduceAdd, Nat.reduceMul, Nat.reduceSub]
    exact Runs.ret_v
set_option maxHeartbeats 4000000 in
include hm in
theorem toKey (k : GKey) (h3 : k.N.length ≤ 1048576) : Holds Tryz.prog 23 [keyA k] [] (keyO k) [] := by
  refine holds_ref (ann := []) tabOk hm (byL [] [1000001]) Tryz.func23 (by kernel_rfl) rfl ?_
  have c1 := toCurve hm k.cv
  have c2 := toPoint hm k.q
  have c3 := toEd hm k.ed
  have c4 := toPair hm k.a
  simp only [cvA, ptA, edA, prA] at c1 c2 c3 c4
  simp +decide only [Tryz.f23, go_sem, Nat.reduceAdd, Nat.reduceMul, Nat.reduceSub]
  refine Runs.call (toIntS hm k.N h3) ?_
  simp +decide only [go_sem, Nat.reduceAdd, Nat.reduceMul, Nat.reduceSub]
  refine Runs.call c1 ?_
  simp +decide only [go_sem, Nat.reduceAdd, Nat.reduceMul, Nat.reduceSub]
  refine Runs.call c2 ?_
  simp +decide only [go_sem, Nat.reduceAdd, Nat.reduceMul, Nat.reduceSub]
  refine Runs.call c3 ?_
  simp +decide only [go_sem, Nat.reduceAdd, Nat.reduceMul, Nat.reduceSub]
  refine Runs.call c4 ?_
  simp +decide only [go_sem, Nat.reduceAdd, Nat.reduceMul, Nat.reduceSub]
  exact Runs.ret_refl
set_option maxHeartbeats 4000000 in
include hm in
theorem eqKey (k : GKey) (h3 : k.N.length ≤ 1048576) : Holds Tryz.prog 33 [keyA k, keyA k] [] (.v (.bool true)) [] := by
  refine holds_ref (ann := []) tabOk hm (byL [] [1000002, 1000003]) Tryz.func33 (by kernel_rfl) rfl ?_
  have c1 := eqLCurve hm k.cv
  have c2 := eqLPoint hm k.q
  have c3 := eqLEd hm k.ed
  have c4 := eqLPair hm k.a
  simp only [cvA, ptA, edA, prA] at c1 c2 c3 c4
  simp +decide only [Tryz.f33, go_sem, Nat.reduceAdd, Nat.reduceMul, Nat.reduceSub]
  refine Runs.call (eqIntS hm k.N (by omega)) ?_
  simp +decide only [go_sem, Nat.reduceAdd, Nat.reduceMul, Nat.reduceSub]
  refine Runs.call c1 ?_
  simp +decide only [go_sem, Nat.reduceAdd, Nat.reduceMul, Nat.reduceSub]
  refine Runs.call c2 ?_
  simp +decide only [go_sem, Nat.reduceAdd, Nat.reduceMul, Nat.reduceSub]
  refine Runs.call c3 ?_
  simp +decide only [go_sem, Nat.reduceAdd, Nat.reduceMul, Nat.reduceSub]
  refine Runs.call c4 ?_
  simp +decide only [go_sem, Nat.reduceAdd, Nat.reduceMul, Nat.reduceSub]
  exact Runs.ret_v
end Go.Proofs.W

namespace Go.Proofs.W
open Go Go.AM Go.Proofs.G
variable (hm : Tryz.prog.follows .mixedOrders = true)
attribute [local go_sem] keyA keyO edA prA cvA ptA
theorem itemsN_intN (n : Int) : itemsN (intN n) = [intI n] := by simp [intN, itemsN_mk, itemsNL, intI]
theorem itemsNL_ints (L : List Int) : itemsNL (L.map intN) = L.map intI := by
  induction L with
  | nil => simp [itemsNL]
  | cons a l ih => simp only [List.map_cons, itemsNL, itemsN_intN, ih, List.singleton_append]
theorem items_key (k : GKey) : itemsN (keyNd k) = keyT k := by
  unfold keyNd keyT
  split
  · rw [itemsN_mk]
    simp only [itemsNL, itemsN_intN, itemsN_mk, List.length_cons, List.length_nil, List.append_nil, List.singleton_append, List.cons_append, List.nil_append]
    rfl
  · rw [itemsN_mk, itemsNL_app, itemsNL_ints]
    simp only [itemsNL, itemsN_mk, List.length_append, List.length_map, List.length_cons, List.length_nil, List.append_nil]
    rfl
theorem keyT_len (k : GKey) : (keyT k).length ≤ 9 := by
  unfold keyT
  split
  · simp
  · have := keyInts_len k
    simp; omega
theorem intB_len (n : Int) : (intB n).length ≤ 8 := by
  have := kB_le n
  simp only [intB, tailB_length]
  omega
theorem keyB_rsa {k : GKey} (h : keyB k = true) (h1 : k.kind = 1) : (natBB k.N).length ≤ 65 := by
  unfold keyB at h
  rw [if_pos h1] at h
  simp only [Bool.and_eq_true] at h
  exact natBB_le h.2.2.2.1
theorem bodies_ints (m : Nat) (h : 8 ≤ m) : ∀ L : List Int, bodiesLeL m (L.map intN)
  | [] => trivial
  | n :: L => ⟨⟨by have := intB_len n; omega, trivial⟩, bodies_ints m h L⟩
theorem bodies_app (m : Nat) : ∀ l n : List Nd, bodiesLeL m l → bodiesLeL m n → bodiesLeL m (l ++ n)
  | [], n, _, h => h
  | a :: l, n, h1, h2 => ⟨h1.1, bodies_app m l n h1.2 h2⟩
theorem kids_ints (m : Nat) : ∀ L : List Int, kidsLeL m (L.map intN)
  | [] => trivial
  | n :: L => ⟨⟨Nat.zero_le _, trivial⟩, kids_ints m L⟩
theorem kids_app (m : Nat) : ∀ l n : List Nd, kidsLeL m l → kidsLeL m n → kidsLeL m (l ++ n)
  | [], n, _, h => h
  | a :: l, n, h1, h2 => ⟨h1.1, kids_app m l n h1.2 h2⟩
theorem key_bodies {k : GKey} (h : keyB k = true) (m : Nat) (hm : 100 ≤ m) : bodiesLe m (keyNd k) := by
  unfold keyNd
  split
  · have hb := keyB_rsa h (by assumption)
    have b1 := intB_len 1
    have b2 := intB_len k.e
    exact ⟨Nat.zero_le _, ⟨by omega, trivial⟩, ⟨by omega, trivial⟩, ⟨by omega, trivial⟩, trivial⟩
  · have := keyPt_len k
    exact ⟨Nat.zero_le _, bodies_app m _ _ (bodies_ints m (by omega) _) ⟨⟨by simp only [List.length_cons]; omega, trivial⟩, trivial⟩⟩
theorem key_kids (k : GKey) (m : Nat) (hm : 100 ≤ m) : kidsLe m (keyNd k) := by
  unfold keyNd
  split
  · exact ⟨by simp; omega, ⟨Nat.zero_le _, trivial⟩, ⟨Nat.zero_le _, trivial⟩, ⟨Nat.zero_le _, trivial⟩, trivial⟩
  · have := keyInts_len k
    exact ⟨by simp; omega, kids_app m _ _ (kids_ints m _) ⟨⟨Nat.zero_le _, trivial⟩, trivial⟩⟩
noncomputable def treeK (k : GKey) : List It := if keyB k = true then keyT k else []
noncomputable def treeKA (k : GKey) : A := .tup [.sl (.ow 3) ((treeK k).map itemO), .v (.bool (keyB k))]
end Go.Proofs.W

namespace Go.Proofs.W
open Go Go.AM
set_option maxRecDepth 10000
variable (hm : Tryz.prog.follows .mixedOrders = true)
attribute [local go_sem] exS rowS_plain rowS_dn rowO_dn
def iexAnn : Ann := [(0, [0, 1, 7, 8])]
def iexSt (f : A) (L : List (List Int)) (i : Nat) : St := ⟨[.sl .sh (L.map rowS), f, .any, .any, .any, .any, .any, .v (.int .i64 L.length), .v (.int .i64 i), .any, .any, .any, .any, .any, .any, .any, .any, .any, .any], [], []⟩
include hm in
theorem indexFuncI (g : Nat) (L : List (List Int)) (q : List Int → Bool) (h : L.length ≤ 1048576) (hq : ∀ s ∈ L, Holds Tryz.prog g [.sl .sh (s.map intA)] [] (.v (.bool (q s))) []) :
    ∃ n : Int, decide (n ≥ 0) = L.any q ∧ Holds Tryz.prog 150 [.sl .sh (L.map rowS), .v (.func (.func g) #[] #[])] [] (.v (.int .i64 n)) [] := by
  refine ⟨if L.any q = true then (L.findIdx q : Int) else -1, by cases h : L.any q <;> simp, ?_⟩
  refine holds_of (ann := iexAnn) tabOk hm Tryz.func150 (by kernel_rfl) rfl ?_
  simp +decide only [Tryz.f150, go_sem, Nat.reduceAdd, Nat.reduceMul, Nat.reduceSub]
  have ha : (L.map rowS).length = L.length := List.length_map _
  refine Runs.while (α := Nat) (iexSt (.v (.func (.func g) #[] #[])) L) (fun i => L.length - i) (fun i => i ≤ L.length ∧ ∀ j (hj : j < L.length), j < i → q L[j] = false) 0 ⟨by omega, fun _ _ h => absurd h (by omega)⟩ ?_ ?_
  · simp [go_sem, iexAnn, iexSt]
  · rintro i ⟨hi, hn⟩ ih
    simp +decide only [iexSt, ha, go_sem, Nat.reduceAdd, Nat.reduceMul, Nat.reduceSub]
    refine Runs.split (fun h => ?_) (fun h => ?_)
    · have hlt : i < L.length := by simpa using h
      have hg : (L.map rowS).getD i .any = .sl .sh (L[i].map intA) := by simp [List.getD, hlt, rowS]
      simp +decide (disch := first | omega | (simp only [ll]; omega)) only [ha, hg, if_pos, go_sem, Nat.reduceAdd, Nat.reduceMul, Nat.reduceSub]
      refine Runs.call (hq L[i] (List.getElem_mem hlt)) ?_
      cases h2 : q L[i]
      · simp +decide (disch := first | omega | (simp only [ll]; omega)) only [if_pos, go_sem, Nat.reduceAdd, Nat.reduceMul, Nat.reduceSub]
        refine ih (i + 1) _ (by omega) ⟨by omega, fun j hj hji => ?_⟩ ?_
        · rcases Nat.lt_or_ge j i with h3 | h3
          · exact hn j hj h3
          · have : j = i := by omega
            subst this; exact h2
        · simp [go_sem, iexAnn, iexSt]
      · simp +decide (disch := first | omega | (simp only [ll]; omega)) only [if_pos, go_sem, Nat.reduceAdd, Nat.reduceMul, Nat.reduceSub]
        have e1 : L.any q = true := List.any_eq_true.mpr ⟨L[i], List.getElem_mem hlt, h2⟩
        have e2 : L.findIdx q = i := (List.findIdx_eq hlt).mpr ⟨h2, fun j hj => hn j (by omega) hj⟩
        exact Runs.ret_eq (by rw [e1, e2]; rfl)
    · have hge : i = L.length := by simp at h; omega
      have e1 : L.any q = false := by
        rw [List.any_eq_false]
        intro x hx
        obtain ⟨j, hj, rfl⟩ := List.getElem_of_mem hx
        rw [hn j hj (by omega)]; simp
      simp +decide only [go_sem, Nat.reduceAdd, Nat.reduceMul, Nat.reduceSub]
      exact Runs.ret_eq (by rw [e1]; rfl)
include hm in
theorem contFuncI (g : Nat) (L : List (List Int)) (q : List Int → Bool) (h : L.length ≤ 1048576) (hq : ∀ s ∈ L, Holds Tryz.prog g [.sl .sh (s.map intA)] [] (.v (.bool (q s))) []) :
    Holds Tryz.prog 108 [.sl .sh (L.map rowS), .v (.func (.func g) #[] #[])] [] (.v (.bool (L.any q))) [] := by
  refine holds_of (ann := []) tabOk hm Tryz.func108 (by kernel_rfl) rfl ?_
  simp +decide only [Tryz.f108, go_sem, Nat.reduceAdd, Nat.reduceMul, Nat.reduceSub]
  obtain ⟨n, hn, hc⟩ := indexFuncI hm g L q h hq
  refine Runs.call hc ?_
  simp +decide only [hn, go_sem, Nat.reduceAdd, Nat.reduceMul, Nat.reduceSub]
  exact Runs.ret_v
theorem any_not_all {α : Type} (L : List α) (q : α → Bool) : (L.any fun s => !q s) = !L.all q := by
  induction L with
  | nil => rfl
  | cons a l ih => rw [List.any_cons, List.all_cons, ih, Bool.not_and]
include hm in
theorem isAddress (L : List Int) (h : L.length ≤ 1048576) : Holds Tryz.prog 110 [.sl .sh (L.map intA)] [] (.v (.bool (addrB L))) [] := by
  refine holds_of (ann := []) tabOk hm Tryz.func110 (by kernel_rfl) rfl ?_
  have ha : (L.map intA).length = L.length := List.length_map _
  simp +decide only [Tryz.f110, ha, go_sem, Nat.reduceAdd, Nat.reduceMul, Nat.reduceSub]
  cases h2 : decide ((L.length : Int) = 4)
  · simp +decide only [go_sem, Nat.reduceAdd, Nat.reduceMul, Nat.reduceSub]
    exact Runs.ret_eq (by rw [addrB, h2, Bool.false_and])
  · simp +decide only [go_sem, Nat.reduceAdd, Nat.reduceMul, Nat.reduceSub]
    refine Runs.call (allWithin hm L 0 255 (by omega)) ?_
    simp +decide only [go_sem, Nat.reduceAdd, Nat.reduceMul, Nat.reduceSub]
    exact Runs.ret_eq (by rw [addrB, h2, Bool.true_and])
include hm in
theorem notAddress (L : List Int) (h : L.length ≤ 1048576) : Holds Tryz.prog 109 [.sl .sh (L.map intA)] [] (.v (.bool (!addrB L))) [] := by
  refine holds_of (ann := []) tabOk hm Tryz.func109 (by kernel_rfl) rfl ?_
  simp +decide only [Tryz.f109, go_sem, Nat.reduceAdd, Nat.reduceMul, Nat.reduceSub]
  refine Runs.call (isAddress hm L h) ?_
  simp +decide only [go_sem, Nat.reduceAdd, Nat.reduceMul, Nat.reduceSub]
  exact Runs.ret_v
include hm in
theorem areAll1 (g : Nat) (q : ByteArray → Bool) (s : ByteArray) (hq : Holds Tryz.prog g [.v (.string s)] [] (.v (.bool (q s))) []) :
    Holds Tryz.prog 143 [.v (.string s), .ptr [.v (.func (.func g) #[] #[])] 0 0] [] (.v (.bool (!q s))) [] := by
  refine holds_of (ann := []) tabOk hm Tryz.func143 (by kernel_rfl) rfl ?_
  simp +decide only [Tryz.f143, go_sem, Nat.reduceAdd, Nat.reduceMul, Nat.reduceSub]
  refine Runs.call hq ?_
  simp +decide only [go_sem, Nat.reduceAdd, Nat.reduceMul, Nat.reduceSub]
  exact Runs.ret_v
include hm in
theorem areAll (g : Nat) (q : ByteArray → Bool) (L : List ByteArray) (h : L.length ≤ 1048576) (hq : ∀ s ∈ L, Holds Tryz.prog g [.v (.string s)] [] (.v (.bool (q s))) []) :
    Holds Tryz.prog 105 [.sl .sh (L.map strA), .v (.func (.func g) #[] #[])] [] (.v (.bool (hostsB q L))) [] := by
  refine holds_ref (ann := []) tabOk hm (byL [] [1000003]) Tryz.func105 (by kernel_rfl) rfl ?_
  have ha : (L.map strA).length = L.length := List.length_map _
  simp +decide only [Tryz.f105, ha, go_sem, Nat.reduceAdd, Nat.reduceMul, Nat.reduceSub]
  cases h2 : decide ((L.length : Int) ≤ 6)
  · simp +decide only [go_sem, Nat.reduceAdd, Nat.reduceMul, Nat.reduceSub]
    exact Runs.ret_eq (by rw [hostsB, h2, Bool.and_false])
  · simp +decide only [go_sem, Nat.reduceAdd, Nat.reduceMul, Nat.reduceSub]
    have c := contFunc2 hm 143 g L (fun s => !q s) h (fun s hs => areAll1 hm g q s (hq s hs))
    rw [any_not_all] at c
    refine Runs.call c ?_
    simp +decide only [go_sem, Nat.reduceAdd, Nat.reduceMul, Nat.reduceSub]
    exact Runs.ret_eq (by rw [hostsB, h2, Bool.and_true, Bool.not_not])
set_option maxHeartbeats 4000000 in
include hm in
theorem extsOk (ca : Bool) (path usage : Int) (ho : List ByteArray) (ne : List (List Int)) (al de : List ByteArray) (pu : List Int) (h : ExFit ho ne al de pu)
    (s1 : ∀ s ∈ ho, s.size ≤ 1048576) (s2 : ∀ s ∈ al, s.size ≤ 1048576) (s3 : ∀ s ∈ de, s.size ≤ 1048576) :
    Holds Tryz.prog 61 [exS ca path usage ho ne al de pu] [] (.v (.bool (exB ca path usage ho ne al de pu))) [] := by
  obtain ⟨f1, f2, f3, f4, f5, f6⟩ := h
  refine holds_ref (ann := []) tabOk hm (byL [] [1000001]) Tryz.func61 (by kernel_rfl) rfl ?_
  have hN : (ne.map rowS).length = ne.length := List.length_map _
  have hP : (pu.map intA).length = pu.length := List.length_map _
  have h1 := areAll hm 106 patB ho f1 fun s hs => iPatOk hm s (s1 s hs)
  have h2 := areAll hm 107 hostB al f4 fun s hs => iHostOk hm s
  have h3 := areAll hm 107 hostB de f5 fun s hs => iHostOk hm s
  have h4 := contFuncI hm 109 ne (fun l => !addrB l) f2 fun l hl => notAddress hm l (f3 l hl)
  rw [any_not_all] at h4
  have h5 := isRising hm pu 1 1000 (by omega)
  simp +decide only [Tryz.f61, hN, hP, go_sem, Nat.reduceAdd, Nat.reduceMul, Nat.reduceSub]
  refine Runs.call (within hm path (-1) 10) ?_
  cases c1 : inB path (-1) 10
  · simp +decide only [go_sem, Nat.reduceAdd, Nat.reduceMul, Nat.reduceSub]
    exact Runs.ret_eq (by simp only [exB, c1, Bool.false_and])
  simp +decide only [go_sem, Nat.reduceAdd, Nat.reduceMul, Nat.reduceSub]
  cases c2 : (ca || decide (path = -1))
  · simp only [Bool.or_eq_false_iff] at c2
    obtain ⟨d1, d2⟩ := c2
    subst d1
    simp +decide only [d2, go_sem, Nat.reduceAdd, Nat.reduceMul, Nat.reduceSub]
    exact Runs.ret_eq (by simp only [exB, c1, d2, Bool.or_false, Bool.and_false, Bool.false_and])
  cases ca
  all_goals
    simp only [Bool.false_or, Bool.true_or] at c2
    simp +decide only [c2, go_sem, Nat.reduceAdd, Nat.reduceMul, Nat.reduceSub]
    refine Runs.call (within hm usage 0 7) ?_
    cases c3 : inB usage 0 7
    · simp +decide only [go_sem, Nat.reduceAdd, Nat.reduceMul, Nat.reduceSub]
      exact Runs.ret_eq (by simp only [exB, c3, Bool.and_false, Bool.false_and])
    simp +decide only [go_sem, Nat.reduceAdd, Nat.reduceMul, Nat.reduceSub]
    refine Runs.call h1 ?_
    cases c4 : hostsB patB ho
    · simp +decide only [go_sem, Nat.reduceAdd, Nat.reduceMul, Nat.reduceSub]
      exact Runs.ret_eq (by simp only [exB, c4, Bool.and_false, Bool.false_and])
    simp +decide only [go_sem, Nat.reduceAdd, Nat.reduceMul, Nat.reduceSub]
    refine Runs.call h2 ?_
    cases c5 : hostsB hostB al
    · simp +decide only [go_sem, Nat.reduceAdd, Nat.reduceMul, Nat.reduceSub]
      exact Runs.ret_eq (by simp only [exB, c5, Bool.and_false, Bool.false_and])
    simp +decide only [go_sem, Nat.reduceAdd, Nat.reduceMul, Nat.reduceSub]
    refine Runs.call h3 ?_
    cases c6 : hostsB hostB de
    · simp +decide only [go_sem, Nat.reduceAdd, Nat.reduceMul, Nat.reduceSub]
      exact Runs.ret_eq (by simp only [exB, c6, Bool.and_false, Bool.false_and])
    simp +decide only [hN, hP, go_sem, Nat.reduceAdd, Nat.reduceMul, Nat.reduceSub]
    refine Runs.split (fun g => ?_) (fun g => ?_)
    · have c7 : decide ((ne.length : Int) ≤ 6) = false := by simp at g; simp; omega
      simp +decide only [go_sem, Nat.reduceAdd, Nat.reduceMul, Nat.reduceSub]
      exact Runs.ret_eq (by simp only [exB, c7, Bool.and_false, Bool.false_and])
    have c7 : decide ((ne.length : Int) ≤ 6) = true := by simp at g; simp; omega
    simp +decide only [hN, hP, go_sem, Nat.reduceAdd, Nat.reduceMul, Nat.reduceSub]
    refine Runs.call h4 ?_
    cases c8 : ne.all addrB
    · simp +decide only [go_sem, Nat.reduceAdd, Nat.reduceMul, Nat.reduceSub]
      exact Runs.ret_eq (by simp only [exB, c8, Bool.and_false, Bool.false_and])
    simp +decide only [hN, hP, go_sem, Nat.reduceAdd, Nat.reduceMul, Nat.reduceSub]
    cases c9 : decide ((pu.length : Int) ≤ 6)
    · simp +decide only [go_sem, Nat.reduceAdd, Nat.reduceMul, Nat.reduceSub]
      exact Runs.ret_eq (by simp only [exB, c9, Bool.and_false, Bool.false_and])
    simp +decide only [go_sem, Nat.reduceAdd, Nat.reduceMul, Nat.reduceSub]
    refine Runs.call h5 ?_
    simp +decide only [go_sem, Nat.reduceAdd, Nat.reduceMul, Nat.reduceSub]
    exact Runs.ret_eq (by simp only [exB, risE, c1, c2, c3, c4, c5, c6, c7, c8, c9, Bool.true_and, Bool.and_true, Bool.true_or, Bool.false_or])
end Go.Proofs.W

namespace Go.Proofs.W
open Go Go.AM Go.Proofs.G
set_option maxRecDepth 10000
variable (hm : Tryz.prog.follows .mixedOrders = true)
attribute [local go_sem] keyA keyO exS exO rowS_plain rowS_dn rowO_dn
structure GCert where
  serial : Int
  issuer : List ByteArray
  subject : List ByteArray
  from' : Int
  tu : Int
  key : GKey
  alg : Int
  ca : Bool
  path : Int
  usage : Int
  ho : List ByteArray
  ne : List (List Int)
  al : List ByteArray
  de : List ByteArray
  pu : List Int
  sig : List Int
def certA (c : GCert) : A := .agg [.v (.int .i64 c.serial), .sl .sh (c.issuer.map strA), .sl .sh (c.subject.map strA), .v (.int .i64 c.from'), .v (.int .i64 c.tu), .v (.int .i64 c.key.kind), .sl .sh (c.key.N.map intA), .v (.int .i64 c.key.e), .v (.int .i64 c.key.cv.p), .v (.int .i64 c.key.cv.a), .v (.int .i64 c.key.cv.b), .v (.int .i64 c.key.cv.n), .v (.int .i64 c.key.cv.gx), .v (.int .i64 c.key.cv.gy), .v (.int .i64 c.key.q.x), .v (.int .i64 c.key.q.y), .v (.bool c.key.q.far), .v (.int .i64 c.key.ed.p), .v (.int .i64 c.key.ed.d), .v (.int .i64 c.key.ed.l), .v (.int .i64 c.key.ed.bx), .v (.int .i64 c.key.ed.by'), .v (.int .i64 c.key.a.1), .v (.int .i64 c.key.a.2), .v (.int .i64 c.alg), .v (.bool c.ca), .v (.int .i64 c.path), .v (.int .i64 c.usage), .sl .sh (c.ho.map strA), .sl .sh (c.ne.map rowS), .sl .sh (c.al.map strA), .sl .sh (c.de.map strA), .sl .sh (c.pu.map intA), .sl .sh (c.sig.map u8A)]
def certO (c : GCert) : A := .agg [.v (.int .i64 c.serial), .sl (.ow 1) (c.issuer.map strA), .sl (.ow 1) (c.subject.map strA), .v (.int .i64 c.from'), .v (.int .i64 c.tu), .v (.int .i64 c.key.kind), .sl (.ow 1) (c.key.N.map intA), .v (.int .i64 c.key.e), .v (.int .i64 c.key.cv.p), .v (.int .i64 c.key.cv.a), .v (.int .i64 c.key.cv.b), .v (.int .i64 c.key.cv.n), .v (.int .i64 c.key.cv.gx), .v (.int .i64 c.key.cv.gy), .v (.int .i64 c.key.q.x), .v (.int .i64 c.key.q.y), .v (.bool c.key.q.far), .v (.int .i64 c.key.ed.p), .v (.int .i64 c.key.ed.d), .v (.int .i64 c.key.ed.l), .v (.int .i64 c.key.ed.bx), .v (.int .i64 c.key.ed.by'), .v (.int .i64 c.key.a.1), .v (.int .i64 c.key.a.2), .v (.int .i64 c.alg), .v (.bool c.ca), .v (.int .i64 c.path), .v (.int .i64 c.usage), .sl (.ow 1) (c.ho.map strA), .sl (.ow 1) (c.ne.map rowO), .sl (.ow 1) (c.al.map strA), .sl (.ow 1) (c.de.map strA), .sl (.ow 1) (c.pu.map intA), .sl (.ow 1) (c.sig.map u8A)]
attribute [local go_sem] certA certO
noncomputable def certB (c : GCert) : Bool := inB c.serial 1 1000000000000000 && nameOk c.issuer && nameOk c.subject && inB c.from' (-631152000) 4102444799 && inB c.tu (-631152000) 4102444799 && decide (c.from' ≤ c.tu) && keyB c.key && inB c.alg 1 4 && exB c.ca c.path c.usage c.ho c.ne c.al c.de c.pu && inB c.sig.length 1 64
def CertIn (c : GCert) : Prop :=
  (c.issuer.length ≤ 9223372036854775807 ∧ ∀ s ∈ c.issuer, s.size ≤ 9223372036854775807) ∧ (c.subject.length ≤ 9223372036854775807 ∧ ∀ s ∈ c.subject, s.size ≤ 9223372036854775807) ∧ c.key.N.length ≤ 9223372036854775807 ∧
  (c.ho.length ≤ 9223372036854775807 ∧ ∀ s ∈ c.ho, s.size ≤ 9223372036854775807) ∧ (c.ne.length ≤ 9223372036854775807 ∧ ∀ s ∈ c.ne, s.length ≤ 9223372036854775807) ∧ (c.al.length ≤ 9223372036854775807 ∧ ∀ s ∈ c.al, s.size ≤ 9223372036854775807) ∧
  (c.de.length ≤ 9223372036854775807 ∧ ∀ s ∈ c.de, s.size ≤ 9223372036854775807) ∧ c.pu.length ≤ 9223372036854775807 ∧ c.sig.length ≤ 9223372036854775807
def CertFit (c : GCert) : Prop :=
  (c.issuer.length ≤ 1048576 ∧ ∀ s ∈ c.issuer, s.size ≤ 1048576) ∧ (c.subject.length ≤ 1048576 ∧ ∀ s ∈ c.subject, s.size ≤ 1048576) ∧ c.key.N.length ≤ 1048576 ∧ ExFit c.ho c.ne c.al c.de c.pu ∧
  (∀ s ∈ c.ho, s.size ≤ 1048576) ∧ (∀ s ∈ c.al, s.size ≤ 1048576) ∧ (∀ s ∈ c.de, s.size ≤ 1048576) ∧ c.sig.length ≤ 1048576
theorem szGo_sz (L : List ByteArray) (l : Int) (h : 0 ≤ l) (h2 : 0 ≤ szGo L l) : ∀ s ∈ L, (s.size : Int) ≤ l := by
  induction L generalizing l with
  | nil => simp
  | cons a r ih =>
    simp only [szGo] at h2
    split at h2
    · omega
    · intro s hs
      rcases List.mem_cons.mp hs with e | e
      · subst e; omega
      · have := ih (l - a.size) (by omega) h2 s e; omega
theorem szS_sz (L : List ByteArray) (l : Int) (h : 0 ≤ l) (hl : l ≤ 1048576) (h2 : ¬ szS L l < 0) : ∀ s ∈ L, s.size ≤ 1048576 := by
  unfold szS at h2
  split at h2
  · exact absurd (by omega) h2
  · intro s hs
    have := szGo_sz L (l - L.length) (by omega) (by omega) s hs
    omega
theorem szExV_sz (ho : List ByteArray) (ne : List (List Int)) (al de : List ByteArray) (pu : List Int) (left : Int) (h : 0 ≤ left) (h2 : left ≤ 1048576) (h3 : ¬ szExV ho ne al de pu left < 0) :
    (∀ s ∈ ho, s.size ≤ 1048576) ∧ (∀ s ∈ al, s.size ≤ 1048576) ∧ (∀ s ∈ de, s.size ≤ 1048576) := by
  have b1 := szS_le ho left h
  unfold szExV at h3
  split at h3
  · omega
  rename_i e1
  have b2 := szSS_le ne (szS ho left) (by omega)
  split at h3
  · omega
  rename_i e2
  have b3 := szS_le al (szSS ne (szS ho left)) (by omega)
  split at h3
  · omega
  rename_i e3
  split at h3
  · omega
  rename_i e4
  exact ⟨szS_sz ho left h h2 e1, szS_sz al _ (by omega) (by omega) e3, szS_sz de _ (by omega) (by omega) e4⟩
def szCertV (c : GCert) (left : Int) : Int :=
  if szS c.issuer left < 0 then -1 else if szS c.subject (szS c.issuer left) < 0 then -1 else if szI c.key.N.length (szS c.subject (szS c.issuer left)) < 0 then -1 else
  if szExV c.ho c.ne c.al c.de c.pu (szI c.key.N.length (szS c.subject (szS c.issuer left))) < 0 then -1 else szI c.sig.length (szExV c.ho c.ne c.al c.de c.pu (szI c.key.N.length (szS c.subject (szS c.issuer left))))
theorem szCertV_fit (c : GCert) (left : Int) (h : 0 ≤ left) (h2 : left ≤ 1048576) (h3 : ¬ szCertV c left < 0) : CertFit c := by
  have b1 := szS_le c.issuer left h
  unfold szCertV at h3
  split at h3
  · omega
  rename_i e1
  have b2 := szS_le c.subject (szS c.issuer left) (by omega)
  split at h3
  · omega
  rename_i e2
  have b3 := szI_le c.key.N.length (szS c.subject (szS c.issuer left)) (by omega)
  split at h3
  · omega
  rename_i e3
  have b4 := szExV_le c.ho c.ne c.al c.de c.pu (szI c.key.N.length (szS c.subject (szS c.issuer left))) (by omega) (by omega)
  split at h3
  · omega
  rename_i e4
  have k4 := szExV_sz c.ho c.ne c.al c.de c.pu _ (by omega) (by omega) e4
  exact ⟨⟨szS_len _ _ e1 (by omega), szS_sz _ _ (by omega) (by omega) e1⟩, ⟨szS_len _ _ e2 (by omega), szS_sz _ _ (by omega) (by omega) e2⟩, szI_len _ _ e3 (by omega), b4.2.2 e4, k4.1, k4.2.1, k4.2.2, szI_len _ _ h3 (by omega)⟩
set_option maxHeartbeats 4000000 in
include hm in
theorem szCert (c : GCert) (left : Int) (l1 : 0 ≤ left) (l2 : left ≤ 1048576) (h : CertIn c) : Holds Tryz.prog 4 [certA c, .v (.int .i64 left)] [] (.v (.int .i64 (szCertV c left))) [] := by
  obtain ⟨⟨i1, i2⟩, ⟨j1, j2⟩, kn, ⟨o1, o2⟩, ⟨n1, n2⟩, ⟨a1, a2⟩, ⟨d1, d2⟩, p1, g1⟩ := h
  have b1 := szS_le c.issuer left l1
  refine holds_ref (ann := []) tabOk hm (byL [] [1000002]) Tryz.func4 (by kernel_rfl) rfl ?_
  simp +decide only [Tryz.f4, go_sem, Nat.reduceAdd, Nat.reduceMul, Nat.reduceSub]
  refine Runs.call (szStringS hm c.issuer left l1 l2 i1 i2) ?_
  simp +decide only [go_sem, Nat.reduceAdd, Nat.reduceMul, Nat.reduceSub]
  refine Runs.split (fun e => ?_) (fun e => ?_)
  · simp only [decide_eq_true_eq] at e
    simp +decide only [szCertV, if_pos e, go_sem, Nat.reduceAdd, Nat.reduceMul, Nat.reduceSub]
    exact Runs.ret_v
  simp only [decide_eq_false_iff_not] at e
  have b2 := szS_le c.subject (szS c.issuer left) (by omega)
  simp +decide only [go_sem, Nat.reduceAdd, Nat.reduceMul, Nat.reduceSub]
  refine Runs.call (szStringS hm c.subject _ (by omega) (by omega) j1 j2) ?_
  simp +decide only [go_sem, Nat.reduceAdd, Nat.reduceMul, Nat.reduceSub]
  refine Runs.split (fun e2 => ?_) (fun e2 => ?_)
  · simp only [decide_eq_true_eq] at e2
    simp +decide only [szCertV, if_neg e, if_pos e2, go_sem, Nat.reduceAdd, Nat.reduceMul, Nat.reduceSub]
    exact Runs.ret_v
  simp only [decide_eq_false_iff_not] at e2
  have b3 := szI_le c.key.N.length (szS c.subject (szS c.issuer left)) (by omega)
  have ck := szKey hm c.key (szS c.subject (szS c.issuer left)) (by omega) (by omega) kn
  rw [keyA] at ck
  simp +decide only [go_sem, Nat.reduceAdd, Nat.reduceMul, Nat.reduceSub]
  refine Runs.call ck ?_
  simp +decide only [go_sem, Nat.reduceAdd, Nat.reduceMul, Nat.reduceSub]
  refine Runs.split (fun e3 => ?_) (fun e3 => ?_)
  · simp only [decide_eq_true_eq] at e3
    simp +decide only [szCertV, if_neg e, if_neg e2, if_pos e3, go_sem, Nat.reduceAdd, Nat.reduceMul, Nat.reduceSub]
    exact Runs.ret_v
  simp only [decide_eq_false_iff_not] at e3
  have b4 := szExV_le c.ho c.ne c.al c.de c.pu (szI c.key.N.length (szS c.subject (szS c.issuer left))) (by omega) (by omega)
  have cx := szExts hm c.ca c.path c.usage c.ho c.ne c.al c.de c.pu (szI c.key.N.length (szS c.subject (szS c.issuer left))) (by omega) (by omega) o1 o2 n1 n2 a1 a2 d1 d2 p1
  rw [exS] at cx
  simp +decide only [go_sem, Nat.reduceAdd, Nat.reduceMul, Nat.reduceSub]
  refine Runs.call cx ?_
  simp +decide only [go_sem, Nat.reduceAdd, Nat.reduceMul, Nat.reduceSub]
  refine Runs.split (fun e4 => ?_) (fun e4 => ?_)
  · simp only [decide_eq_true_eq] at e4
    simp +decide only [szCertV, if_neg e, if_neg e2, if_neg e3, if_pos e4, go_sem, Nat.reduceAdd, Nat.reduceMul, Nat.reduceSub]
    exact Runs.ret_v
  simp only [decide_eq_false_iff_not] at e4
  have b5 := szI_le c.sig.length (szExV c.ho c.ne c.al c.de c.pu (szI c.key.N.length (szS c.subject (szS c.issuer left)))) (by omega)
  simp +decide only [go_sem, Nat.reduceAdd, Nat.reduceMul, Nat.reduceSub]
  refine Runs.call (szByteS hm (c.sig.map u8A) _ (by omega) (by omega) (by simpa using g1)) ?_
  simp +decide only [List.length_map, go_sem, Nat.reduceAdd, Nat.reduceMul, Nat.reduceSub]
  refine Runs.split (fun e5 => ?_) (fun e5 => ?_)
  · simp only [decide_eq_true_eq] at e5
    refine Runs.ret_eq ?_ |> fun h => by simp +decide only [go_sem, Nat.reduceAdd, Nat.reduceMul, Nat.reduceSub]; exact h
    have e6 : szI c.sig.length (szExV c.ho c.ne c.al c.de c.pu (szI c.key.N.length (szS c.subject (szS c.issuer left)))) = -1 := by omega
    rw [szCertV, if_neg e, if_neg e2, if_neg e3, if_neg e4, e6]
  simp +decide only [szCertV, if_neg e, if_neg e2, if_neg e3, if_neg e4, go_sem, Nat.reduceAdd, Nat.reduceMul, Nat.reduceSub]
  exact Runs.ret_v
set_option maxHeartbeats 4000000 in
include hm in
theorem toCert (c : GCert) (h : CertFit c) : Holds Tryz.prog 6 [certA c] [] (certO c) [] := by
  obtain ⟨⟨i1, i2⟩, ⟨j1, j2⟩, kn, hx, s1, s2, s3, g1⟩ := h
  refine holds_ref (ann := []) tabOk hm (byL [] [1000001]) Tryz.func6 (by kernel_rfl) rfl ?_
  have ck := toKey hm c.key kn
  rw [keyA, keyO] at ck
  have cx := toExts hm c.ca c.path c.usage c.ho c.ne c.al c.de c.pu hx
  rw [exS, exO] at cx
  simp +decide only [Tryz.f6, go_sem, Nat.reduceAdd, Nat.reduceMul, Nat.reduceSub]
  refine Runs.call (toStringS hm c.issuer i1) ?_
  simp +decide only [go_sem, Nat.reduceAdd, Nat.reduceMul, Nat.reduceSub]
  refine Runs.call (toStringS hm c.subject j1) ?_
  simp +decide only [go_sem, Nat.reduceAdd, Nat.reduceMul, Nat.reduceSub]
  refine Runs.call ck ?_
  simp +decide only [go_sem, Nat.reduceAdd, Nat.reduceMul, Nat.reduceSub]
  refine Runs.call cx ?_
  simp +decide only [go_sem, Nat.reduceAdd, Nat.reduceMul, Nat.reduceSub]
  refine Runs.call (toByteS hm c.sig g1) ?_
  simp +decide only [go_sem, Nat.reduceAdd, Nat.reduceMul, Nat.reduceSub]
  exact Runs.ret_refl
set_option maxHeartbeats 4000000 in
include hm in
theorem eqCert (c : GCert) (h : CertFit c) : Holds Tryz.prog 9 [certA c, certA c] [] (.v (.bool true)) [] := by
  obtain ⟨⟨i1, i2⟩, ⟨j1, j2⟩, kn, hx, s1, s2, s3, g1⟩ := h
  refine holds_ref (ann := []) tabOk hm (byL [] [1000002, 1000003]) Tryz.func9 (by kernel_rfl) rfl ?_
  have ck := eqKey hm c.key kn
  rw [keyA] at ck
  have cx := eqExts hm c.ca c.path c.usage c.ho c.ne c.al c.de c.pu hx
  rw [exS] at cx
  simp +decide only [Tryz.f9, go_sem, Nat.reduceAdd, Nat.reduceMul, Nat.reduceSub]
  refine Runs.call (eqStringS hm c.issuer (by omega)) ?_
  simp +decide only [go_sem, Nat.reduceAdd, Nat.reduceMul, Nat.reduceSub]
  refine Runs.call (eqStringS hm c.subject (by omega)) ?_
  simp +decide only [go_sem, Nat.reduceAdd, Nat.reduceMul, Nat.reduceSub]
  refine Runs.call ck ?_
  simp +decide only [go_sem, Nat.reduceAdd, Nat.reduceMul, Nat.reduceSub]
  refine Runs.call cx ?_
  simp +decide only [go_sem, Nat.reduceAdd, Nat.reduceMul, Nat.reduceSub]
  refine Runs.call (eqByteS hm c.sig (by omega)) ?_
  simp +decide only [go_sem, Nat.reduceAdd, Nat.reduceMul, Nat.reduceSub]
  exact Runs.ret_v
set_option maxHeartbeats 4000000 in
include hm in
theorem sCertOk (c : GCert) (h : CertFit c) : Holds Tryz.prog 17 [certA c] [] (.v (.bool (certB c))) [] := by
  obtain ⟨⟨i1, i2⟩, ⟨j1, j2⟩, kn, hx, s1, s2, s3, g1⟩ := h
  refine holds_ref (ann := []) tabOk hm (byL [] [1000001]) Tryz.func17 (by kernel_rfl) rfl ?_
  have ck := sKeyOk hm c.key (by omega)
  rw [keyA] at ck
  have cx := l10Exts hm c.ca c.path c.usage c.ho c.ne c.al c.de c.pu hx s1 s2 s3
  rw [exS] at cx
  have hl : (c.sig.map u8A).length = c.sig.length := List.length_map _
  simp +decide only [Tryz.f17, go_sem, Nat.reduceAdd, Nat.reduceMul, Nat.reduceSub]
  refine Runs.call (l1In hm c.serial 1 1000000000000000) ?_
  cases c1 : inB c.serial 1 1000000000000000
  · simp +decide only [go_sem, Nat.reduceAdd, Nat.reduceMul, Nat.reduceSub]
    exact Runs.ret_eq (by simp only [certB, c1, Bool.false_and])
  simp +decide only [go_sem, Nat.reduceAdd, Nat.reduceMul, Nat.reduceSub]
  refine Runs.call (l10Name hm c.issuer (by omega) (fun s hs => by have := i2 s hs; omega)) ?_
  cases c2 : nameOk c.issuer
  · simp +decide only [go_sem, Nat.reduceAdd, Nat.reduceMul, Nat.reduceSub]
    exact Runs.ret_eq (by simp only [certB, c2, Bool.and_false, Bool.false_and])
  simp +decide only [go_sem, Nat.reduceAdd, Nat.reduceMul, Nat.reduceSub]
  refine Runs.call (l10Name hm c.subject (by omega) (fun s hs => by have := j2 s hs; omega)) ?_
  cases c3 : nameOk c.subject
  · simp +decide only [go_sem, Nat.reduceAdd, Nat.reduceMul, Nat.reduceSub]
    exact Runs.ret_eq (by simp only [certB, c3, Bool.and_false, Bool.false_and])
  simp +decide only [go_sem, Nat.reduceAdd, Nat.reduceMul, Nat.reduceSub]
  refine Runs.call (l9Ok hm c.from') ?_
  cases c4 : inB c.from' (-631152000) 4102444799
  · simp +decide only [go_sem, Nat.reduceAdd, Nat.reduceMul, Nat.reduceSub]
    exact Runs.ret_eq (by simp only [certB, c4, Bool.and_false, Bool.false_and])
  simp +decide only [go_sem, Nat.reduceAdd, Nat.reduceMul, Nat.reduceSub]
  refine Runs.call (l9Ok hm c.tu) ?_
  cases c5 : inB c.tu (-631152000) 4102444799
  · simp +decide only [go_sem, Nat.reduceAdd, Nat.reduceMul, Nat.reduceSub]
    exact Runs.ret_eq (by simp only [certB, c5, Bool.and_false, Bool.false_and])
  simp +decide only [go_sem, Nat.reduceAdd, Nat.reduceMul, Nat.reduceSub]
  cases c6 : decide (c.from' ≤ c.tu)
  · simp +decide only [go_sem, Nat.reduceAdd, Nat.reduceMul, Nat.reduceSub]
    exact Runs.ret_eq (by simp only [certB, c6, Bool.and_false, Bool.false_and])
  simp +decide only [go_sem, Nat.reduceAdd, Nat.reduceMul, Nat.reduceSub]
  refine Runs.call ck ?_
  cases c7 : keyB c.key
  · simp +decide only [go_sem, Nat.reduceAdd, Nat.reduceMul, Nat.reduceSub]
    exact Runs.ret_eq (by simp only [certB, c7, Bool.and_false, Bool.false_and])
  simp +decide only [hl, go_sem, Nat.reduceAdd, Nat.reduceMul, Nat.reduceSub]
  refine Runs.call (l1In hm c.alg 1 4) ?_
  cases c8 : inB c.alg 1 4
  · simp +decide only [go_sem, Nat.reduceAdd, Nat.reduceMul, Nat.reduceSub]
    exact Runs.ret_eq (by simp only [certB, c8, Bool.and_false, Bool.false_and])
  simp +decide only [hl, go_sem, Nat.reduceAdd, Nat.reduceMul, Nat.reduceSub]
  refine Runs.call cx ?_
  cases c9 : exB c.ca c.path c.usage c.ho c.ne c.al c.de c.pu
  · simp +decide only [go_sem, Nat.reduceAdd, Nat.reduceMul, Nat.reduceSub]
    exact Runs.ret_eq (by simp only [certB, c9, Bool.and_false, Bool.false_and])
  simp +decide only [hl, go_sem, Nat.reduceAdd, Nat.reduceMul, Nat.reduceSub]
  refine Runs.call (l1In hm _ 1 64) ?_
  cases c10 : inB c.sig.length 1 64
  · simp +decide only [go_sem, Nat.reduceAdd, Nat.reduceMul, Nat.reduceSub]
    exact Runs.ret_eq (by simp only [certB, c10, Bool.and_false, Bool.false_and])
  simp +decide only [hl, go_sem, Nat.reduceAdd, Nat.reduceMul, Nat.reduceSub]
  exact Runs.ret_eq (by simp only [certB, c1, c2, c3, c4, c5, c6, c7, c8, c9, c10, Bool.true_and])
set_option maxHeartbeats 4000000 in
include hm in
theorem iCertOk (c : GCert) (h : CertFit c) : Holds Tryz.prog 26 [certA c] [] (.v (.bool (certB c))) [] := by
  obtain ⟨⟨i1, i2⟩, ⟨j1, j2⟩, kn, hx, s1, s2, s3, g1⟩ := h
  refine holds_ref (ann := []) tabOk hm (byL [] [1000001]) Tryz.func26 (by kernel_rfl) rfl ?_
  have ck := iKeyOk hm c.key (by omega)
  rw [keyA] at ck
  have cx := extsOk hm c.ca c.path c.usage c.ho c.ne c.al c.de c.pu hx s1 s2 s3
  rw [exS] at cx
  have hl : (c.sig.map u8A).length = c.sig.length := List.length_map _
  simp +decide only [Tryz.f26, go_sem, Nat.reduceAdd, Nat.reduceMul, Nat.reduceSub]
  refine Runs.call (within hm c.serial 1 1000000000000000) ?_
  cases c1 : inB c.serial 1 1000000000000000
  · simp +decide only [go_sem, Nat.reduceAdd, Nat.reduceMul, Nat.reduceSub]
    exact Runs.ret_eq (by simp only [certB, c1, Bool.false_and])
  simp +decide only [go_sem, Nat.reduceAdd, Nat.reduceMul, Nat.reduceSub]
  refine Runs.call (isName hm c.issuer (by omega) (fun s hs => by have := i2 s hs; omega)) ?_
  cases c2 : nameOk c.issuer
  · simp +decide only [go_sem, Nat.reduceAdd, Nat.reduceMul, Nat.reduceSub]
    exact Runs.ret_eq (by simp only [certB, c2, Bool.and_false, Bool.false_and])
  simp +decide only [go_sem, Nat.reduceAdd, Nat.reduceMul, Nat.reduceSub]
  refine Runs.call (isName hm c.subject (by omega) (fun s hs => by have := j2 s hs; omega)) ?_
  cases c3 : nameOk c.subject
  · simp +decide only [go_sem, Nat.reduceAdd, Nat.reduceMul, Nat.reduceSub]
    exact Runs.ret_eq (by simp only [certB, c3, Bool.and_false, Bool.false_and])
  simp +decide only [go_sem, Nat.reduceAdd, Nat.reduceMul, Nat.reduceSub]
  refine Runs.call (isTime hm c.from') ?_
  cases c4 : inB c.from' (-631152000) 4102444799
  · simp +decide only [go_sem, Nat.reduceAdd, Nat.reduceMul, Nat.reduceSub]
    exact Runs.ret_eq (by simp only [certB, c4, Bool.and_false, Bool.false_and])
  simp +decide only [go_sem, Nat.reduceAdd, Nat.reduceMul, Nat.reduceSub]
  refine Runs.call (isTime hm c.tu) ?_
  cases c5 : inB c.tu (-631152000) 4102444799
  · simp +decide only [go_sem, Nat.reduceAdd, Nat.reduceMul, Nat.reduceSub]
    exact Runs.ret_eq (by simp only [certB, c5, Bool.and_false, Bool.false_and])
  simp +decide only [go_sem, Nat.reduceAdd, Nat.reduceMul, Nat.reduceSub]
  cases c6 : decide (c.from' ≤ c.tu)
  · simp +decide only [go_sem, Nat.reduceAdd, Nat.reduceMul, Nat.reduceSub]
    exact Runs.ret_eq (by simp only [certB, c6, Bool.and_false, Bool.false_and])
  simp +decide only [go_sem, Nat.reduceAdd, Nat.reduceMul, Nat.reduceSub]
  refine Runs.call (within hm c.alg 1 4) ?_
  cases c8 : inB c.alg 1 4
  · simp +decide only [go_sem, Nat.reduceAdd, Nat.reduceMul, Nat.reduceSub]
    exact Runs.ret_eq (by simp only [certB, c8, Bool.and_false, Bool.false_and])
  simp +decide only [hl, go_sem, Nat.reduceAdd, Nat.reduceMul, Nat.reduceSub]
  refine Runs.call cx ?_
  cases c9 : exB c.ca c.path c.usage c.ho c.ne c.al c.de c.pu
  · simp +decide only [go_sem, Nat.reduceAdd, Nat.reduceMul, Nat.reduceSub]
    exact Runs.ret_eq (by simp only [certB, c9, Bool.and_false, Bool.false_and])
  simp +decide only [hl, go_sem, Nat.reduceAdd, Nat.reduceMul, Nat.reduceSub]
  refine Runs.call (by have q := isSig hm (c.sig.map u8A); rw [hl] at q; exact q) ?_
  cases c10 : inB c.sig.length 1 64
  · simp +decide only [go_sem, Nat.reduceAdd, Nat.reduceMul, Nat.reduceSub]
    exact Runs.ret_eq (by simp only [certB, c10, Bool.and_false, Bool.false_and])
  simp +decide only [hl, go_sem, Nat.reduceAdd, Nat.reduceMul, Nat.reduceSub]
  refine Runs.call ck ?_
  cases c7 : keyB c.key
  · simp +decide only [go_sem, Nat.reduceAdd, Nat.reduceMul, Nat.reduceSub]
    exact Runs.ret_eq (by simp only [certB, c7, Bool.and_false, Bool.false_and])
  simp +decide only [hl, go_sem, Nat.reduceAdd, Nat.reduceMul, Nat.reduceSub]
  exact Runs.ret_eq (by simp only [certB, c1, c2, c3, c4, c5, c6, c7, c8, c9, c10, Bool.true_and])
end Go.Proofs.W

namespace Go.Proofs.W
open Go Go.AM Go.Proofs.G
variable (hm : Tryz.prog.follows .mixedOrders = true)
attribute [local go_sem] keyA keyO exS exO rowS_plain rowS_dn rowO_dn certA certO
def cExNs (c : GCert) : List Nd := exNs c.ca c.path c.usage c.ho c.ne c.al c.de c.pu
def exTop (l : List Nd) : List Nd := if l = [] then [] else [.mk 163 [] [.mk 48 [] l]]
def tbsKs (c : GCert) : List Nd := [intN c.serial, intN c.alg, .mk 48 [] (c.issuer.map (txtN 12)), .mk 48 [] [timeN c.from', timeN c.tu], .mk 48 [] (c.subject.map (txtN 12)), keyNd c.key] ++ exTop (cExNs c)
def tbsN (c : GCert) : Nd := .mk 48 [] (tbsKs c)
def hd1 (c : GCert) : List It := [intI c.serial, intI c.alg]
def hd2 (c : GCert) : List It := hd1 c ++ ⟨48, [], c.issuer.length⟩ :: c.issuer.map (txtI 12)
def hd3 (c : GCert) : List It := hd2 c ++ [⟨48, [], 2⟩, timeI c.from', timeI c.tu]
def hd4 (c : GCert) : List It := hd3 c ++ ⟨48, [], c.subject.length⟩ :: c.subject.map (txtI 12)
def hd5 (c : GCert) : List It := hd4 c ++ keyT c.key
def tbsT (c : GCert) : List It := if cExNs c = [] then ⟨48, [], 6⟩ :: hd5 c else ⟨48, [], 7⟩ :: (hd5 c ++ ⟨163, [], 1⟩ :: ⟨48, [], (cExNs c).length⟩ :: itemsNL (cExNs c))
theorem items_tbs (c : GCert) : itemsN (tbsN c) = tbsT c := by
  unfold tbsN tbsKs tbsT exTop
  rw [itemsN_mk, itemsNL_app]
  split
  · simp only [itemsNL, itemsN_int, itemsN_time, itemsN_mk, items_txts, items_key, hd5, hd4, hd3, hd2, hd1, List.append_nil, List.length_append, List.length_cons, List.length_nil, List.length_map, List.cons_append, List.nil_append, List.append_assoc]
    rfl
  · simp only [itemsNL, itemsN_int, itemsN_time, itemsN_mk, items_txts, items_key, hd5, hd4, hd3, hd2, hd1, List.append_nil, List.length_append, List.length_cons, List.length_nil, List.length_map, List.cons_append, List.nil_append, List.append_assoc]
    rfl
structure CertW (c : GCert) : Prop where
  serial : 1 ≤ c.serial ∧ c.serial ≤ 1000000000000000
  alg : 1 ≤ c.alg ∧ c.alg ≤ 4
  iss : c.issuer.length ≤ 4 ∧ ∀ s ∈ c.issuer, s.size ≤ 40
  sub : c.subject.length ≤ 4 ∧ ∀ s ∈ c.subject, s.size ≤ 40
  key : keyB c.key = true
  path : -1 ≤ c.path ∧ c.path ≤ 10
  usage : 0 ≤ c.usage ∧ c.usage ≤ 7
  ho : c.ho.length ≤ 6
  ne : c.ne.length ≤ 6 ∧ ∀ a ∈ c.ne, a.length = 4
  al : c.al.length ≤ 6
  de : c.de.length ≤ 6
  pu : c.pu.length ≤ 6 ∧ ∀ n ∈ c.pu, 1 ≤ n ∧ n ≤ 1000
  sig : c.sig.length ≤ 64
theorem name_w {L : List ByteArray} (h : nameOk L = true) : L.length ≤ 4 ∧ ∀ s ∈ L, s.size ≤ 40 := by
  simp only [nameOk, Bool.and_eq_true, List.all_eq_true] at h
  have := inB_t h.2
  refine ⟨by omega, fun s hs => ?_⟩
  have h2 := h.1 s hs
  simp only [textOk, Bool.and_eq_true] at h2
  have := inB_t h2.1
  omega
theorem cert_w {c : GCert} (h : certB c = true) : CertW c := by
  simp only [certB, Bool.and_eq_true] at h
  obtain ⟨⟨⟨⟨⟨⟨⟨⟨⟨h1, h2⟩, h3⟩, h4⟩, h5⟩, h6⟩, h7⟩, h8⟩, h9⟩, h10⟩ := h
  simp only [exB, hostsB, addrB, risE, Bool.and_eq_true, List.all_eq_true, decide_eq_true_eq] at h9
  obtain ⟨⟨⟨⟨⟨⟨⟨⟨⟨x1, _⟩, x2⟩, x3⟩, x4⟩, x5⟩, x6⟩, x7⟩, x8⟩, x9⟩ := h9
  have s1 := inB_t h1
  have s8 := inB_t h8
  have p1 := inB_t x1
  have p2 := inB_t x2
  have g1 := inB_t h10
  exact { serial := s1, alg := s8, iss := name_w h2, sub := name_w h3, key := h7, path := p1, usage := p2, ho := by have := x3.2; omega
          ne := ⟨by omega, fun a ha => by have := (x8 a ha).1; omega⟩, al := by have := x4.2; omega, de := by have := x5.2; omega
          pu := ⟨by omega, fun n hn => inB_t (x9.2 n hn)⟩, sig := by omega }
theorem keyT_cons (k : GKey) : ∃ x T, keyT k = x :: T := by
  rw [← items_key]; exact itemsN_cons _
theorem cEx_le {c : GCert} (h : CertW c) : (itemsNL (cExNs c)).length ≤ 60 ∧ (cExNs c).length ≤ 5 := by
  have h1 := ex1_le c.ca c.path
  have h2 := ex2_le c.usage
  have h3 := ex3_le (ho := c.ho) (ne := c.ne) h.ho h.ne.1
  have h4 := ex4_le (al := c.al) (de := c.de) h.al h.de
  have h5 := ex5_le (pu := c.pu) h.pu.1
  refine ⟨?_, ?_⟩
  · simp only [cExNs, exNs, itemsNL_app, List.length_append]; omega
  · have l1 : (ex1 c.ca c.path).length ≤ 1 := by unfold ex1; split <;> simp
    have l2 : (ex2 c.usage).length ≤ 1 := by unfold ex2; split <;> simp
    have l3 : (ex3 c.ho c.ne).length ≤ 1 := by unfold ex3; split <;> simp
    have l4 : (ex4 c.al c.de).length ≤ 1 := by unfold ex4; split <;> simp
    have l5 : (ex5 c.pu).length ≤ 1 := by unfold ex5; split <;> simp
    simp only [cExNs, exNs, List.length_append]; omega
theorem joinAt {T : Tab} {by_ : Nat → AM.Mode} {ann : Ann} {Φ : Known} {keep : List Nat} {st S : St} {k : St → Free} {r : A} {X : List Blk} (h : st.only keep = S) (hR : Runs T by_ ann Φ (k S) r X) : Runs T by_ ann Φ (.join keep st k) r X :=
  Runs.join (by rw [h]; exact hR)
def ltS1 : Sched := .take 0 (.take 3 (.ld 1 (.ld 4 (.alt 2 (.alt 5 (.alt 6 (.take 7 .fin) .nil) .nil) .nil))))
def ltS2 : Sched := .take 0 (.take 1 (.take 4 (.ld 2 (.take 3 (.ld 5 (.alt 6 (.alt 7 (.alt 8 (.take 9 .fin) .nil) .nil) .nil))))))
def ltS3 : Sched := .take 0 (.take 1 (.take 4 (.ld 2 (.ld 5 (.alt 3 (.alt 6 (.alt 7 (.alt 8 (.alt 9 (.take 10 .fin) .nil) .nil) .nil) .nil) .nil)))))
def ltS4 : Sched := .take 0 (.take 1 (.take 4 (.ld 2 (.take 3 (.ld 5 (.alt 6 (.alt 7 (.alt 8 (.take 9 .fin) .nil) .nil) .nil))))))
attribute [local go_sem] ltS1 ltS2 ltS3 ltS4
def ltSt (c : GCert) (L : List It) : St := ⟨[.any, .ptr [certA c] 0 0, .any, .ms (.l 0) 0 L.length L.length, .any, .any, .any, .any, .any, .any, .any, .any, .any, .any, .any, .any, .any, .any, .any, .any, .any, .any, .any, .any, .any, .any, .any, .any, .any, .any, .any, .any, .any, .any, .any, .any, .any, .any, .any, .any, .any, .any, .any, .any, .any, .any, .any, .any, .any, .any, .any, .any, .any, .any, .any, .any, .any, .any, .any, .any, .any, .any, .any, .any], [(0, ⟨true, 3, false, L.map itemO⟩)], []⟩
def ltSt7 (c : GCert) (L : List It) (y : List Nd) : St := ⟨[.any, .any, .any, .ms (.l 0) 0 L.length L.length, .ms (.l 1) 0 (itemsNL y).length (itemsNL y).length, .v (.int .i64 y.length), .any, .any, .any, .any, .any, .any, .any, .any, .any, .any, .any, .any, .any, .any, .any, .any, .any, .any, .any, .any, .any, .any, .any, .any, .any, .any, .any, .any, .any, .any, .any, .any, .any, .any, .any, .any, .any, .any, .any, .any, .any, .any, .any, .any, .any, .any, .any, .any, .any, .any, .any, .any, .any, .any, .any, .any, .any, .any], [(0, ⟨true, 3, false, L.map itemO⟩), (1, ⟨true, 3, false, (itemsNL y).map itemO⟩)], []⟩
set_option maxHeartbeats 8000000 in
set_option maxRecDepth 10000 in
include hm in
theorem l10Tree (c : GCert) (fit : CertFit c) (h : certB c = true) : Holds Tryz.prog 20 [certA c] [] (.sl (.ow 3) ((tbsT c).map itemO)) [] := by
  have w := cert_w h
  have i1 := l10Int hm c.serial (by have := w.serial; omega) (by have := w.serial; omega)
  have i2 := l10Int hm c.alg (by have := w.alg; omega) (by have := w.alg; omega)
  have t1 := l10Texts hm 12 c.issuer (by have := w.iss.1; omega) (fun s hs => by have := w.iss.2 s hs; omega)
  have m1 := l10Made hm 48 c.issuer.length (c.issuer.map (txtI 12)) (by simp; have := w.iss.1; omega)
  have d1 := l10Time hm c.from'
  have d2 := l10Time hm c.tu
  have m2 := l10Made hm 48 2 [timeI c.from', timeI c.tu] (by simp)
  have t2 := l10Texts hm 12 c.subject (by have := w.sub.1; omega) (fun s hs => by have := w.sub.2 s hs; omega)
  have m3 := l10Made hm 48 c.subject.length (c.subject.map (txtI 12)) (by simp; have := w.sub.1; omega)
  have k1 := l10Key hm c.key w.key
  have x1 : Holds Tryz.prog 51 [exS c.ca c.path c.usage c.ho c.ne c.al c.de c.pu] [] (.tup [.sl (.ow 3) ((itemsNL (cExNs c)).map itemO), .v (.int .i64 (cExNs c).length)]) [] :=
    l10Exts2 hm c.ca c.path c.usage c.ho c.ne c.al c.de c.pu w.path w.usage w.ho w.ne.1 w.al w.de w.pu.1 fit.2.2.2.2.1 w.ne.2 fit.2.2.2.2.2.1 fit.2.2.2.2.2.2.1 w.pu.2
  obtain ⟨kx, kT, hkT⟩ := keyT_cons c.key
  have hkl := keyT_len c.key
  rw [hkT, List.length_cons] at hkl
  have hx := cEx_le w
  rw [keyA, hkT] at k1
  rw [exS] at x1
  have b1 : c.issuer.length ≤ 4 := w.iss.1
  have b2 : c.subject.length ≤ 4 := w.sub.1
  have l1 : (hd1 c).length = 2 := rfl
  have l2 : (hd2 c).length = c.issuer.length + 3 := by rw [hd2]; simp only [List.length_append, List.length_cons, List.length_nil, List.length_map, l1]; first | done | omega
  have l3 : (hd3 c).length = c.issuer.length + 6 := by rw [hd3]; simp only [List.length_append, List.length_cons, List.length_nil, List.length_map, l2]; first | done | omega
  have l4 : (hd4 c).length = c.issuer.length + c.subject.length + 7 := by rw [hd4]; simp only [List.length_append, List.length_cons, List.length_nil, List.length_map, l3]; first | done | omega
  have l5 : (hd5 c).length = c.issuer.length + c.subject.length + 8 + kT.length := by rw [hd5]; simp only [List.length_append, List.length_cons, List.length_nil, List.length_map, l4, hkT]; first | done | omega
  have n1 : (hd1 c).map itemO = [itemO ⟨2, intB c.serial, 0⟩, itemO ⟨2, intB c.alg, 0⟩] := rfl
  have n2 : (hd2 c).map itemO = (hd1 c).map itemO ++ itemO ⟨48, [], c.issuer.length⟩ :: (c.issuer.map (txtI 12)).map itemO := by rw [hd2, List.map_append, List.map_cons]
  have n3 : (hd3 c).map itemO = (hd2 c).map itemO ++ [itemO ⟨48, [], 2⟩, itemO (timeI c.from'), itemO (timeI c.tu)] := by rw [hd3, List.map_append]; rfl
  have n4 : (hd4 c).map itemO = (hd3 c).map itemO ++ itemO ⟨48, [], c.subject.length⟩ :: (c.subject.map (txtI 12)).map itemO := by rw [hd4, List.map_append, List.map_cons]
  have n5 : (hd5 c).map itemO = (hd4 c).map itemO ++ itemO kx :: kT.map itemO := by rw [hd5, List.map_append, hkT, List.map_cons]
  have n6 : (tbsT c).map itemO = if cExNs c = [] then itemO ⟨48, [], 6⟩ :: (hd5 c).map itemO else itemO ⟨48, [], 7⟩ :: ((hd5 c).map itemO ++ itemO ⟨163, [], 1⟩ :: itemO ⟨48, [], (cExNs c).length⟩ :: (itemsNL (cExNs c)).map itemO) := by
    unfold tbsT
    split <;> simp
  have hTl1 : ((c.issuer.map (txtI 12)).map itemO).length = c.issuer.length := by simp
  have hTt1 : List.take c.issuer.length ((c.issuer.map (txtI 12)).map itemO) = (c.issuer.map (txtI 12)).map itemO := List.take_of_length_le (by simp)
  have hTl2 : ((c.subject.map (txtI 12)).map itemO).length = c.subject.length := by simp
  have hTt2 : List.take c.subject.length ((c.subject.map (txtI 12)).map itemO) = (c.subject.map (txtI 12)).map itemO := List.take_of_length_le (by simp)
  have hKl : (kT.map itemO).length = kT.length := List.length_map _
  have hKt : List.take (kT.length + 1) (itemO kx :: kT.map itemO) = itemO kx :: kT.map itemO := List.take_of_length_le (by simp)
  have hXl : ((itemsNL (cExNs c)).map itemO).length = (itemsNL (cExNs c)).length := List.length_map _
  have hXt : List.take (itemsNL (cExNs c)).length ((itemsNL (cExNs c)).map itemO) = (itemsNL (cExNs c)).map itemO := take_map_len
  simp only [List.map_cons] at k1
  refine holds_ref (ann := []) tabOk hm (byJ [(2, [1, 3]), (3, [1, 3]), (4, [1, 3]), (5, [1, 3]), (6, [1, 3]), (7, [3, 4, 5])] (byL [] [19, 1000001])) Tryz.func20 (by kernel_rfl) rfl ?_
  simp +decide (maxSteps := 9^7) only [Tryz.f20, go_sem, Nat.reduceAdd, Nat.reduceMul, Nat.reduceSub]
  refine Runs.draw (st1 := ?s1) (draws_ref (ann := []) tabOk (byJ [(2, [1, 3]), (3, [1, 3]), (4, [1, 3]), (5, [1, 3]), (6, [1, 3]), (7, [3, 4, 5])] (byL [] [19, 1000001])) ltS1 (by kernel_rfl) ?p1) ?q1
  case p1 =>
    intro K r X hK
    simp +decide (maxSteps := 9^7) only [go_sem, Nat.reduceAdd, Nat.reduceMul, Nat.reduceSub]
    repeat' apply And.intro
    all_goals
      refine Runs.call i1 ?_
      simp +decide (maxSteps := 9^7) only [go_sem, Nat.reduceAdd, Nat.reduceMul, Nat.reduceSub]
      refine Runs.call i2 ?_
      simp +decide (maxSteps := 9^7) (disch := first | omega | (simp only [ll]; omega)) only [if_pos, go_sem, Nat.reduceAdd, Nat.reduceMul, Nat.reduceSub]
      exact hK
  case q1 =>
    simp +decide (maxSteps := 9^7) only [go_sem, Nat.reduceAdd, Nat.reduceMul, Nat.reduceSub]
    refine joinAt (S := ltSt c (hd1 c)) ?_ ?_
    · simp [go_sem, ltSt, l1, n1]
    simp +decide (maxSteps := 9^7) only [ltSt, go_sem, Nat.reduceAdd, Nat.reduceMul, Nat.reduceSub]
    refine Runs.draw (st1 := ?s2) (draws_ref (ann := []) tabOk (byJ [(2, [1, 3]), (3, [1, 3]), (4, [1, 3]), (5, [1, 3]), (6, [1, 3]), (7, [3, 4, 5])] (byL [] [19, 1000001])) ltS2 (by kernel_rfl) ?p2) ?q2
    case p2 =>
      intro K r X hK
      simp +decide (maxSteps := 9^7) only [go_sem, Nat.reduceAdd, Nat.reduceMul, Nat.reduceSub]
      repeat' apply And.intro
      all_goals
        refine Runs.call t1 ?_
        simp +decide (maxSteps := 9^7) only [go_sem, Nat.reduceAdd, Nat.reduceMul, Nat.reduceSub]
        refine Runs.call m1 ?_
        simp +decide (maxSteps := 9^7) (disch := first | omega | (simp only [ll]; omega)) only [hTl1, hTt1, if_pos, go_sem, Nat.reduceAdd, Nat.reduceMul, Nat.reduceSub]
        exact hK
    case q2 =>
      simp +decide (maxSteps := 9^7) only [go_sem, Nat.reduceAdd, Nat.reduceMul, Nat.reduceSub]
      refine joinAt (S := ltSt c (hd2 c)) ?_ ?_
      · simp [go_sem, ltSt, l2, n2, l1]; first | done | omega
      simp +decide (maxSteps := 9^7) only [ltSt, go_sem, Nat.reduceAdd, Nat.reduceMul, Nat.reduceSub]
      refine Runs.draw (st1 := ?s3) (draws_ref (ann := []) tabOk (byJ [(2, [1, 3]), (3, [1, 3]), (4, [1, 3]), (5, [1, 3]), (6, [1, 3]), (7, [3, 4, 5])] (byL [] [19, 1000001])) ltS3 (by kernel_rfl) ?p3) ?q3
      case p3 =>
        intro K r X hK
        simp +decide (maxSteps := 9^7) only [go_sem, Nat.reduceAdd, Nat.reduceMul, Nat.reduceSub]
        repeat' apply And.intro
        all_goals
          refine Runs.call d1 ?_
          simp +decide (maxSteps := 9^7) only [go_sem, Nat.reduceAdd, Nat.reduceMul, Nat.reduceSub]
          refine Runs.call d2 ?_
          simp +decide (maxSteps := 9^7) only [go_sem, Nat.reduceAdd, Nat.reduceMul, Nat.reduceSub]
          refine Runs.call m2 ?_
          simp +decide (maxSteps := 9^7) (disch := first | omega | (simp only [ll]; omega)) only [if_pos, go_sem, Nat.reduceAdd, Nat.reduceMul, Nat.reduceSub]
          exact hK
      case q3 =>
        simp +decide (maxSteps := 9^7) only [go_sem, Nat.reduceAdd, Nat.reduceMul, Nat.reduceSub]
        refine joinAt (S := ltSt c (hd3 c)) ?_ ?_
        · simp [go_sem, ltSt, l3, n3, l2]; first | done | omega
        simp +decide (maxSteps := 9^7) only [ltSt, go_sem, Nat.reduceAdd, Nat.reduceMul, Nat.reduceSub]
        refine Runs.draw (st1 := ?s4) (draws_ref (ann := []) tabOk (byJ [(2, [1, 3]), (3, [1, 3]), (4, [1, 3]), (5, [1, 3]), (6, [1, 3]), (7, [3, 4, 5])] (byL [] [19, 1000001])) ltS4 (by kernel_rfl) ?p4) ?q4
        case p4 =>
          intro K r X hK
          simp +decide (maxSteps := 9^7) only [go_sem, Nat.reduceAdd, Nat.reduceMul, Nat.reduceSub]
          repeat' apply And.intro
          all_goals
            refine Runs.call t2 ?_
            simp +decide (maxSteps := 9^7) only [go_sem, Nat.reduceAdd, Nat.reduceMul, Nat.reduceSub]
            refine Runs.call m3 ?_
            simp +decide (maxSteps := 9^7) (disch := first | omega | (simp only [ll]; omega)) only [hTl2, hTt2, if_pos, go_sem, Nat.reduceAdd, Nat.reduceMul, Nat.reduceSub]
            exact hK
        case q4 =>
          simp +decide (maxSteps := 9^7) only [go_sem, Nat.reduceAdd, Nat.reduceMul, Nat.reduceSub]
          refine joinAt (S := ltSt c (hd4 c)) ?_ ?_
          · simp [go_sem, ltSt, l4, n4, l3]; first | done | omega
          simp +decide (maxSteps := 9^7) only [ltSt, go_sem, Nat.reduceAdd, Nat.reduceMul, Nat.reduceSub]
          refine Runs.call k1 ?_
          simp +decide (maxSteps := 9^7) (disch := first | omega | (simp only [ll]; omega)) only [hKl, hKt, if_pos, go_sem, Nat.reduceAdd, Nat.reduceMul, Nat.reduceSub]
          refine joinAt (S := ltSt c (hd5 c)) ?_ ?_
          · simp [go_sem, ltSt, l5, n5, l4]; first | done | omega
          simp +decide (maxSteps := 9^7) only [ltSt, go_sem, Nat.reduceAdd, Nat.reduceMul, Nat.reduceSub]
          refine Runs.call x1 ?_
          simp +decide (maxSteps := 9^7) (disch := first | omega | (simp only [ll]; omega)) only [hXl, hXt, if_pos, go_sem, Nat.reduceAdd, Nat.reduceMul, Nat.reduceSub]
          refine joinAt (S := ltSt7 c (hd5 c) (cExNs c)) ?_ ?_
          · simp [go_sem, ltSt7]
          simp +decide (maxSteps := 9^7) only [ltSt7, go_sem, Nat.reduceAdd, Nat.reduceMul, Nat.reduceSub]
          by_cases hE : cExNs c = []
          · have m4 := l10Made hm 48 6 (hd5 c) (by omega)
            have hl : List.take (hd5 c).length ((hd5 c).map itemO) = (hd5 c).map itemO := take_map_len
            have e0 : (cExNs c).length = 0 := by rw [hE]; rfl
            rw [if_pos hE] at n6
            rw [n6]
            simp +decide (maxSteps := 9^7) only [hE, go_sem, Nat.reduceAdd, Nat.reduceMul, Nat.reduceSub]
            refine Runs.call m4 ?_
            simp +decide (maxSteps := 9^7) only [hl, go_sem, Nat.reduceAdd, Nat.reduceMul, Nat.reduceSub]
            exact Runs.ret_refl
          · have m4 := l10Made hm 48 (cExNs c).length (itemsNL (cExNs c)) (by omega)
            have m5 := l10Made hm 163 1 (⟨48, [], (cExNs c).length⟩ :: itemsNL (cExNs c)) (by simp; omega)
            have m6 := l10Made hm 48 7 (hd5 c ++ ⟨163, [], 1⟩ :: ⟨48, [], (cExNs c).length⟩ :: itemsNL (cExNs c)) (by simp; omega)
            have e0 : ¬ ((cExNs c).length : Int) = 0 := by
              intro h0
              exact hE (List.length_eq_zero_iff.1 (by omega))
            rw [if_neg hE] at n6
            rw [n6]
            simp +decide (maxSteps := 9^7) only [e0, go_sem, Nat.reduceAdd, Nat.reduceMul, Nat.reduceSub]
            refine Runs.call m4 ?_
            simp +decide (maxSteps := 9^7) (disch := first | omega | (simp only [ll]; omega)) only [hXl, hXt, if_pos, go_sem, Nat.reduceAdd, Nat.reduceMul, Nat.reduceSub]
            refine Runs.call m5 ?_
            have hA : ((hd5 c).map itemO ++ itemO ⟨163, [], 1⟩ :: itemO ⟨48, [], (cExNs c).length⟩ :: (itemsNL (cExNs c)).map itemO).length = (hd5 c).length + ((itemsNL (cExNs c)).length + 1 + 1) := by simp
            have hB : List.take ((hd5 c).length + ((itemsNL (cExNs c)).length + 1 + 1)) ((hd5 c).map itemO ++ itemO ⟨163, [], 1⟩ :: itemO ⟨48, [], (cExNs c).length⟩ :: (itemsNL (cExNs c)).map itemO) = (hd5 c).map itemO ++ itemO ⟨163, [], 1⟩ :: itemO ⟨48, [], (cExNs c).length⟩ :: (itemsNL (cExNs c)).map itemO := List.take_of_length_le (by rw [hA]; exact Nat.le_refl _)
            rw [List.map_append, List.map_cons, List.map_cons] at m6
            simp +decide (maxSteps := 9^7) (disch := first | omega | (simp only [ll]; omega)) only [hA, hB, mdL_append, dnL_append, freeL_app, mdL, dnL, freeL, if_pos, go_sem, Nat.reduceAdd, Nat.reduceMul, Nat.reduceSub]
            refine Runs.call m6 ?_
            simp +decide (maxSteps := 9^7) only [go_sem, Nat.reduceAdd, Nat.reduceMul, Nat.reduceSub]
            exact Runs.ret_refl
end Go.Proofs.W

namespace Go.Proofs.W
open Go Go.AM
variable (hm : Tryz.prog.follows .mixedOrders = true)
attribute [local go_sem] exS rowS_plain rowS_dn rowO_dn
theorem nodes_set (y : List Nd) (z : A) (n : Nd) : (nodesO y ++ [z]).set y.length (nodeO n) = nodesO (y ++ [n]) := by
  rw [nodesO_app, List.set_append_right _ _ (by rw [nodesO_length]; exact Nat.le_refl _), nodesO_length, Nat.sub_self]
  rfl
theorem nodes_get (y : List Nd) (z : A) : (nodesO y ++ [z]).getD y.length .any = z := by
  rw [List.getD, List.getElem?_append_right (by rw [nodesO_length]; exact Nat.le_refl _), nodesO_length, Nat.sub_self]
  rfl
def putS : Sched := .take 1 (.lds 256 [3] (.alt 0 (.take 6 (.alt 2 (.alt 4 (.alt 5 (.alt 7 (.alt 8 (.take 9 (.alt 10 (.alt 11 .fin .nil) (.alt 11 (.alt 10 .fin .nil) .nil))) .nil) .nil) (.alt 7 (.alt 5 (.alt 8 (.take 9 (.alt 10 (.alt 11 .fin .nil) (.alt 11 (.alt 10 .fin .nil) .nil))) .nil) .nil) .nil)) (.alt 7 (.alt 4 (.alt 5 (.alt 8 (.take 9 (.alt 10 (.alt 11 .fin .nil) (.alt 11 (.alt 10 .fin .nil) .nil))) .nil) .nil) .nil) .nil)) (.alt 7 (.alt 2 (.alt 4 (.alt 5 (.alt 8 (.take 9 (.alt 10 (.alt 11 .fin .nil) (.alt 11 (.alt 10 .fin .nil) .nil))) .nil) .nil) .nil) .nil) .nil))) (.alt 2 (.alt 0 (.take 6 (.alt 4 (.alt 5 (.alt 7 (.alt 8 (.take 9 (.alt 10 (.alt 11 .fin .nil) (.alt 11 (.alt 10 .fin .nil) .nil))) .nil) .nil) (.alt 7 (.alt 5 (.alt 8 (.take 9 (.alt 10 (.alt 11 .fin .nil) (.alt 11 (.alt 10 .fin .nil) .nil))) .nil) .nil) .nil)) (.alt 7 (.alt 4 (.alt 5 (.alt 8 (.take 9 (.alt 10 (.alt 11 .fin .nil) (.alt 11 (.alt 10 .fin .nil) .nil))) .nil) .nil) .nil) .nil))) (.alt 4 (.alt 0 (.take 6 (.alt 5 (.alt 7 (.alt 8 (.take 9 (.alt 10 (.alt 11 .fin .nil) (.alt 11 (.alt 10 .fin .nil) .nil))) .nil) .nil) (.alt 7 (.alt 5 (.alt 8 (.take 9 (.alt 10 (.alt 11 .fin .nil) (.alt 11 (.alt 10 .fin .nil) .nil))) .nil) .nil) .nil))) (.alt 5 (.alt 0 (.take 6 (.alt 7 (.alt 8 (.take 9 (.alt 10 (.alt 11 .fin .nil) (.alt 11 (.alt 10 .fin .nil) .nil))) .nil) .nil)) (.alt 7 (.alt 0 (.take 6 (.alt 8 (.take 9 (.alt 10 (.alt 11 .fin .nil) (.alt 11 (.alt 10 .fin .nil) .nil))) .nil)) .nil) .nil)) (.alt 7 (.alt 0 (.take 6 (.alt 5 (.alt 8 (.take 9 (.alt 10 (.alt 11 .fin .nil) (.alt 11 (.alt 10 .fin .nil) .nil))) .nil) .nil)) (.alt 5 (.alt 0 (.take 6 (.alt 8 (.take 9 (.alt 10 (.alt 11 .fin .nil) (.alt 11 (.alt 10 .fin .nil) .nil))) .nil)) .nil) .nil)) .nil))) (.alt 7 (.alt 0 (.take 6 (.alt 4 (.alt 5 (.alt 8 (.take 9 (.alt 10 (.alt 11 .fin .nil) (.alt 11 (.alt 10 .fin .nil) .nil))) .nil) .nil) .nil)) (.alt 4 (.alt 0 (.take 6 (.alt 5 (.alt 8 (.take 9 (.alt 10 (.alt 11 .fin .nil) (.alt 11 (.alt 10 .fin .nil) .nil))) .nil) .nil)) (.alt 5 (.alt 0 (.take 6 (.alt 8 (.take 9 (.alt 10 (.alt 11 .fin .nil) (.alt 11 (.alt 10 .fin .nil) .nil))) .nil)) .nil) .nil)) .nil)) .nil))) (.alt 7 (.alt 0 (.take 6 (.alt 2 (.alt 4 (.alt 5 (.alt 8 (.take 9 (.alt 10 (.alt 11 .fin .nil) (.alt 11 (.alt 10 .fin .nil) .nil))) .nil) .nil) .nil) .nil)) (.alt 2 (.alt 0 (.take 6 (.alt 4 (.alt 5 (.alt 8 (.take 9 (.alt 10 (.alt 11 .fin .nil) (.alt 11 (.alt 10 .fin .nil) .nil))) .nil) .nil) .nil)) (.alt 4 (.alt 0 (.take 6 (.alt 5 (.alt 8 (.take 9 (.alt 10 (.alt 11 .fin .nil) (.alt 11 (.alt 10 .fin .nil) .nil))) .nil) .nil)) (.alt 5 (.alt 0 (.take 6 (.alt 8 (.take 9 (.alt 10 (.alt 11 .fin .nil) (.alt 11 (.alt 10 .fin .nil) .nil))) .nil)) .nil) .nil)) .nil)) .nil)) .nil))))
attribute [local go_sem] putS
set_option maxHeartbeats 8000000 in
set_option maxRecDepth 10000 in
include hm in
theorem putN (k : Int) (n : Nd) (y : List Nd) (h1 : -9223372036854775808 ≤ k) (h2 : k < 9223372036854775808) (h3 : y.length ≤ 1000) :
    Holds Tryz.prog 129 [.v (.int .i64 k), nodeO n, .ref (.x 0) 0 0 1] [⟨true, 1, true, [.ms (.x 1) 0 y.length y.length]⟩, ⟨true, 3, false, nodesO y⟩] (.tup [])
      [⟨true, 1, true, [.ms (.x 1) 0 (y.length + 1) (y.length + 1)]⟩, ⟨true, 3, false, nodesO (y ++ [oneN k n])⟩] := by
  obtain ⟨t, b, ks⟩ := n
  have hi := integer hm k h1 h2
  have hl := listN hm 48 [intN k, .mk t b ks]
  have hb : (b.map u8A).length = b.length := List.length_map _
  have hbt : List.take b.length (b.map u8A) = b.map u8A := take_map_len
  have hk : (nodesO ks).length = ks.length := nodesO_length ks
  have hkt : List.take ks.length (nodesO ks) = nodesO ks := List.take_of_length_le (by rw [hk]; exact Nat.le_refl _)
  have hy : (nodesO y).length = y.length := nodesO_length y
  have hg : ∀ z, (nodesO y ++ [z]).getD y.length .any = z := nodes_get y
  have hs : ∀ z, (nodesO y ++ [z]).set y.length (.agg [.v (.int .i64 48), .sl (.ow 1) [], .sl (.ow 3) [.agg [.v (.int .i64 2), .sl (.ow 1) ((intB k).map u8A), .sl (.ow 3) []], .agg [.v (.int .i64 t), .sl (.ow 1) (b.map u8A), .sl (.ow 3) (nodesO ks)]]]) = nodesO (y ++ [oneN k (.mk t b ks)]) := by
    intro z
    rw [← nodes_set y z]
    simp [oneN, intN, nodeO, nodesO]
  have hs2 : ∀ z, (nodesO y ++ [z]).set y.length (.agg [.v (.int .i64 48), .sl (.ow 1) [], .sl (.ow 3) [nodeO (intN k), .agg [.v (.int .i64 t), .sl (.ow 1) (b.map u8A), .sl (.ow 3) (nodesO ks)]]]) = nodesO (y ++ [oneN k (.mk t b ks)]) := by
    intro z
    rw [← nodes_set y z]
    simp [oneN, nodeO, nodesO]
  rw [nodeO]
  refine holds_ref (ann := []) tabOk hm (byL [] [28]) Tryz.func129 (by kernel_rfl) rfl ?_
  simp +decide (maxSteps := 9^7) (disch := first | omega | (simp only [ll]; omega)) only [Tryz.f129, hb, hk, hy, hbt, hkt, if_pos, go_sem, Nat.reduceAdd, Nat.reduceMul, Nat.reduceSub]
  refine Runs.draw (st1 := ?s1) (draws_ref (ann := []) tabOk (byL [] [28]) putS (by kernel_rfl) ?p1) ?q1
  case p1 =>
    intro K r X hK
    simp +decide (maxSteps := 9^7) only [go_sem, Nat.reduceAdd, Nat.reduceMul, Nat.reduceSub]
    repeat' apply And.intro
    all_goals
      refine Runs.call hi ?_
      simp +decide (maxSteps := 9^7) (disch := first | omega | (simp only [ll]; omega)) only [nodeO, nodesO, hb, hk, hbt, hkt, hy, if_pos, go_sem, Nat.reduceAdd, Nat.reduceMul, Nat.reduceSub]
      repeat' apply And.intro
      all_goals
        refine Runs.call' (as' := [.v (.int .i64 48), .sl (.ow 3) (nodesO [intN k, .mk t b ks])]) (by simp [nodeO, nodesO, intN, mdL, A.md, md_u8A, md_nodesO]) hl ?_
        simp +decide (maxSteps := 9^7) (disch := first | omega | (simp only [ll]; omega)) only [nodeO, nodesO, hb, hk, hbt, hkt, hy, List.length_append, hg, hs, hs2, if_pos, go_sem, Nat.reduceAdd, Nat.reduceMul, Nat.reduceSub]
        exact hK
  case q1 =>
    simp +decide (maxSteps := 9^7) only [hs, hs2, go_sem, Nat.reduceAdd, Nat.reduceMul, Nat.reduceSub]
    exact Runs.ret_refl
end Go.Proofs.W

namespace Go.Proofs.W
open Go Go.AM
variable (hm : Tryz.prog.follows .mixedOrders = true)
attribute [local go_sem] exS rowS_plain rowS_dn rowO_dn
theorem four_ofN {l : List Int} (h : l.length = 4) : ∃ a b c d, l = [a, b, c, d] := by
  match l, h with
  | [a, b, c, d], _ => exact ⟨a, b, c, d, rfl⟩
theorem rd_nodes (y : List Nd) : (if plainL (nodesO y) = true then nodesS y else nodesO y) = nodesO y := by
  cases y with
  | nil => rfl
  | cons n r => rw [nodesO]; simp [plainL, pl_nodeO]
attribute [local go_sem] rd_nodes
def kidN (ho : List ByteArray) (ne : List (List Int)) (i : Nat) : List Nd := ho.map (txtN 130) ++ (ne.take i).map netN
theorem kidN_length (ho : List ByteArray) (ne : List (List Int)) (i : Nat) (h : i ≤ ne.length) : (kidN ho ne i).length = ho.length + i := by simp [kidN]; omega
theorem kidN_zero (ho : List ByteArray) (ne : List (List Int)) : kidN ho ne 0 = ho.map (txtN 130) := by simp [kidN]
theorem kidN_all (ho : List ByteArray) (ne : List (List Int)) : kidN ho ne ne.length = ho.map (txtN 130) ++ ne.map netN := by simp [kidN]
theorem kidN_succ (ho : List ByteArray) (ne : List (List Int)) (i : Nat) (h : i < ne.length) : kidN ho ne (i + 1) = kidN ho ne i ++ [netN ne[i]] := by
  simp only [kidN, List.take_succ_eq_append_getElem h, List.map_append, List.append_assoc, List.map_cons, List.map_nil]
def xnK : List Nat := [1, 3, 4]
def xnSt (ca : Bool) (path usage : Int) (ho : List ByteArray) (ne : List (List Int)) (al de : List ByteArray) (pu : List Int) (y : List Nd) : St :=
  ⟨[.any, .ptr [exS ca path usage ho ne al de pu] 0 0, .any, .ref (.l 0) 0 0 1, .fn (.func 129) [] [.ref (.l 0) 0 0 1], .any, .any, .any, .any, .any, .any, .any, .any, .any, .any, .any, .any, .any, .any, .any, .any, .any, .any, .any, .any, .any, .any, .any, .any, .any, .any, .any, .any, .any, .any, .any, .any, .any, .any, .any, .any, .any, .any, .any, .any, .any, .any, .any, .any, .any, .any, .any, .any, .any, .any, .any, .any, .any, .any, .any, .any, .any, .any, .any, .any, .any, .any, .any, .any, .any, .any, .any, .any, .any, .any, .any, .any, .any, .any, .any, .any, .any, .any, .any, .any, .any, .any, .any, .any, .any, .any, .any, .any, .any, .any, .any, .any, .any, .any, .any, .any, .any, .any, .any, .any, .any, .any, .any, .any, .any, .any, .any, .any, .any, .any, .any, .any, .any, .any, .any, .any, .any, .any, .any, .any, .any, .any, .any, .any, .any, .any, .any, .any, .any, .any, .any, .any, .any], [(0, ⟨true, 1, true, [.ms (.l 1) 0 y.length y.length]⟩), (1, ⟨true, 3, false, nodesO y⟩)], []⟩
def xnSt7 (ca : Bool) (path usage : Int) (ho : List ByteArray) (ne : List (List Int)) (al de : List ByteArray) (pu : List Int) (z : List Nd) : St :=
  ⟨[.any, .ptr [exS ca path usage ho ne al de pu] 0 0, .any, .ref (.l 0) 0 0 1, .fn (.func 129) [] [.ref (.l 0) 0 0 1], .ref (.l 1) 0 0 1, .any, .any, .any, .any, .any, .any, .any, .any, .any, .any, .any, .any, .any, .any, .any, .any, .any, .any, .any, .any, .any, .any, .any, .any, .any, .any, .any, .any, .any, .any, .any, .any, .any, .any, .any, .any, .any, .any, .any, .any, .any, .any, .any, .any, .any, .any, .any, .any, .any, .any, .any, .any, .any, .any, .any, .any, .any, .any, .any, .any, .any, .any, .any, .any, .any, .any, .any, .any, .any, .any, .any, .any, .any, .any, .any, .any, .any, .any, .any, .any, .any, .any, .any, .any, .any, .any, .any, .any, .any, .any, .any, .any, .any, .any, .any, .any, .any, .any, .any, .any, .any, .any, .any, .any, .any, .any, .any, .any, .any, .any, .any, .any, .any, .any, .any, .any, .any, .any, .any, .any, .any, .any, .any, .any, .any, .any, .any, .any, .any, .any, .any, .any], [(0, ⟨true, 1, true, [.ms (.l 2) 0 0 0]⟩), (1, ⟨true, 3, true, [.agg [.v (.int .i64 48), .ms (.l 3) 0 0 0, .ms (.l 4) 0 z.length z.length]]⟩), (2, ⟨true, 3, false, []⟩), (3, ⟨true, 1, false, []⟩), (4, ⟨true, 3, false, nodesO z⟩)], []⟩
def xnAnn : Ann := [(0, [1, 3, 4, 6, 56, 57, 58])]
def xnStL (ca : Bool) (path usage : Int) (ho : List ByteArray) (ne : List (List Int)) (al de : List ByteArray) (pu : List Int) (y : List Nd) (i : Nat) : St :=
  ⟨[.any, .ptr [exS ca path usage ho ne al de pu] 0 0, .any, .ref (.l 0) 0 0 1, .fn (.func 129) [] [.ref (.l 0) 0 0 1], .any, .ref (.l 1) 0 0 1, .any, .any, .any, .any, .any, .any, .any, .any, .any, .any, .any, .any, .any, .any, .any, .any, .any, .any, .any, .any, .any, .any, .any, .any, .any, .any, .any, .any, .any, .any, .any, .any, .any, .any, .any, .any, .any, .any, .any, .any, .any, .any, .any, .any, .any, .any, .any, .any, .any, .sl .sh (ne.map rowS), .v (.int .i64 ne.length), .v (.int .i64 i), .any, .any, .any, .any, .any, .any, .any, .any, .any, .any, .any, .any, .any, .any, .any, .any, .any, .any, .any, .any, .any, .any, .any, .any, .any, .any, .any, .any, .any, .any, .any, .any, .any, .any, .any, .any, .any, .any, .any, .any, .any, .any, .any, .any, .any, .any, .any, .any, .any, .any, .any, .any, .any, .any, .any, .any, .any, .any, .any, .any, .any, .any, .any, .any, .any, .any, .any, .any, .any, .any, .any, .any, .any, .any, .any, .any, .any, .any, .any], [(0, ⟨true, 1, true, [.ms (.l 2) 0 y.length y.length]⟩), (1, ⟨true, 3, true, [.agg [.v (.int .i64 48), .ms (.l 3) 0 0 0, .ms (.l 4) 0 (kidN ho ne i).length (kidN ho ne i).length]]⟩), (2, ⟨true, 3, false, nodesO y⟩), (3, ⟨true, 1, false, []⟩), (4, ⟨true, 3, false, nodesO (kidN ho ne i)⟩)], []⟩
def xnSt9 (ca : Bool) (path usage : Int) (ho : List ByteArray) (ne : List (List Int)) (al de : List ByteArray) (pu : List Int) (y z : List Nd) : St :=
  ⟨[.any, .ptr [exS ca path usage ho ne al de pu] 0 0, .any, .ref (.l 0) 0 0 1, .fn (.func 129) [] [.ref (.l 0) 0 0 1], .any, .any, .any, .any, .ref (.l 1) 0 0 1, .any, .any, .any, .any, .any, .any, .any, .any, .any, .any, .any, .any, .any, .any, .any, .any, .any, .any, .any, .any, .any, .any, .any, .any, .any, .any, .any, .any, .any, .any, .any, .any, .any, .any, .any, .any, .any, .any, .any, .any, .any, .any, .any, .any, .any, .any, .any, .any, .any, .any, .any, .any, .any, .any, .any, .any, .any, .any, .any, .any, .any, .any, .any, .any, .any, .any, .any, .any, .any, .any, .any, .any, .any, .any, .any, .any, .any, .any, .any, .any, .any, .any, .any, .any, .any, .any, .any, .any, .any, .any, .any, .any, .any, .any, .any, .any, .any, .any, .any, .any, .any, .any, .any, .any, .any, .any, .any, .any, .any, .any, .any, .any, .any, .any, .any, .any, .any, .any, .any, .any, .any, .any, .any, .any, .any, .any, .any, .any], [(0, ⟨true, 1, true, [.ms (.l 2) 0 y.length y.length]⟩), (1, ⟨true, 3, true, [.agg [.v (.int .i64 48), .ms (.l 3) 0 0 0, .ms (.l 4) 0 z.length z.length]]⟩), (2, ⟨true, 3, false, nodesO y⟩), (3, ⟨true, 1, false, []⟩), (4, ⟨true, 3, false, nodesO z⟩)], []⟩
def xnS15 : Sched := .take 0 (.take 2 (.take 3 (.take 6 (.take 7 (.take 10 (.take 11 (.take 14 (.take 15 (.ld 4 (.cv 5 (.ld 8 (.cv 9 (.ld 12 (.cv 13 (.ld 16 (.cv 17 (.alt 1 (.alt 18 (.alt 19 (.alt 20 (.alt 21 (.take 22 (.alt 23 .fin .nil)) .nil) .nil) .nil) .nil) (.alt 18 (.alt 1 (.alt 19 (.alt 20 (.alt 21 (.take 22 (.alt 23 .fin .nil)) .nil) .nil) .nil) (.alt 19 (.alt 1 (.alt 20 (.alt 21 (.take 22 (.alt 23 .fin .nil)) .nil) .nil) (.alt 20 (.alt 1 (.alt 21 (.take 22 (.alt 23 .fin .nil)) .nil) .nil) .nil)) .nil)) .nil))))))))))))))))))
def xnS21 : Sched := .take 0 (.take 2 (.ld 3 (.alt 1 (.alt 4 (.alt 5 (.alt 6 (.alt 7 (.take 8 (.alt 9 .fin .nil)) .nil) .nil) .nil) .nil) (.alt 4 (.alt 1 (.alt 5 (.alt 6 (.alt 7 (.take 8 (.alt 9 .fin .nil)) .nil) .nil) .nil) (.alt 5 (.alt 1 (.alt 6 (.alt 7 (.take 8 (.alt 9 .fin .nil)) .nil) .nil) (.alt 6 (.alt 1 (.alt 7 (.take 8 (.alt 9 .fin .nil)) .nil) .nil) .nil)) .nil)) .nil))))
def xnS23 : Sched := .take 0 (.take 2 (.ld 3 (.alt 1 (.alt 4 (.alt 5 (.alt 6 (.alt 7 (.take 8 (.alt 9 .fin .nil)) .nil) .nil) .nil) .nil) (.alt 4 (.alt 1 (.alt 5 (.alt 6 (.alt 7 (.take 8 (.alt 9 .fin .nil)) .nil) .nil) .nil) (.alt 5 (.alt 1 (.alt 6 (.alt 7 (.take 8 (.alt 9 .fin .nil)) .nil) .nil) (.alt 6 (.alt 1 (.alt 7 (.take 8 (.alt 9 .fin .nil)) .nil) .nil) .nil)) .nil)) .nil))))
attribute [local go_sem] xnS15 xnS21 xnS23
def xnS6 : Sched := .take 0 (.take 2 (.ld 3 (.alt 1 (.alt 4 (.alt 5 (.alt 6 (.take 7 (.alt 8 .fin .nil)) .nil) .nil) .nil) (.alt 4 (.alt 1 (.alt 5 (.alt 6 (.take 7 (.alt 8 .fin .nil)) .nil) .nil) (.alt 5 (.alt 1 (.alt 6 (.take 7 (.alt 8 .fin .nil)) .nil) .nil) .nil)) .nil))))
attribute [local go_sem] xnS6
set_option maxHeartbeats 8000000 in
set_option maxRecDepth 10000 in
include hm in
theorem extNodes (ca : Bool) (path usage : Int) (ho : List ByteArray) (ne : List (List Int)) (al de : List ByteArray) (pu : List Int) (hp : -1 ≤ path ∧ path ≤ 10) (hu : 0 ≤ usage ∧ usage ≤ 7)
    (l1 : ho.length ≤ 6) (l2 : ne.length ≤ 6) (l3 : al.length ≤ 6) (l4 : de.length ≤ 6) (l5 : pu.length ≤ 6) (s1 : ∀ s ∈ ho, s.size ≤ 1048576) (s2 : ∀ a ∈ ne, a.length = 4) (s3 : ∀ s ∈ al, s.size ≤ 1048576) (s4 : ∀ s ∈ de, s.size ≤ 1048576) (s5 : ∀ n ∈ pu, 1 ≤ n ∧ n ≤ 1000) :
    Holds Tryz.prog 71 [exS ca path usage ho ne al de pu] [] (.sl (.ow 3) (nodesO (exNs ca path usage ho ne al de pu))) [] := by
  refine holds_ref (ann := xnAnn) tabOk hm (byJ [(7, [1, 3, 4, 5]), (8, xnK), (10, xnK), (18, xnK), (25, xnK), (27, xnK), (22, [1, 3, 4, 9]), (24, [1, 3, 4, 9])] (byM [129] (byL [] [28, 72, 1000001]))) Tryz.func71 (by kernel_rfl) rfl ?_
  simp +decide (maxSteps := 9^7) only [Tryz.f71, go_sem, Nat.reduceAdd, Nat.reduceMul, Nat.reduceSub]
  refine Runs.meet (α := Unit) (keep := xnK) (kj := ?kj8) (fun _ => xnSt ca path usage ho ne al de pu (ex1 ca path)) ?tail8 ?h1 ?h2
  case h1 =>
    intro J e
    subst e
    have c1 := leaf hm 1 [255]
    have c2 := listN hm 48 [.mk 1 [255] []]
    simp +decide (maxSteps := 9^7) only [go_sem, Nat.reduceAdd, Nat.reduceMul, Nat.reduceSub]
    refine Runs.call c1 ?_
    simp +decide (maxSteps := 9^7) (disch := first | omega | (simp only [ll]; omega)) only [nodeO, nodesO, List.map_cons, List.map_nil, u8A, if_pos, go_sem, Nat.reduceAdd, Nat.reduceMul, Nat.reduceSub]
    refine Runs.call c2 ?_
    simp +decide (maxSteps := 9^7) (disch := first | omega | (simp only [ll]; omega)) only [nodeO, nodesO, List.map_cons, List.map_nil, u8A, if_pos, go_sem, Nat.reduceAdd, Nat.reduceMul, Nat.reduceSub]
    refine Runs.meet (α := Unit) (keep := [1, 3, 4, 5]) (kj := ?kj7) (fun _ => xnSt7 true path usage ho ne al de pu (exCa path)) ?tail7 ?h71 ?h72
    case h72 =>
      intro J7 e7
      have e7 : path = -1 := by simpa using e7
      subst e7
      simp +decide (maxSteps := 9^7) only [go_sem, Nat.reduceAdd, Nat.reduceMul, Nat.reduceSub]
      refine J7 () _ ?_
      simp [go_sem, xnSt7, exCa, nodesO, nodeO]
    case h71 =>
      intro J7 e7
      have e7 : ¬ path = -1 := by simpa using e7
      have hi := integer hm path (by omega) (by omega)
      simp +decide (maxSteps := 9^7) only [go_sem, Nat.reduceAdd, Nat.reduceMul, Nat.reduceSub]
      refine Runs.draw (st1 := ?s6) (draws_ref (ann := xnAnn) tabOk (byJ [(7, [1, 3, 4, 5]), (8, xnK), (10, xnK), (18, xnK), (25, xnK), (27, xnK), (22, [1, 3, 4, 9]), (24, [1, 3, 4, 9])] (byM [129] (byL [] [28, 72, 1000001]))) xnS6 (by kernel_rfl) ?p6) ?q6
      case p6 =>
        intro K r X hK
        simp +decide (maxSteps := 9^7) only [go_sem, Nat.reduceAdd, Nat.reduceMul, Nat.reduceSub]
        repeat' apply And.intro
        all_goals
          refine Runs.call hi ?_
          simp +decide (maxSteps := 9^7) (disch := first | omega | (simp only [ll]; omega)) only [nodeO, nodesO, List.length_append, if_pos, go_sem, Nat.reduceAdd, Nat.reduceMul, Nat.reduceSub]
          exact hK
      case q6 =>
        simp +decide (maxSteps := 9^7) only [go_sem, Nat.reduceAdd, Nat.reduceMul, Nat.reduceSub]
        refine J7 () _ ?_
        simp [go_sem, xnSt7, exCa, e7, nodesO, nodeO, intN]
    case tail7 =>
      have hp := putN hm 1 (.mk 48 [] (exCa path)) [] (by omega) (by omega) (by simp)
      have hx : ((nodesO (exCa path))).length = (exCa path).length := nodesO_length _
      have hxt : List.take (exCa path).length (nodesO (exCa path)) = nodesO (exCa path) := List.take_of_length_le (by rw [hx]; exact Nat.le_refl _)
      simp +decide (maxSteps := 9^7) only [xnSt7, go_sem, Nat.reduceAdd, Nat.reduceMul, Nat.reduceSub]
      intro _
      refine Runs.call hp ?_
      simp +decide (maxSteps := 9^7) only [go_sem, Nat.reduceAdd, Nat.reduceMul, Nat.reduceSub]
      refine J () _ ?_
      simp [go_sem, xnSt, ex1, xnK]
  case h2 =>
    intro J e
    subst e
    simp +decide (maxSteps := 9^7) only [go_sem, Nat.reduceAdd, Nat.reduceMul, Nat.reduceSub]
    refine J () _ ?_
    simp [go_sem, xnSt, ex1, nodesO, xnK]
  case tail8 =>
    intro _
    have hyl : (ex1 ca path).length ≤ 1 := by unfold ex1; split <;> simp
    have hyx : ex1 ca path ++ ex2 usage ++ ex3 ho ne ++ ex4 al de ++ ex5 pu = exNs ca path usage ho ne al de pu := rfl
    rw [← hyx]
    clear hyx
    generalize ex1 ca path = y at *
    simp +decide (maxSteps := 9^7) only [xnSt, go_sem, Nat.reduceAdd, Nat.reduceMul, Nat.reduceSub]
    refine Runs.meet (α := Unit) (keep := xnK) (kj := ?kj10) (fun _ => xnSt ca path usage ho ne al de pu (y ++ ex2 usage)) ?tail10 ?h3 ?h4
    case h3 =>
      intro J e
      have e : ¬ usage = 0 := by simpa using e
      have c3 := leaf hm 3 [5, ib (32 * usage)]
      have hp := putN hm 2 (.mk 3 [5, ib (32 * usage)] []) y (by omega) (by omega) (by omega)
      have e2 : ex2 usage = [oneN 2 (.mk 3 [5, ib (32 * usage)] [])] := by rw [ex2, if_neg e]
      have w8 : IntKind.u8.wrap (32 * usage) = 32 * usage := by
        unfold IntKind.wrap
        simp only [IntKind.bits, IntKind.signed]
        simp
        omega
      simp only [List.map_cons, List.map_nil, u8A, ib, w8] at c3
      simp only [nodeO, nodesO, List.map_cons, List.map_nil, u8A, ib, w8] at hp
      simp only [ib, w8] at e2
      have w32 : IntKind.i64.wrap (32 * usage) = 32 * usage := wrap_i64 (by omega) (by omega)
      simp +decide (maxSteps := 9^7) only [w32, w8, go_sem, Nat.reduceAdd, Nat.reduceMul, Nat.reduceSub]
      refine Runs.call c3 ?_
      simp +decide (maxSteps := 9^7) (disch := first | omega | (simp only [ll]; omega)) only [nodeO, nodesO, List.map_cons, List.map_nil, u8A, if_pos, go_sem, Nat.reduceAdd, Nat.reduceMul, Nat.reduceSub]
      refine Runs.call hp ?_
      simp +decide (maxSteps := 9^7) only [go_sem, Nat.reduceAdd, Nat.reduceMul, Nat.reduceSub]
      refine J () _ ?_
      simp [go_sem, xnSt, e2, xnK]
    case h4 =>
      intro J e
      have e : usage = 0 := by simpa using e
      subst e
      simp +decide (maxSteps := 9^7) only [go_sem, Nat.reduceAdd, Nat.reduceMul, Nat.reduceSub]
      refine J () _ ?_
      simp [go_sem, xnSt, ex2, xnK]
    case tail10 =>
      intro _
      have hyl2 : (y ++ ex2 usage).length ≤ 2 := by unfold ex2; split <;> simp <;> omega
      clear hyl
      generalize y ++ ex2 usage = y at *
      simp +decide (maxSteps := 9^7) (disch := first | omega | (simp only [ll]; omega)) only [xnSt, List.length_map, if_pos, go_sem, Nat.reduceAdd, Nat.reduceMul, Nat.reduceSub]
      refine Runs.meet (α := Unit) (keep := xnK) (kj := ?kj18) (fun _ => xnSt ca path usage ho ne al de pu (y ++ ex3 ho ne)) ?tail18 ?h5 ?h6
      case h5 =>
        intro J e
        have hne : 0 < ho.length + ne.length := by simp at e; omega
        have e1 : ex3 ho ne = [oneN 3 (.mk 48 [] (ho.map (txtN 130) ++ ne.map netN))] := by rw [ex3, if_pos hne]
        have c2 := texts hm 130 ho (by omega) (fun s hs => by have := s1 s hs; omega)
        have c3 := listN hm 48 (kidN ho ne 0)
        rw [← kidN_zero ho ne] at c2
        have hk0 : (nodesO (kidN ho ne 0)).length = (kidN ho ne 0).length := nodesO_length _
        have hk0t : List.take (kidN ho ne 0).length (nodesO (kidN ho ne 0)) = nodesO (kidN ho ne 0) := List.take_of_length_le (by rw [hk0]; exact Nat.le_refl _)
        simp +decide (maxSteps := 9^7) (disch := first | omega | (simp only [ll]; omega)) only [if_pos, go_sem, Nat.reduceAdd, Nat.reduceMul, Nat.reduceSub]
        refine Runs.call c2 ?_
        simp +decide (maxSteps := 9^7) (disch := first | omega | (simp only [ll]; omega)) only [hk0, hk0t, if_pos, go_sem, Nat.reduceAdd, Nat.reduceMul, Nat.reduceSub]
        refine Runs.call c3 ?_
        simp +decide (maxSteps := 9^7) (disch := first | omega | (simp only [ll]; omega)) only [nodeO, nodesO, hk0, hk0t, List.length_map, if_pos, go_sem, Nat.reduceAdd, Nat.reduceMul, Nat.reduceSub]
        refine Runs.while (α := Nat) (xnStL ca path usage ho ne al de pu y) (fun i => ne.length - i) (fun i => i ≤ ne.length) 0 (by omega) ?_ ?_
        · simp [go_sem, xnAnn, xnStL]
        · intro i hi ih
          have hki := kidN_length ho ne i hi
          have hkO : (nodesO (kidN ho ne i)).length = (kidN ho ne i).length := nodesO_length _
          simp +decide (maxSteps := 9^7) only [xnStL, List.length_map, go_sem, Nat.reduceAdd, Nat.reduceMul, Nat.reduceSub]
          refine Runs.split (fun h => ?_) (fun h => ?_)
          · have hlt : i < ne.length := by simpa using h
            obtain ⟨a0, a1, a2, a3, h4⟩ := four_ofN (s2 ne[i] (List.getElem_mem hlt))
            have hg : (ne.map rowS).getD i .any = .sl .sh [.v (.int .i64 a0), .v (.int .i64 a1), .v (.int .i64 a2), .v (.int .i64 a3)] := by simp [List.getD, hlt, rowS, h4, intA]
            have hs := kidN_succ ho ne i hlt
            rw [h4] at hs
            have hs1 : (kidN ho ne (i + 1)).length = (kidN ho ne i).length + 1 := by rw [hs]; simp
            have hs2 : nodesO (kidN ho ne (i + 1)) = nodesO (kidN ho ne i) ++ [nodeO (netN [a0, a1, a2, a3])] := by rw [hs, nodesO_app]
            have c4 := leaf hm 135 (netBy [a0, a1, a2, a3])
            simp only [netBy, List.getD_cons_zero, List.getD_cons_succ, List.map_cons, List.map_nil, u8A] at c4
            simp only [netN, netBy, nodeO, nodesO, List.getD_cons_zero, List.getD_cons_succ, List.map_cons, List.map_nil, u8A] at hs2
            have t0 : Int.toNat 0 = 0 := rfl
            have t1 : Int.toNat 1 = 1 := rfl
            have t2 : Int.toNat 2 = 2 := rfl
            have t3 : Int.toNat 3 = 3 := rfl
            have d1 : decide (0 ≤ (i : Int) ∧ (i : Int) < ne.length) = true := by simp; omega
            have d2 : decide ((kidN ho ne i).length + 1 ≤ 1073741824) = true := by simp; omega
            have w1 : IntKind.i64.wrap ((i : Int) + 1) = i + 1 := wrap_i64 (by omega) (by omega)
            simp +decide (maxSteps := 9^7) only [hg, List.length_map, Int.toNat_natCast, d1, go_sem, Nat.reduceAdd, Nat.reduceMul, Nat.reduceSub]
            refine Runs.draw (st1 := ?s15) (draws_ref (ann := xnAnn) tabOk (byJ [(7, [1, 3, 4, 5]), (8, xnK), (10, xnK), (18, xnK), (25, xnK), (27, xnK), (22, [1, 3, 4, 9]), (24, [1, 3, 4, 9])] (byM [129] (byL [] [28, 72, 1000001]))) xnS15 (by kernel_rfl) ?p15) ?q15
            case p15 =>
              intro K r X hK
              simp +decide (maxSteps := 9^7) only [t0, t1, t2, t3, go_sem, Nat.reduceAdd, Nat.reduceMul, Nat.reduceSub]
              repeat' apply And.intro
              all_goals
                refine Runs.call c4 ?_
                simp +decide (maxSteps := 9^7) only [nodeO, nodesO, List.length_append, hkO, d2, go_sem, Nat.reduceAdd, Nat.reduceMul, Nat.reduceSub]
                first | exact hK | (repeat' apply And.intro) <;> exact hK
            case q15 =>
              simp +decide (maxSteps := 9^7) only [w1, go_sem, Nat.reduceAdd, Nat.reduceMul, Nat.reduceSub]
              refine ih (i + 1) _ (by omega) (by omega) ?_
              simp [go_sem, xnAnn, xnStL, hs1, hs2]
          · have hge : i = ne.length := by simp at h; omega
            subst hge
            have hp := putN hm 3 (.mk 48 [] (kidN ho ne ne.length)) y (by omega) (by omega) (by omega)
            have hxt : List.take (kidN ho ne ne.length).length (nodesO (kidN ho ne ne.length)) = nodesO (kidN ho ne ne.length) := List.take_of_length_le (by rw [hkO]; exact Nat.le_refl _)
            rw [← kidN_all] at e1
            simp +decide (maxSteps := 9^7) only [hkO, hxt, go_sem, Nat.reduceAdd, Nat.reduceMul, Nat.reduceSub]
            refine Runs.call hp ?_
            simp +decide (maxSteps := 9^7) only [go_sem, Nat.reduceAdd, Nat.reduceMul, Nat.reduceSub]
            refine J () _ ?_
            simp [go_sem, xnSt, e1, xnK]
      case h6 =>
        intro J e
        have hne : ¬ 0 < ho.length + ne.length := by simp at e; omega
        have e1 : ex3 ho ne = [] := by rw [ex3, if_neg hne]
        simp +decide (maxSteps := 9^7) only [go_sem, Nat.reduceAdd, Nat.reduceMul, Nat.reduceSub]
        refine J () _ ?_
        simp [go_sem, xnSt, e1, xnK]
      case tail18 =>
        intro _
        have hyl3 : (y ++ ex3 ho ne).length ≤ 3 := by unfold ex3; split <;> simp <;> omega
        clear hyl2
        generalize y ++ ex3 ho ne = y at *
        simp +decide (maxSteps := 9^7) (disch := first | omega | (simp only [ll]; omega)) only [xnSt, List.length_map, if_pos, go_sem, Nat.reduceAdd, Nat.reduceMul, Nat.reduceSub]
        refine Runs.meet (α := Unit) (keep := xnK) (kj := ?kj25) (fun _ => xnSt ca path usage ho ne al de pu (y ++ ex4 al de)) ?tail25 ?h7 ?h8
        case h8 =>
          intro J e
          have hne : ¬ 0 < al.length + de.length := by simp at e; omega
          have e1 : ex4 al de = [] := by rw [ex4, if_neg hne]
          simp +decide (maxSteps := 9^7) only [go_sem, Nat.reduceAdd, Nat.reduceMul, Nat.reduceSub]
          refine J () _ ?_
          simp [go_sem, xnSt, e1, xnK]
        case h7 =>
          intro J e
          have hne : 0 < al.length + de.length := by simp at e; omega
          have e1 : ex4 al de = [oneN 4 (.mk 48 [] (exAl 160 al ++ exAl 161 de))] := by rw [ex4, if_pos hne]
          have c3 := listN hm 48 []
          simp only [nodesO] at c3
          simp +decide (maxSteps := 9^7) only [go_sem, Nat.reduceAdd, Nat.reduceMul, Nat.reduceSub]
          refine Runs.call (Holds.le c3 (.same _ (.nils _ (LeD.refl _)))) ?_
          simp +decide (maxSteps := 9^7) only [nodeO, nodesO, List.map_nil, List.length_map, go_sem, Nat.reduceAdd, Nat.reduceMul, Nat.reduceSub]
          refine Runs.meet (α := Unit) (keep := [1, 3, 4, 9]) (kj := ?kj22) (fun _ => xnSt9 ca path usage ho ne al de pu y (exAl 160 al)) ?tail22 ?a22 ?b22
          case b22 =>
            intro J2 e2
            have hn2 : ¬ 0 < al.length := by simpa using e2
            simp +decide (maxSteps := 9^7) only [go_sem, Nat.reduceAdd, Nat.reduceMul, Nat.reduceSub]
            refine J2 () _ ?_
            simp [go_sem, xnSt9, exAl, hn2, nodesO]
          case a22 =>
            intro J2 e2
            have hn2 : 0 < al.length := by simpa using e2
            have c4 := texts hm 130 al (by omega) (fun s hs => by have := s3 s hs; omega)
            have c5 := listN hm 160 (al.map (txtN 130))
            have hl : (nodesO (al.map (txtN 130))).length = al.length := by rw [nodesO_length, List.length_map]
            have hlt : List.take al.length (nodesO (al.map (txtN 130))) = nodesO (al.map (txtN 130)) := List.take_of_length_le (by rw [hl]; exact Nat.le_refl _)
            simp +decide (maxSteps := 9^7) only [go_sem, Nat.reduceAdd, Nat.reduceMul, Nat.reduceSub]
            refine Runs.draw (st1 := ?s21) (draws_ref (ann := xnAnn) tabOk (byJ [(7, [1, 3, 4, 5]), (8, xnK), (10, xnK), (18, xnK), (25, xnK), (27, xnK), (22, [1, 3, 4, 9]), (24, [1, 3, 4, 9])] (byM [129] (byL [] [28, 72, 1000001]))) xnS21 (by kernel_rfl) ?p21) ?q21
            case p21 =>
              intro K r X hK
              simp +decide (maxSteps := 9^7) only [go_sem, Nat.reduceAdd, Nat.reduceMul, Nat.reduceSub]
              repeat' apply And.intro
              all_goals
                refine Runs.call c4 ?_
                simp +decide (maxSteps := 9^7) (disch := first | omega | (simp only [ll]; omega)) only [nodeO, nodesO, hl, hlt, List.length_map, if_pos, go_sem, Nat.reduceAdd, Nat.reduceMul, Nat.reduceSub]
                repeat' apply And.intro
                all_goals
                  refine Runs.call c5 ?_
                  simp +decide (maxSteps := 9^7) (disch := first | omega | (simp only [ll]; omega)) only [nodeO, nodesO, hl, hlt, List.length_map, List.length_append, Sh.own, Bool.not_true, Bool.false_and, Bool.and_false, if_pos, go_sem, Nat.reduceAdd, Nat.reduceMul, Nat.reduceSub]
                  first | exact hK | (repeat' apply And.intro) <;> exact hK
            case q21 =>
              simp +decide (maxSteps := 9^7) only [go_sem, Nat.reduceAdd, Nat.reduceMul, Nat.reduceSub]
              refine J2 () _ ?_
              simp [go_sem, xnSt9, exAl, hn2, nodesO, nodeO]
          case tail22 =>
            intro _
            have hzl : (exAl 160 al).length ≤ 1 := (exAl_le 160 l3).2
            generalize exAl 160 al = z at *
            have hz : (nodesO z).length = z.length := nodesO_length _
            simp +decide (maxSteps := 9^7) only [xnSt9, List.length_map, go_sem, Nat.reduceAdd, Nat.reduceMul, Nat.reduceSub]
            refine Runs.meet (α := Unit) (keep := [1, 3, 4, 9]) (kj := ?kj24) (fun _ => xnSt9 ca path usage ho ne al de pu y (z ++ exAl 161 de)) ?tail24 ?a24 ?b24
            case b24 =>
              intro J2 e2
              have hn2 : ¬ 0 < de.length := by simpa using e2
              simp +decide (maxSteps := 9^7) only [go_sem, Nat.reduceAdd, Nat.reduceMul, Nat.reduceSub]
              refine J2 () _ ?_
              simp [go_sem, xnSt9, exAl, hn2, nodesO]
            case a24 =>
              intro J2 e2
              have hn2 : 0 < de.length := by simpa using e2
              have c4 := texts hm 130 de (by omega) (fun s hs => by have := s4 s hs; omega)
              have c5 := listN hm 161 (de.map (txtN 130))
              have hl : (nodesO (de.map (txtN 130))).length = de.length := by rw [nodesO_length, List.length_map]
              have hlt : List.take de.length (nodesO (de.map (txtN 130))) = nodesO (de.map (txtN 130)) := List.take_of_length_le (by rw [hl]; exact Nat.le_refl _)
              simp +decide (maxSteps := 9^7) only [go_sem, Nat.reduceAdd, Nat.reduceMul, Nat.reduceSub]
              refine Runs.draw (st1 := ?s23) (draws_ref (ann := xnAnn) tabOk (byJ [(7, [1, 3, 4, 5]), (8, xnK), (10, xnK), (18, xnK), (25, xnK), (27, xnK), (22, [1, 3, 4, 9]), (24, [1, 3, 4, 9])] (byM [129] (byL [] [28, 72, 1000001]))) xnS23 (by kernel_rfl) ?p23) ?q23
              case p23 =>
                intro K r X hK
                simp +decide (maxSteps := 9^7) only [go_sem, Nat.reduceAdd, Nat.reduceMul, Nat.reduceSub]
                repeat' apply And.intro
                all_goals
                  refine Runs.call c4 ?_
                  simp +decide (maxSteps := 9^7) (disch := first | omega | (simp only [ll]; omega)) only [nodeO, nodesO, hl, hlt, List.length_map, if_pos, go_sem, Nat.reduceAdd, Nat.reduceMul, Nat.reduceSub]
                  repeat' apply And.intro
                  all_goals
                    refine Runs.call c5 ?_
                    simp +decide (maxSteps := 9^7) (disch := first | omega | (simp only [ll]; omega)) only [nodeO, nodesO, hl, hlt, hz, List.length_map, List.length_append, Sh.own, Bool.not_true, Bool.false_and, Bool.and_false, if_pos, go_sem, Nat.reduceAdd, Nat.reduceMul, Nat.reduceSub]
                    first | exact hK | (repeat' apply And.intro) <;> exact hK
              case q23 =>
                simp +decide (maxSteps := 9^7) only [go_sem, Nat.reduceAdd, Nat.reduceMul, Nat.reduceSub]
                refine J2 () _ ?_
                simp [go_sem, xnSt9, exAl, hn2, nodesO_app, nodeO]
            case tail24 =>
              intro _
              have hzl2 : (z ++ exAl 161 de).length ≤ 2 := by have := (exAl_le 161 l4).2; simp only [List.length_append]; omega
              clear hz hzl
              generalize z ++ exAl 161 de = z at *
              have hp := putN hm 4 (.mk 48 [] z) y (by omega) (by omega) (by omega)
              have hz : (nodesO z).length = z.length := nodesO_length _
              have hxt : List.take z.length (nodesO z) = nodesO z := List.take_of_length_le (by rw [hz]; exact Nat.le_refl _)
              simp +decide (maxSteps := 9^7) only [xnSt9, hz, hxt, go_sem, Nat.reduceAdd, Nat.reduceMul, Nat.reduceSub]
              refine Runs.call hp ?_
              simp +decide (maxSteps := 9^7) only [go_sem, Nat.reduceAdd, Nat.reduceMul, Nat.reduceSub]
              refine J () _ ?_
              simp [go_sem, xnSt, e1, xnK]
        case tail25 =>
          intro _
          have hyl4 : (y ++ ex4 al de).length ≤ 4 := by unfold ex4; split <;> simp <;> omega
          clear hyl3
          generalize y ++ ex4 al de = y at *
          simp +decide (maxSteps := 9^7) only [xnSt, List.length_map, go_sem, Nat.reduceAdd, Nat.reduceMul, Nat.reduceSub]
          refine Runs.meet (α := Unit) (keep := xnK) (kj := ?kj27) (fun _ => xnSt ca path usage ho ne al de pu (y ++ ex5 pu)) ?tail27 ?h9 ?h10
          case h10 =>
            intro J e
            have hne : ¬ 0 < pu.length := by simpa using e
            have e1 : ex5 pu = [] := by rw [ex5, if_neg hne]
            simp +decide (maxSteps := 9^7) only [go_sem, Nat.reduceAdd, Nat.reduceMul, Nat.reduceSub]
            refine J () _ ?_
            simp [go_sem, xnSt, e1, xnK]
          case h9 =>
            intro J e
            have hne : 0 < pu.length := by simpa using e
            have e1 : ex5 pu = [oneN 5 (.mk 48 [] (pu.map intN))] := by rw [ex5, if_pos hne]
            have c4 := integers hm pu (by omega) (fun n hn => by have := s5 n hn; omega)
            have c5 := listN hm 48 (pu.map intN)
            have hl : (nodesO (pu.map intN)).length = pu.length := by rw [nodesO_length, List.length_map]
            have hlt : List.take pu.length (nodesO (pu.map intN)) = nodesO (pu.map intN) := List.take_of_length_le (by rw [hl]; exact Nat.le_refl _)
            have hp := putN hm 5 (.mk 48 [] (pu.map intN)) y (by omega) (by omega) (by omega)
            simp +decide (maxSteps := 9^7) only [go_sem, Nat.reduceAdd, Nat.reduceMul, Nat.reduceSub]
            refine Runs.call c4 ?_
            simp +decide (maxSteps := 9^7) only [hl, hlt, go_sem, Nat.reduceAdd, Nat.reduceMul, Nat.reduceSub]
            refine Runs.call c5 ?_
            simp +decide (maxSteps := 9^7) only [nodeO, nodesO, hl, hlt, List.length_map, go_sem, Nat.reduceAdd, Nat.reduceMul, Nat.reduceSub]
            refine Runs.call hp ?_
            simp +decide (maxSteps := 9^7) only [go_sem, Nat.reduceAdd, Nat.reduceMul, Nat.reduceSub]
            refine J () _ ?_
            simp [go_sem, xnSt, e1, xnK]
          case tail27 =>
            intro _
            have hyl5 : (y ++ ex5 pu).length ≤ 5 := by unfold ex5; split <;> simp <;> omega
            clear hyl4
            generalize y ++ ex5 pu = y at *
            have hy : (nodesO y).length = y.length := nodesO_length _
            have hyt : List.take y.length (nodesO y) = nodesO y := List.take_of_length_le (by rw [hy]; exact Nat.le_refl _)
            simp +decide (maxSteps := 9^7) only [xnSt, hy, hyt, go_sem, Nat.reduceAdd, Nat.reduceMul, Nat.reduceSub]
            exact Runs.ret_refl
end Go.Proofs.W

namespace Go.Proofs.W
open Go Go.AM Go.Proofs.G
variable (hm : Tryz.prog.follows .mixedOrders = true)
attribute [local go_sem] keyA keyO exS exO rowS_plain rowS_dn rowO_dn certA certO
def tnS1 : Sched := .take 0 (.take 3 (.take 6 (.take 10 (.take 13 (.take 18 (.take 22 (.ld 1 (.ld 4 (.ld 7 (.ld 11 (.ld 14 (.ld 19 (.ld 23 (.alt 2 (.alt 5 (.alt 8 (.alt 9 (.alt 12 (.alt 15 (.alt 16 (.alt 17 (.alt 20 (.alt 21 (.alt 24 (.alt 25 (.alt 26 (.alt 27 (.alt 28 .fin .nil) .nil) (.alt 27 (.alt 26 (.alt 28 .fin .nil) .nil) .nil)) (.alt 27 (.alt 25 (.alt 26 (.alt 28 .fin .nil) .nil) .nil) .nil)) (.alt 27 (.alt 24 (.alt 25 (.alt 26 (.alt 28 .fin .nil) .nil) .nil) .nil) .nil)) (.alt 27 (.alt 21 (.alt 24 (.alt 25 (.alt 26 (.alt 28 .fin .nil) .nil) .nil) .nil) .nil) .nil)) (.alt 27 (.alt 20 (.alt 21 (.alt 24 (.alt 25 (.alt 26 (.alt 28 .fin .nil) .nil) .nil) .nil) .nil) .nil) .nil)) (.alt 27 (.alt 17 (.alt 20 (.alt 21 (.alt 24 (.alt 25 (.alt 26 (.alt 28 .fin .nil) .nil) .nil) .nil) .nil) .nil) .nil) .nil)) (.alt 27 (.alt 16 (.alt 17 (.alt 20 (.alt 21 (.alt 24 (.alt 25 (.alt 26 (.alt 28 .fin .nil) .nil) .nil) .nil) .nil) .nil) .nil) .nil) .nil)) (.alt 27 (.alt 15 (.alt 16 (.alt 17 (.alt 20 (.alt 21 (.alt 24 (.alt 25 (.alt 26 (.alt 28 .fin .nil) .nil) .nil) .nil) .nil) .nil) .nil) .nil) .nil) .nil)) (.alt 27 (.alt 12 (.alt 15 (.alt 16 (.alt 17 (.alt 20 (.alt 21 (.alt 24 (.alt 25 (.alt 26 (.alt 28 .fin .nil) .nil) .nil) .nil) .nil) .nil) .nil) .nil) .nil) .nil) .nil)) (.alt 27 (.alt 9 (.alt 12 (.alt 15 (.alt 16 (.alt 17 (.alt 20 (.alt 21 (.alt 24 (.alt 25 (.alt 26 (.alt 28 .fin .nil) .nil) .nil) .nil) .nil) .nil) .nil) .nil) .nil) .nil) .nil) .nil)) (.alt 27 (.alt 8 (.alt 9 (.alt 12 (.alt 15 (.alt 16 (.alt 17 (.alt 20 (.alt 21 (.alt 24 (.alt 25 (.alt 26 (.alt 28 .fin .nil) .nil) .nil) .nil) .nil) .nil) .nil) .nil) .nil) .nil) .nil) .nil) .nil)) (.alt 27 (.alt 5 (.alt 8 (.alt 9 (.alt 12 (.alt 15 (.alt 16 (.alt 17 (.alt 20 (.alt 21 (.alt 24 (.alt 25 (.alt 26 (.alt 28 .fin .nil) .nil) .nil) .nil) .nil) .nil) .nil) .nil) .nil) .nil) .nil) .nil) .nil) .nil)) (.alt 27 (.alt 2 (.alt 5 (.alt 8 (.alt 9 (.alt 12 (.alt 15 (.alt 16 (.alt 17 (.alt 20 (.alt 21 (.alt 24 (.alt 25 (.alt 26 (.alt 28 .fin .nil) .nil) .nil) .nil) .nil) .nil) .nil) .nil) .nil) .nil) .nil) .nil) .nil) .nil) .nil)))))))))))))))
def tnS4 : Sched := .take 0 (.take 2 (.alt 1 (.alt 3 (.alt 4 (.alt 5 (.alt 6 (.alt 7 (.take 8 (.alt 9 .fin .nil)) .nil) .nil) .nil) .nil) .nil) (.alt 3 (.alt 1 (.alt 4 (.alt 5 (.alt 6 (.alt 7 (.take 8 (.alt 9 .fin .nil)) .nil) .nil) .nil) .nil) (.alt 4 (.alt 1 (.alt 5 (.alt 6 (.alt 7 (.take 8 (.alt 9 .fin .nil)) .nil) .nil) .nil) (.alt 5 (.alt 1 (.alt 6 (.alt 7 (.take 8 (.alt 9 .fin .nil)) .nil) .nil) (.alt 6 (.alt 1 (.alt 7 (.take 8 (.alt 9 .fin .nil)) .nil) .nil) .nil)) .nil)) .nil)) .nil)))
attribute [local go_sem] tnS1 tnS4
set_option maxHeartbeats 8000000 in
set_option maxRecDepth 10000 in
include hm in
theorem tbsNode (c : GCert) (fit : CertFit c) (h : certB c = true) : Holds Tryz.prog 29 [certA c] [] (nodeO (tbsN c)) [] := by
  have w := cert_w h
  have i1 := integer hm c.serial (by have := w.serial; omega) (by have := w.serial; omega)
  have i2 := integer hm c.alg (by have := w.alg; omega) (by have := w.alg; omega)
  have t1 := texts hm 12 c.issuer (by have := w.iss.1; omega) (fun s hs => by have := w.iss.2 s hs; omega)
  have m1 := listN hm 48 (c.issuer.map (txtN 12))
  have d1 := timeNode hm c.from'
  have d2 := timeNode hm c.tu
  have m2 := listN hm 48 [timeN c.from', timeN c.tu]
  have t2 := texts hm 12 c.subject (by have := w.sub.1; omega) (fun s hs => by have := w.sub.2 s hs; omega)
  have m3 := listN hm 48 (c.subject.map (txtN 12))
  have k1 := keyNode hm c.key w.key
  have x1 : Holds Tryz.prog 71 [exS c.ca c.path c.usage c.ho c.ne c.al c.de c.pu] [] (.sl (.ow 3) (nodesO (cExNs c))) [] :=
    extNodes hm c.ca c.path c.usage c.ho c.ne c.al c.de c.pu w.path w.usage w.ho w.ne.1 w.al w.de w.pu.1 fit.2.2.2.2.1 w.ne.2 fit.2.2.2.2.2.1 fit.2.2.2.2.2.2.1 w.pu.2
  have hE : (cExNs c).length ≤ 5 := (cEx_le w).2
  have e : tbsN c = .mk 48 [] ([intN c.serial, intN c.alg, .mk 48 [] (c.issuer.map (txtN 12)), .mk 48 [] [timeN c.from', timeN c.tu], .mk 48 [] (c.subject.map (txtN 12)), keyNd c.key] ++ exTop (cExNs c)) := rfl
  have m4 := listN hm 48 [intN c.serial, intN c.alg, .mk 48 [] (c.issuer.map (txtN 12)), .mk 48 [] [timeN c.from', timeN c.tu], .mk 48 [] (c.subject.map (txtN 12)), keyNd c.key]
  rw [e]
  rw [exS] at x1
  rw [keyA] at k1
  generalize cExNs c = Ex at *
  generalize keyNd c.key = kn at *
  obtain ⟨kt, kb, kk⟩ := kn
  have b1 : c.issuer.length ≤ 4 := w.iss.1
  have b2 : c.subject.length ≤ 4 := w.sub.1
  have hI : (nodesO (c.issuer.map (txtN 12))).length = c.issuer.length := by rw [nodesO_length, List.length_map]
  have hIt : List.take c.issuer.length (nodesO (c.issuer.map (txtN 12))) = nodesO (c.issuer.map (txtN 12)) := List.take_of_length_le (by omega)
  have hS : (nodesO (c.subject.map (txtN 12))).length = c.subject.length := by rw [nodesO_length, List.length_map]
  have hSt : List.take c.subject.length (nodesO (c.subject.map (txtN 12))) = nodesO (c.subject.map (txtN 12)) := List.take_of_length_le (by omega)
  have hK1 : (kb.map u8A).length = kb.length := List.length_map _
  have hK1t : List.take kb.length (kb.map u8A) = kb.map u8A := take_map_len
  have hK2 : (nodesO kk).length = kk.length := nodesO_length _
  have hK2t : List.take kk.length (nodesO kk) = nodesO kk := List.take_of_length_le (by omega)
  have hX : (nodesO Ex).length = Ex.length := nodesO_length _
  have hXt : List.take Ex.length (nodesO Ex) = nodesO Ex := List.take_of_length_le (by omega)
  clear w fit h
  refine holds_ref (ann := []) tabOk hm (byL [] [28, 1000001]) Tryz.func29 (by kernel_rfl) rfl ?_
  simp +decide (maxSteps := 9^7) only [Tryz.f29, go_sem, Nat.reduceAdd, Nat.reduceMul, Nat.reduceSub]
  refine Runs.draw (st1 := ?s1) (draws_ref (ann := []) tabOk (byL [] [28, 1000001]) tnS1 (by kernel_rfl) ?p1) ?q1
  case p1 =>
    intro K r X hK
    simp +decide (maxSteps := 9^7) only [go_sem, Nat.reduceAdd, Nat.reduceMul, Nat.reduceSub]
    repeat' (first
      | apply And.intro
      | exact hK
      | (refine Runs.call i1 ?_; simp +decide (maxSteps := 9^7) only [nodeO, nodesO, go_sem, Nat.reduceAdd, Nat.reduceMul, Nat.reduceSub])
      | (refine Runs.call i2 ?_; simp +decide (maxSteps := 9^7) only [nodeO, nodesO, go_sem, Nat.reduceAdd, Nat.reduceMul, Nat.reduceSub])
      | (refine Runs.call t1 ?_; simp +decide (maxSteps := 9^7) only [nodeO, nodesO, hI, hIt, go_sem, Nat.reduceAdd, Nat.reduceMul, Nat.reduceSub])
      | (refine Runs.call m1 ?_; simp +decide (maxSteps := 9^7) only [nodeO, nodesO, hI, hIt, go_sem, Nat.reduceAdd, Nat.reduceMul, Nat.reduceSub])
      | (refine Runs.call d1 ?_; simp +decide (maxSteps := 9^7) only [nodeO, nodesO, hI, hIt, go_sem, Nat.reduceAdd, Nat.reduceMul, Nat.reduceSub])
      | (refine Runs.call d2 ?_; simp +decide (maxSteps := 9^7) only [nodeO, nodesO, hI, hIt, go_sem, Nat.reduceAdd, Nat.reduceMul, Nat.reduceSub])
      | (refine Runs.call t2 ?_; simp +decide (maxSteps := 9^7) only [nodeO, nodesO, hI, hIt, hS, hSt, go_sem, Nat.reduceAdd, Nat.reduceMul, Nat.reduceSub])
      | (refine Runs.call m3 ?_; simp +decide (maxSteps := 9^7) only [nodeO, nodesO, hI, hIt, hS, hSt, go_sem, Nat.reduceAdd, Nat.reduceMul, Nat.reduceSub])
      | (refine Runs.call k1 ?_; simp +decide (maxSteps := 9^7) only [nodeO, nodesO, hI, hIt, hS, hSt, hK1, hK1t, hK2, hK2t, go_sem, Nat.reduceAdd, Nat.reduceMul, Nat.reduceSub])
      | (refine Runs.call' (as' := [.v (.int .i64 48), .sl (.ow 3) (nodesO [intN c.serial, intN c.alg, .mk 48 [] (c.issuer.map (txtN 12)), .mk 48 [] [timeN c.from', timeN c.tu], .mk 48 [] (c.subject.map (txtN 12)), .mk kt kb kk])]) ?_ m4 ?_; (focus (simp [nodeO, nodesO, timeN, intN, tk_nodesO, md_nodesO]; done)); simp +decide (maxSteps := 9^7) only [nodeO, nodesO, go_sem, Nat.reduceAdd, Nat.reduceMul, Nat.reduceSub])
      | (refine Runs.call' (as' := [.v (.int .i64 48), .sl (.ow 3) (nodesO [timeN c.from', timeN c.tu])]) ?_ m2 ?_; (focus (simp [nodeO, nodesO, timeN]; done)); simp +decide (maxSteps := 9^7) only [nodeO, nodesO, hI, hIt, go_sem, Nat.reduceAdd, Nat.reduceMul, Nat.reduceSub])
      | fail)
  case q1 =>
    simp +decide (maxSteps := 9^7) only [go_sem, Nat.reduceAdd, Nat.reduceMul, Nat.reduceSub]
    refine Runs.call x1 ?_
    simp +decide (maxSteps := 9^7) only [hX, hXt, go_sem, Nat.reduceAdd, Nat.reduceMul, Nat.reduceSub]
    refine Runs.split (fun g => ?_) (fun g => ?_)
    · have g0 : Ex ≠ [] := by
        intro h0
        subst h0
        simp at g
      have e2 : exTop Ex = [.mk 163 [] [.mk 48 [] Ex]] := by rw [exTop, if_neg g0]
      have m5 := listN hm 48 Ex
      have m6 := listN hm 163 [.mk 48 [] Ex]
      rw [e2]
      simp +decide (maxSteps := 9^7) only [go_sem, Nat.reduceAdd, Nat.reduceMul, Nat.reduceSub]
      refine Runs.draw (st1 := ?s2) (draws_ref (ann := []) tabOk (byL [] [28, 1000001]) tnS4 (by kernel_rfl) ?p2) ?q2
      case p2 =>
        intro K r X hK
        simp +decide (maxSteps := 9^7) only [go_sem, Nat.reduceAdd, Nat.reduceMul, Nat.reduceSub]
        repeat' apply And.intro
        all_goals
          refine Runs.call m5 ?_
          simp +decide (maxSteps := 9^7) (disch := first | omega | (simp only [ll]; omega)) only [nodeO, nodesO, hX, hXt, Sh.own, Bool.not_true, Bool.false_and, Bool.and_false, if_pos, go_sem, Nat.reduceAdd, Nat.reduceMul, Nat.reduceSub]
          repeat' apply And.intro
          all_goals
            refine Runs.call' (as' := [.v (.int .i64 163), .sl (.ow 3) (nodesO [.mk 48 [] Ex])]) (by simp [nodeO, nodesO, md_nodesO]) m6 ?_
            simp +decide (maxSteps := 9^7) (disch := first | omega | (simp only [ll]; omega)) only [nodeO, nodesO, hX, hXt, List.length_append, Sh.own, Bool.not_true, Bool.false_and, Bool.and_false, if_pos, go_sem, Nat.reduceAdd, Nat.reduceMul, Nat.reduceSub]
            first | exact hK | (repeat' apply And.intro) <;> exact hK
      case q2 =>
        simp +decide (maxSteps := 9^7) only [nodeO, nodesO, go_sem, Nat.reduceAdd, Nat.reduceMul, Nat.reduceSub]
        exact Runs.ret_eq (by simp [nodeO, nodesO, intN, timeN])
    · have g0 : Ex = [] := by
        cases Ex with
        | nil => rfl
        | cons a r => simp at g
      subst g0
      simp +decide (maxSteps := 9^7) only [go_sem, Nat.reduceAdd, Nat.reduceMul, Nat.reduceSub]
      exact Runs.ret_eq (by simp [exTop, nodeO, nodesO, intN, timeN])
end Go.Proofs.W

namespace Go.Proofs.W
open Go Go.AM
variable (hm : Tryz.prog.follows .mixedOrders = true)
def iterO (f : Nat → Option Nat) : Nat → Nat → Option Nat
  | 0, n => some n
  | k + 1, n => match f n with
    | some m => iterO f k m
    | none => none
def endP (L : List It) : Nat → Nat → Option Nat
  | 0, _ => none
  | d + 1, i => match L[i]? with
    | some x => iterO (endP L d) x.kids.toNat (i + 1)
    | none => none
def endI : Option Nat → Int
  | some n => n
  | none => -1
theorem iterO_le {f : Nat → Option Nat} {m : Nat} (hf : ∀ i n, f i = some n → i < n ∧ n ≤ m) : ∀ k i n, i ≤ m → iterO f k i = some n → i ≤ n ∧ n ≤ m
  | 0, i, n, hi, h => by simp [iterO] at h; omega
  | k + 1, i, n, hi, h => by
    simp only [iterO] at h
    cases e : f i with
    | none => rw [e] at h; simp at h
    | some j =>
      rw [e] at h
      have h1 := hf i j e
      have h2 := iterO_le hf k j n (by omega) h
      omega
theorem endP_le {L : List It} : ∀ d i n, endP L d i = some n → i < n ∧ n ≤ L.length
  | 0, i, n, h => by simp [endP] at h
  | d + 1, i, n, h => by
    simp only [endP] at h
    cases e : L[i]? with
    | none => rw [e] at h; simp at h
    | some x =>
      rw [e] at h
      have hlt : i < L.length := (List.getElem?_eq_some_iff.1 e).1
      have := iterO_le (fun i n => endP_le d i n) _ (i + 1) n (by omega) h
      omega
theorem endP_none {L : List It} {d i : Nat} (h : L.length ≤ i) : endP L d i = none := by
  cases d with
  | zero => rfl
  | succ d => rw [endP, List.getElem?_eq_none h]
theorem endP_some {L : List It} {d i : Nat} (h : i < L.length) : endP L (d + 1) i = iterO (endP L d) L[i].kids.toNat (i + 1) := by
  rw [endP, List.getElem?_eq_getElem h]
theorem getItem {L : List It} {i : Nat} (h : i < L.length) : (L.map itemS).getD i .any = .agg [.v (.int .i64 L[i].tag), .sl .sh (L[i].body.map u8A), .v (.int .i64 L[i].kids)] := by
  simp [List.getD, h, itemS]
def kidsOk (L : List It) : Prop := ∀ x ∈ L, 0 ≤ x.kids ∧ x.kids ≤ 300
def eAnn : Ann := [(0, [0, 1, 2, 7, 8])]
def eSt (L : List It) (i : Nat) (d : Nat) (p : Nat × Nat) : St := ⟨[.sl .sh (L.map itemS), .v (.int .i64 i), .v (.int .i64 d), .any, .any, .any, .any, .v (.int .i64 p.2), .v (.int .i64 p.1), .any, .any, .any, .any, .any, .any, .any, .any, .any, .any, .any, .any, .any, .any, .any, .any, .any, .any, .any, .any, .any, .any, .any, .any, .any, .any, .any], [], []⟩
set_option maxRecDepth 10000 in
include hm in
theorem l7End (L : List It) (hk : kidsOk L) (hl : L.length ≤ 1000000) : ∀ (d i e : Nat), d + e = 13 → i ≤ L.length → Holds Tryz.prog 94 [.sl .sh (L.map itemS), .v (.int .i64 i), .v (.int .i64 e)] [] (.v (.int .i64 (endI (endP L d i)))) [] := by
  intro d
  induction d with
  | zero =>
    intro i e hd hi
    have he : e = 13 := by omega
    subst he
    refine holds_of (ann := eAnn) tabOk hm Tryz.func94 (by kernel_rfl) rfl ?_
    simp +decide only [Tryz.f94, go_sem, Nat.reduceAdd, Nat.reduceMul, Nat.reduceSub]
    refine Runs.split (fun h => ?_) (fun h => ?_)
    · simp +decide only [go_sem, Nat.reduceAdd, Nat.reduceMul, Nat.reduceSub]
      exact Runs.ret_v
    · simp +decide (disch := first | omega | (simp only [ll]; omega)) only [if_pos, go_sem, Nat.reduceAdd, Nat.reduceMul, Nat.reduceSub]
      exact Runs.ret_v
  | succ d IH =>
    intro i e hd hi
    refine holds_of (ann := eAnn) tabOk hm Tryz.func94 (by kernel_rfl) rfl ?_
    simp +decide only [Tryz.f94, go_sem, Nat.reduceAdd, Nat.reduceMul, Nat.reduceSub]
    refine Runs.split (fun h => ?_) (fun h => ?_)
    · have hge : L.length ≤ i := by simpa using h
      simp +decide only [endP_none hge, endI, go_sem, Nat.reduceAdd, Nat.reduceMul, Nat.reduceSub]
      exact Runs.ret_v
    · have hlt : i < L.length := by simpa using h
      have hd : decide ((12 : Int) < (e : Int)) = false := by simp; omega
      obtain ⟨k1, k2⟩ := hk L[i] (List.getElem_mem hlt)
      simp +decide (disch := first | omega | (simp only [ll]; omega)) only [hd, if_pos, go_sem, Nat.reduceAdd, Nat.reduceMul, Nat.reduceSub]
      refine Runs.while (α := Nat × Nat) (eSt L i e) (fun p => 300 - p.1) (fun p => p.1 ≤ L[i].kids.toNat ∧ p.2 ≤ L.length ∧ iterO (endP L d) (L[i].kids.toNat - p.1) p.2 = endP L (d + 1) i) (0, i + 1) ⟨by omega, by omega, by rw [endP_some hlt]; rfl⟩ ?_ ?_
      · simp [go_sem, eAnn, eSt]
      · rintro ⟨j, n⟩ ⟨hj, hn, hr⟩ ih
        simp only at hj hn hr
        simp +decide (disch := first | omega | (simp only [ll]; omega)) only [eSt, getItem hlt, if_pos, go_sem, Nat.reduceAdd, Nat.reduceMul, Nat.reduceSub]
        refine Runs.split (fun h => ?_) (fun h => ?_)
        · have hjk : (j : Int) < L[i].kids := by simpa using h
          have e1 : L[i].kids.toNat - j = L[i].kids.toNat - (j + 1) + 1 := by omega
          simp +decide (disch := first | omega | (simp only [ll]; omega)) only [if_pos, go_sem, Nat.reduceAdd, Nat.reduceMul, Nat.reduceSub]
          refine Runs.call (IH n (e + 1) (by omega) hn) ?_
          rw [e1, iterO] at hr
          cases e2 : endP L d n with
          | none =>
            rw [e2] at hr
            simp +decide only [endI, ← hr, go_sem, Nat.reduceAdd, Nat.reduceMul, Nat.reduceSub]
            exact Runs.ret_v
          | some n' =>
            rw [e2] at hr
            have := endP_le _ _ _ e2
            simp +decide only [endI, go_sem, Nat.reduceAdd, Nat.reduceMul, Nat.reduceSub]
            refine Runs.split (fun h => ?_) (fun h => ?_)
            · simp at h; omega
            · simp +decide (disch := first | omega | (simp only [ll]; omega)) only [if_pos, go_sem, Nat.reduceAdd, Nat.reduceMul, Nat.reduceSub]
              refine ih (j + 1, n') _ (by simp only; omega) ⟨by simp only; omega, by simp only; omega, hr⟩ ?_
              simp [go_sem, eAnn, eSt]
        · have hjk : ¬ (j : Int) < L[i].kids := by simpa using h
          have e1 : L[i].kids.toNat - j = 0 := by omega
          rw [e1, iterO] at hr
          simp +decide only [← hr, endI, go_sem, Nat.reduceAdd, Nat.reduceMul, Nat.reduceSub]
          exact Runs.ret_v
def kAnn : Ann := [(0, [0, 1, 2, 7, 22, 23])]
def kSt (L : List It) (i : Nat) (d : Nat) (k : Int) (p : Nat × Nat) : St := ⟨[.sl .sh (L.map itemS), .v (.int .i64 i), .v (.int .i64 d), .any, .any, .any, .any, .v (.int .i64 p.2), .any, .any, .any, .any, .any, .any, .any, .any, .any, .any, .any, .any, .any, .any, .v (.int .i64 k), .v (.int .i64 p.1), .any, .any, .any, .any, .any, .any, .any, .any, .any, .any], [], []⟩
set_option maxRecDepth 10000 in
include hm in
theorem skip (L : List It) (hk : kidsOk L) (hl : L.length ≤ 1000000) : ∀ (d i e : Nat), d + e = 13 → i ≤ L.length → Holds Tryz.prog 121 [.sl .sh (L.map itemS), .v (.int .i64 i), .v (.int .i64 e)] [] (.v (.int .i64 (endI (endP L d i)))) [] := by
  intro d
  induction d with
  | zero =>
    intro i e hd hi
    have he : e = 13 := by omega
    subst he
    refine holds_of (ann := kAnn) tabOk hm Tryz.func121 (by kernel_rfl) rfl ?_
    simp +decide only [Tryz.f121, go_sem, Nat.reduceAdd, Nat.reduceMul, Nat.reduceSub]
    refine Runs.split (fun h => ?_) (fun h => ?_)
    · simp +decide only [go_sem, Nat.reduceAdd, Nat.reduceMul, Nat.reduceSub]
      exact Runs.ret_v
    · simp +decide (disch := first | omega | (simp only [ll]; omega)) only [if_pos, go_sem, Nat.reduceAdd, Nat.reduceMul, Nat.reduceSub]
      exact Runs.ret_v
  | succ d IH =>
    intro i e hd hi
    refine holds_of (ann := kAnn) tabOk hm Tryz.func121 (by kernel_rfl) rfl ?_
    simp +decide only [Tryz.f121, go_sem, Nat.reduceAdd, Nat.reduceMul, Nat.reduceSub]
    refine Runs.split (fun h => ?_) (fun h => ?_)
    · have hge : L.length ≤ i := by simpa using h
      simp +decide only [endP_none hge, endI, go_sem, Nat.reduceAdd, Nat.reduceMul, Nat.reduceSub]
      exact Runs.ret_v
    · have hlt : i < L.length := by simpa using h
      have hd : decide ((12 : Int) < (e : Int)) = false := by simp; omega
      obtain ⟨k1, k2⟩ := hk L[i] (List.getElem_mem hlt)
      simp +decide (disch := first | omega | (simp only [ll]; omega)) only [hd, getItem hlt, if_pos, go_sem, Nat.reduceAdd, Nat.reduceMul, Nat.reduceSub]
      refine Runs.while (α := Nat × Nat) (kSt L i e L[i].kids) (fun p => 300 - p.1) (fun p => p.1 ≤ L[i].kids.toNat ∧ p.2 ≤ L.length ∧ iterO (endP L d) (L[i].kids.toNat - p.1) p.2 = endP L (d + 1) i) (0, i + 1) ⟨by omega, by omega, by rw [endP_some hlt]; rfl⟩ ?_ ?_
      · simp [go_sem, kAnn, kSt]
      · rintro ⟨j, n⟩ ⟨hj, hn, hr⟩ ih
        simp only at hj hn hr
        simp +decide (disch := first | omega | (simp only [ll]; omega)) only [kSt, if_pos, go_sem, Nat.reduceAdd, Nat.reduceMul, Nat.reduceSub]
        refine Runs.split (fun h => ?_) (fun h => ?_)
        · have hjk : (j : Int) < L[i].kids := by simpa using h
          have e1 : L[i].kids.toNat - j = L[i].kids.toNat - (j + 1) + 1 := by omega
          simp +decide (disch := first | omega | (simp only [ll]; omega)) only [if_pos, go_sem, Nat.reduceAdd, Nat.reduceMul, Nat.reduceSub]
          refine Runs.call (IH n (e + 1) (by omega) hn) ?_
          rw [e1, iterO] at hr
          cases e2 : endP L d n with
          | none =>
            rw [e2] at hr
            simp +decide only [endI, ← hr, go_sem, Nat.reduceAdd, Nat.reduceMul, Nat.reduceSub]
            exact Runs.ret_v
          | some n' =>
            rw [e2] at hr
            have := endP_le _ _ _ e2
            simp +decide only [endI, go_sem, Nat.reduceAdd, Nat.reduceMul, Nat.reduceSub]
            refine Runs.split (fun h => ?_) (fun h => ?_)
            · simp at h; omega
            · simp +decide (disch := first | omega | (simp only [ll]; omega)) only [if_pos, go_sem, Nat.reduceAdd, Nat.reduceMul, Nat.reduceSub]
              refine ih (j + 1, n') _ (by simp only; omega) ⟨by simp only; omega, by simp only; omega, hr⟩ ?_
              simp [go_sem, kAnn, kSt]
        · have hjk : ¬ (j : Int) < L[i].kids := by simpa using h
          have e1 : L[i].kids.toNat - j = 0 := by omega
          rw [e1, iterO] at hr
          simp +decide only [← hr, endI, go_sem, Nat.reduceAdd, Nat.reduceMul, Nat.reduceSub]
          exact Runs.ret_v
end Go.Proofs.W

namespace Go.Proofs.W
open Go Go.AM
set_option maxRecDepth 10000
variable (hm : Tryz.prog.follows .mixedOrders = true)
def made (t : Int) : Bool := decide (t / 32 % 2 = 1)
def itOk (x : It) : Bool := inB x.tag 0 255 && decide (x.tag % 32 ≠ 31) && inB x.kids 0 300 && (if made x.tag then x.body.isEmpty else decide (x.kids = 0))
def treeOk (L : List It) : Bool := inB L.length 1 300 && L.all itOk && decide (endI (endP L 13 0) = L.length)
theorem bits5 : ∀ t : Fin 256, (BitVec.ofNat 64 t.val &&& BitVec.ofNat 64 31).toNat = t.val % 32 ∧ (BitVec.ofNat 64 t.val &&& BitVec.ofNat 64 32).toNat = t.val / 32 % 2 * 32 := by decide +kernel
theorem and31 {t : Int} (h1 : 0 ≤ t) (h2 : t ≤ 255) : andI .i64 t 31 = t % 32 := by
  show IntKind.i64.wrap ((BitVec.ofInt 64 t &&& BitVec.ofInt 64 31).toNat : Int) = t % 32
  obtain ⟨n, rfl⟩ := Int.eq_ofNat_of_zero_le h1
  have := (bits5 ⟨n, by omega⟩).1
  simp only [BitVec.ofInt_ofNat, BitVec.ofInt_natCast] at this ⊢
  rw [this, wrap_i64 (by omega) (by omega)]; omega
theorem and32 {t : Int} (h1 : 0 ≤ t) (h2 : t ≤ 255) : andI .i64 t 32 = t / 32 % 2 * 32 := by
  show IntKind.i64.wrap ((BitVec.ofInt 64 t &&& BitVec.ofInt 64 32).toNat : Int) = t / 32 % 2 * 32
  obtain ⟨n, rfl⟩ := Int.eq_ofNat_of_zero_le h1
  have := (bits5 ⟨n, by omega⟩).2
  simp only [BitVec.ofInt_ofNat, BitVec.ofInt_natCast] at this ⊢
  rw [this, wrap_i64 (by omega) (by omega)]; omega
include hm in
theorem isMade (t : Int) (h1 : 0 ≤ t) (h2 : t ≤ 255) : Holds Tryz.prog 160 [.v (.int .i64 t)] [] (.v (.bool (made t))) [] := by
  refine holds_of (ann := []) tabOk hm Tryz.func160 (by kernel_rfl) rfl ?_
  simp +decide (disch := first | omega | (simp only [ll]; omega)) only [Tryz.f160, and32 h1 h2, if_pos, go_sem, Nat.reduceAdd, Nat.reduceMul, Nat.reduceSub]
  refine Runs.ret_eq ?_
  simp [made]
  by_cases h : t / 32 % 2 = 1 <;> simp [h] <;> omega
include hm in
theorem l7Made (t : Int) (h1 : 0 ≤ t) (h2 : t ≤ 255) : Holds Tryz.prog 93 [.v (.int .i64 t)] [] (.v (.bool (made t))) [] := by
  refine holds_of (ann := []) tabOk hm Tryz.func93 (by kernel_rfl) rfl ?_
  simp +decide (disch := first | omega | (simp only [ll]; omega)) only [Tryz.f93, Int.tdiv_eq_ediv_of_nonneg h1, if_pos, go_sem, Nat.reduceAdd, Nat.reduceMul, Nat.reduceSub]
  refine Runs.ret_eq ?_
  rw [Int.tmod_eq_emod_of_nonneg (by omega)]
  simp [made]
include hm in
theorem itemOk (x : It) : Holds Tryz.prog 120 [itemS x] [] (.v (.bool (itOk x))) [] := by
  refine holds_of (ann := []) tabOk hm Tryz.func120 (by kernel_rfl) rfl ?_
  obtain ⟨t, B, k⟩ := x
  simp +decide only [Tryz.f120, itemS, go_sem, Nat.reduceAdd, Nat.reduceMul, Nat.reduceSub]
  refine Runs.call (within hm t 0 255) ?_
  simp +decide only [go_sem, Nat.reduceAdd, Nat.reduceMul, Nat.reduceSub]
  refine Runs.split (fun h => ?_) (fun h => ?_)
  · have h' : inB t 0 255 = false := by simpa using h
    simp +decide only [h', go_sem, Nat.reduceAdd, Nat.reduceMul, Nat.reduceSub]
    refine Runs.ret_eq ?_
    simp [itOk, h']
  · have h' : inB t 0 255 = true := by simpa using h
    have h1 : 0 ≤ t ∧ t ≤ 255 := by simpa [inB] using h'
    simp +decide only [h', and31 h1.1 h1.2, go_sem, Nat.reduceAdd, Nat.reduceMul, Nat.reduceSub]
    refine Runs.split (fun h => ?_) (fun h => ?_)
    · have e : t % 32 = 31 := by simpa using h
      simp +decide only [e, go_sem, Nat.reduceAdd, Nat.reduceMul, Nat.reduceSub]
      refine Runs.ret_eq ?_
      simp [itOk, e]
    · have e : ¬ t % 32 = 31 := by simpa using h
      simp +decide only [e, go_sem, Nat.reduceAdd, Nat.reduceMul, Nat.reduceSub]
      refine Runs.call (isMade hm t h1.1 h1.2) ?_
      simp +decide only [go_sem, Nat.reduceAdd, Nat.reduceMul, Nat.reduceSub]
      refine Runs.split (fun h => ?_) (fun h => ?_)
      · simp +decide only [h, go_sem, Nat.reduceAdd, Nat.reduceMul, Nat.reduceSub]
        refine Runs.split (fun h2 => ?_) (fun h2 => ?_)
        · have e2 : B = [] := by simpa using h2
          simp +decide only [e2, go_sem, Nat.reduceAdd, Nat.reduceMul, Nat.reduceSub]
          refine Runs.call (within hm k 0 300) ?_
          simp +decide only [go_sem, Nat.reduceAdd, Nat.reduceMul, Nat.reduceSub]
          refine Runs.ret_eq ?_
          simp [itOk, h', e, h]
        · have e2 : ¬ B = [] := by simpa using h2
          simp +decide only [e2, go_sem, Nat.reduceAdd, Nat.reduceMul, Nat.reduceSub]
          refine Runs.ret_eq ?_
          simp [itOk, h', e, h, e2]
      · simp +decide only [h, go_sem, Nat.reduceAdd, Nat.reduceMul, Nat.reduceSub]
        refine Runs.ret_eq ?_
        simp [itOk, h', e, h, inB]
        by_cases hk : k = 0 <;> simp [hk, h1]
include hm in
theorem treeOkF (x : It) : Holds Tryz.prog 119 [itemS x] [] (.v (.bool (!itOk x))) [] := by
  refine holds_of (ann := []) tabOk hm Tryz.func119 (by kernel_rfl) rfl ?_
  have := itemOk hm x
  obtain ⟨t, B, k⟩ := x
  rw [itemS] at this
  simp +decide only [Tryz.f119, itemS, go_sem, Nat.reduceAdd, Nat.reduceMul, Nat.reduceSub]
  refine Runs.call this ?_
  simp +decide only [go_sem, Nat.reduceAdd, Nat.reduceMul, Nat.reduceSub]
  exact Runs.ret_v
def firstBad : List It → Nat → Int
  | [], _ => -1
  | x :: r, i => if itOk x then firstBad r (i + 1) else i
theorem firstBad_get {L : List It} {i : Nat} (h : i < L.length) : firstBad (L.drop i) i = if itOk L[i] then firstBad (L.drop (i + 1)) (i + 1) else i := by
  rw [List.drop_eq_getElem_cons h, firstBad]
theorem firstBad_end (L : List It) (i : Nat) (h : L.length ≤ i) : firstBad (L.drop i) i = -1 := by
  rw [List.drop_eq_nil_iff.2 h, firstBad]
theorem firstBad_ge : ∀ (L : List It) (i : Nat), decide (0 ≤ firstBad L i) = !L.all itOk
  | [], i => rfl
  | x :: r, i => by
    rw [firstBad]
    by_cases h : itOk x
    · simp [h, firstBad_ge r (i + 1)]
    · simp [h]
def ixAnn : Ann := [(0, [0, 1, 7, 8])]
def ixSt (F : A) (L : List It) (i : Nat) : St := ⟨[.sl .sh (L.map itemS), F, .any, .any, .any, .any, .any, .v (.int .i64 L.length), .v (.int .i64 i), .any, .any, .any, .any, .any, .any, .any, .any, .any, .any], [], []⟩
include hm in
theorem indexFunc (L : List It) (hl : L.length ≤ 1000000) : Holds Tryz.prog 159 [.sl .sh (L.map itemS), .v (.func (.func 119) #[] #[])] [] (.v (.int .i64 (firstBad L 0))) [] := by
  refine holds_of (ann := ixAnn) tabOk hm Tryz.func159 (by kernel_rfl) rfl ?_
  simp +decide only [Tryz.f159, go_sem, Nat.reduceAdd, Nat.reduceMul, Nat.reduceSub]
  refine Runs.while (α := Nat) (ixSt (.v (.func (.func 119) #[] #[])) L) (fun i => L.length - i) (fun i => i ≤ L.length ∧ firstBad (L.drop i) i = firstBad L 0) 0 ⟨by omega, rfl⟩ ?_ ?_
  · simp [go_sem, ixAnn, ixSt]
  · rintro i ⟨hi, hb⟩ ih
    simp +decide only [ixSt, go_sem, Nat.reduceAdd, Nat.reduceMul, Nat.reduceSub]
    refine Runs.split (fun h => ?_) (fun h => ?_)
    · have hlt : i < L.length := by simpa using h
      simp +decide (disch := first | omega | (simp only [ll]; omega)) only [getItem hlt, if_pos, go_sem, Nat.reduceAdd, Nat.reduceMul, Nat.reduceSub]
      refine Runs.call (treeOkF hm L[i]) ?_
      simp +decide only [go_sem, Nat.reduceAdd, Nat.reduceMul, Nat.reduceSub]
      rw [firstBad_get hlt] at hb
      refine Runs.split (fun h => ?_) (fun h => ?_)
      · have hx : itOk L[i] = false := by simpa using h
        rw [hx] at hb
        simp +decide only [← hb, go_sem, Nat.reduceAdd, Nat.reduceMul, Nat.reduceSub]
        exact Runs.ret_v
      · have hx : itOk L[i] = true := by simpa using h
        rw [hx] at hb
        simp +decide (disch := first | omega | (simp only [ll]; omega)) only [if_pos, go_sem, Nat.reduceAdd, Nat.reduceMul, Nat.reduceSub]
        refine ih (i + 1) _ (by omega) ⟨by omega, hb⟩ ?_
        simp [go_sem, ixAnn, ixSt]
    · have hge : L.length ≤ i := by simpa using h
      rw [firstBad_end L i hge] at hb
      simp +decide only [← hb, go_sem, Nat.reduceAdd, Nat.reduceMul, Nat.reduceSub]
      exact Runs.ret_v
include hm in
theorem containsFunc (L : List It) (hl : L.length ≤ 1000000) : Holds Tryz.prog 118 [.sl .sh (L.map itemS), .v (.func (.func 119) #[] #[])] [] (.v (.bool (!L.all itOk))) [] := by
  refine holds_of (ann := []) tabOk hm Tryz.func118 (by kernel_rfl) rfl ?_
  simp +decide only [Tryz.f118, go_sem, Nat.reduceAdd, Nat.reduceMul, Nat.reduceSub]
  refine Runs.call (indexFunc hm L hl) ?_
  simp +decide only [go_sem, Nat.reduceAdd, Nat.reduceMul, Nat.reduceSub]
  refine Runs.ret_eq ?_
  rw [← firstBad_ge L 0]
theorem kidsOk_of {L : List It} (h : L.all itOk = true) : kidsOk L := by
  intro x hx
  have := List.all_eq_true.1 h x hx
  simp [itOk, inB] at this
  omega
include hm in
theorem implTreeOk (L : List It) (hl : L.length ≤ 1000000) : Holds Tryz.prog 64 [.sl .sh (L.map itemS)] [] (.v (.bool (treeOk L))) [] := by
  refine holds_of (ann := []) tabOk hm Tryz.func64 (by kernel_rfl) rfl ?_
  simp +decide only [Tryz.f64, go_sem, Nat.reduceAdd, Nat.reduceMul, Nat.reduceSub]
  refine Runs.call (within hm L.length 1 300) ?_
  simp +decide only [go_sem, Nat.reduceAdd, Nat.reduceMul, Nat.reduceSub]
  refine Runs.split (fun h => ?_) (fun h => ?_)
  · have h' : inB L.length 1 300 = false := by simpa using h
    simp +decide only [go_sem, Nat.reduceAdd, Nat.reduceMul, Nat.reduceSub]
    refine Runs.ret_eq ?_
    simp [treeOk, h']
  · have h' : inB L.length 1 300 = true := by simpa using h
    simp +decide only [go_sem, Nat.reduceAdd, Nat.reduceMul, Nat.reduceSub]
    refine Runs.call (containsFunc hm L hl) ?_
    simp +decide only [go_sem, Nat.reduceAdd, Nat.reduceMul, Nat.reduceSub]
    refine Runs.split (fun h => ?_) (fun h => ?_)
    · have h2 : L.all itOk = false := by simpa using h
      simp +decide only [h2, go_sem, Nat.reduceAdd, Nat.reduceMul, Nat.reduceSub]
      refine Runs.ret_eq ?_
      simp [treeOk, h', h2]
    · have h2 : L.all itOk = true := by simpa using h
      simp +decide only [h2, go_sem, Nat.reduceAdd, Nat.reduceMul, Nat.reduceSub]
      refine Runs.call (skip hm L (kidsOk_of h2) hl 13 0 0 (by omega) (by omega)) ?_
      simp +decide only [go_sem, Nat.reduceAdd, Nat.reduceMul, Nat.reduceSub]
      refine Runs.ret_eq ?_
      rw [treeOk, h', h2]
      rfl
def tkAnn : Ann := [(0, [0, 3])]
def tkSt (L : List It) (i : Nat) : St := ⟨[.sl .sh (L.map itemS), .any, .any, .v (.int .i64 i), .any, .any, .any, .any, .any, .any, .any, .any, .any, .any, .any, .any, .any, .any, .any, .any, .any, .any, .any, .any, .any, .any, .any, .any, .any, .any, .any, .any, .any, .any, .any, .any, .any, .any, .any, .any, .any, .any, .any, .any, .any, .any, .any, .any, .any, .any, .any, .any, .any, .any, .any, .any, .any, .any, .any, .any, .any, .any], [], []⟩
include hm in
theorem specTreeOk (L : List It) (hl : L.length ≤ 1000000) : Holds Tryz.prog 45 [.sl .sh (L.map itemS)] [] (.v (.bool (treeOk L))) [] := by
  refine holds_of (ann := tkAnn) tabOk hm Tryz.func45 (by kernel_rfl) rfl ?_
  simp +decide only [Tryz.f45, go_sem, Nat.reduceAdd, Nat.reduceMul, Nat.reduceSub]
  refine Runs.call (l1In hm L.length 1 300) ?_
  simp +decide only [go_sem, Nat.reduceAdd, Nat.reduceMul, Nat.reduceSub]
  refine Runs.split (fun h => ?_) (fun h => ?_)
  · have h' : inB L.length 1 300 = false := by simpa using h
    simp +decide only [go_sem, Nat.reduceAdd, Nat.reduceMul, Nat.reduceSub]
    refine Runs.ret_eq ?_
    simp [treeOk, h']
  · have h' : inB L.length 1 300 = true := by simpa using h
    simp +decide only [go_sem, Nat.reduceAdd, Nat.reduceMul, Nat.reduceSub]
    refine Runs.while (α := Nat) (tkSt L) (fun i => L.length - i) (fun i => i ≤ L.length ∧ (L.drop i).all itOk = L.all itOk) 0 ⟨by omega, rfl⟩ ?_ ?_
    · simp [go_sem, tkAnn, tkSt]
    · rintro i ⟨hi, hb⟩ ih
      simp +decide only [tkSt, go_sem, Nat.reduceAdd, Nat.reduceMul, Nat.reduceSub]
      refine Runs.split (fun h => ?_) (fun h => ?_)
      · have hlt : i < L.length := by simpa using h
        rw [List.drop_eq_getElem_cons hlt, List.all_cons] at hb
        have eg := getItem hlt
        have bad : ∀ (h : itOk L[i] = false), false = treeOk L := by
          intro h
          rw [h] at hb
          simp [treeOk, ← hb]
        generalize L[i] = x at hb eg bad
        obtain ⟨t, B, k⟩ := x
        simp only at eg
        simp +decide (disch := first | omega | (simp only [ll]; omega)) only [eg, if_pos, go_sem, Nat.reduceAdd, Nat.reduceMul, Nat.reduceSub]
        refine Runs.call (l1In hm t 0 255) ?_
        simp +decide only [go_sem, Nat.reduceAdd, Nat.reduceMul, Nat.reduceSub]
        refine Runs.split (fun h => ?_) (fun h => ?_)
        · have hx : inB t 0 255 = false := by simpa using h
          simp +decide only [hx, go_sem, Nat.reduceAdd, Nat.reduceMul, Nat.reduceSub]
          exact Runs.ret_eq (by rw [← bad (by simp [itOk, hx])])
        · have hx : inB t 0 255 = true := by simpa using h
          have h1 : 0 ≤ t ∧ t ≤ 255 := by simpa [inB] using hx
          simp +decide only [hx, Int.tmod_eq_emod_of_nonneg h1.1, go_sem, Nat.reduceAdd, Nat.reduceMul, Nat.reduceSub]
          refine Runs.split (fun h => ?_) (fun h => ?_)
          · have e : t % 32 = 31 := by simpa using h
            simp +decide only [e, go_sem, Nat.reduceAdd, Nat.reduceMul, Nat.reduceSub]
            exact Runs.ret_eq (by rw [← bad (by simp [itOk, hx, e])])
          · have e : ¬ t % 32 = 31 := by simpa using h
            simp +decide only [h, go_sem, Nat.reduceAdd, Nat.reduceMul, Nat.reduceSub]
            refine Runs.call (l1In hm k 0 300) ?_
            simp +decide only [go_sem, Nat.reduceAdd, Nat.reduceMul, Nat.reduceSub]
            refine Runs.split (fun h => ?_) (fun h => ?_)
            · have hk : inB k 0 300 = false := by simpa using h
              simp +decide only [hk, go_sem, Nat.reduceAdd, Nat.reduceMul, Nat.reduceSub]
              exact Runs.ret_eq (by rw [← bad (by simp [itOk, hx, e, hk])])
            · have hk : inB k 0 300 = true := by simpa using h
              have k1 : 0 ≤ k ∧ k ≤ 300 := by simpa [inB] using hk
              simp +decide only [hk, go_sem, Nat.reduceAdd, Nat.reduceMul, Nat.reduceSub]
              refine Runs.call (l7Made hm t h1.1 h1.2) ?_
              simp +decide only [go_sem, Nat.reduceAdd, Nat.reduceMul, Nat.reduceSub]
              refine Runs.split (fun h => ?_) (fun h => ?_)
              · simp +decide only [h, go_sem, Nat.reduceAdd, Nat.reduceMul, Nat.reduceSub]
                refine Runs.split (fun h2 => ?_) (fun h2 => ?_)
                · have hB : B ≠ [] := by rintro rfl; simp at h2
                  simp +decide only [h2, go_sem, Nat.reduceAdd, Nat.reduceMul, Nat.reduceSub]
                  exact Runs.ret_eq (by rw [← bad (by simp [itOk, hx, e, hk, h, hB])])
                · have hB : B = [] := by cases B with | nil => rfl | cons b B => simp at h2
                  simp +decide only [h2, go_sem, Nat.reduceAdd, Nat.reduceMul, Nat.reduceSub]
                  refine Runs.call (l7Made hm t h1.1 h1.2) ?_
                  simp +decide (disch := first | omega | (simp only [ll]; omega)) only [h, if_pos, go_sem, Nat.reduceAdd, Nat.reduceMul, Nat.reduceSub]
                  have hg : itOk ⟨t, B, k⟩ = true := by simp [itOk, hx, e, hk, h, hB]
                  rw [hg, Bool.true_and] at hb
                  refine ih (i + 1) _ (by omega) ⟨by omega, hb⟩ ?_
                  simp [go_sem, tkAnn, tkSt]
              · simp +decide only [h, go_sem, Nat.reduceAdd, Nat.reduceMul, Nat.reduceSub]
                refine Runs.call (l7Made hm t h1.1 h1.2) ?_
                simp +decide only [h, go_sem, Nat.reduceAdd, Nat.reduceMul, Nat.reduceSub]
                refine Runs.split (fun h2 => ?_) (fun h2 => ?_)
                · have hk0 : 0 < k := by simpa using h2
                  simp +decide only [h2, go_sem, Nat.reduceAdd, Nat.reduceMul, Nat.reduceSub]
                  exact Runs.ret_eq (by rw [← bad (by simp [itOk, hx, e, hk, h]; omega)])
                · have hk0 : ¬ 0 < k := by simpa using h2
                  simp +decide (disch := first | omega | (simp only [ll]; omega)) only [h2, if_pos, go_sem, Nat.reduceAdd, Nat.reduceMul, Nat.reduceSub]
                  have hg : itOk ⟨t, B, k⟩ = true := by simp [itOk, hx, e, hk, h]; omega
                  rw [hg, Bool.true_and] at hb
                  refine ih (i + 1) _ (by omega) ⟨by omega, hb⟩ ?_
                  simp [go_sem, tkAnn, tkSt]
      · have hge : L.length ≤ i := by simpa using h
        rw [List.drop_eq_nil_iff.2 hge] at hb
        have h2 : L.all itOk = true := hb.symm
        simp +decide only [go_sem, Nat.reduceAdd, Nat.reduceMul, Nat.reduceSub]
        refine Runs.call (l7End hm L (kidsOk_of h2) hl 13 0 0 (by omega) (by omega)) ?_
        simp +decide only [go_sem, Nat.reduceAdd, Nat.reduceMul, Nat.reduceSub]
        refine Runs.ret_eq ?_
        rw [treeOk, h', h2]
        rfl
end Go.Proofs.W

namespace Go.Proofs.W
open Go Go.AM
variable (hm : Tryz.prog.follows .mixedOrders = true)
def iterN (f : Nat → Nd × Nat) : Nat → Nat → List Nd × Nat
  | 0, n => ([], n)
  | k + 1, n => ((f n).1 :: (iterN f k (f n).2).1, (iterN f k (f n).2).2)
def nestP (L : List It) : Nat → Nat → Nd × Nat
  | 0, i => (.mk 0 [] [], i)
  | d + 1, i => match L[i]? with
    | some x => (.mk x.tag x.body (iterN (nestP L d) x.kids.toNat (i + 1)).1, (iterN (nestP L d) x.kids.toNat (i + 1)).2)
    | none => (.mk 0 [] [], i)
theorem nestP_get {L : List It} {d i : Nat} (h : i < L.length) : nestP L (d + 1) i = (.mk L[i].tag L[i].body (iterN (nestP L d) L[i].kids.toNat (i + 1)).1, (iterN (nestP L d) L[i].kids.toNat (i + 1)).2) := by
  rw [nestP, List.getElem?_eq_getElem h]
mutual
def enc : Nd → List Int
  | .mk t b ks => ib t :: (l7Len (b ++ encL ks).length ++ (b ++ encL ks))
def encL : List Nd → List Int
  | [] => []
  | n :: r => enc n ++ encL r
end
theorem encL_app (l m : List Nd) : encL (l ++ m) = encL l ++ encL m := by
  induction l with
  | nil => rfl
  | cons a l ih => simp [encL, ih, List.append_assoc]
theorem encL_one (n : Nd) : encL [n] = enc n := by simp [encL]
mutual
def wN : Nd → Nat
  | .mk _ b ks => b.length + 4 + wNL ks
def wNL : List Nd → Nat
  | [] => 0
  | n :: r => wN n + wNL r
end
theorem wNL_app (l m : List Nd) : wNL (l ++ m) = wNL l + wNL m := by
  induction l with
  | nil => simp [wNL]
  | cons a l ih => simp [wNL, ih]; omega
mutual
theorem enc_le : ∀ n, (enc n).length ≤ wN n
  | .mk t b ks => by
    have := encL_le ks
    have h2 := l7Len_length (b ++ encL ks).length
    simp only [enc, wN, List.length_cons, List.length_append] at h2 ⊢
    omega
theorem encL_le : ∀ l, (encL l).length ≤ wNL l
  | [] => by simp [encL, wNL]
  | n :: r => by
    have := enc_le n
    have h2 := encL_le r
    simp only [encL, wNL, List.length_append]
    omega
end
mutual
def okN : Nd → Prop
  | .mk _ b ks => (ks = [] ∨ b = []) ∧ okNL ks
def okNL : List Nd → Prop
  | [] => True
  | n :: r => okN n ∧ okNL r
end
theorem okN_get : ∀ {ks : List Nd} {i : Nat} (h : i < ks.length), okNL ks → okN ks[i]
  | a :: ks, 0, h, hb => hb.1
  | a :: ks, i + 1, h, hb => by
    have := okN_get (ks := ks) (i := i) (by simpa using h) hb.2
    simpa using this
def wI (L : List It) (i : Nat) : Nat := ((L.take i).map fun x => x.body.length + 4).sum
theorem wI_succ {L : List It} {i : Nat} (h : i < L.length) : wI L (i + 1) = wI L i + (L[i].body.length + 4) := by
  rw [wI, List.take_succ_eq_append_getElem h, List.map_append, List.sum_append]
  rw [wI, List.map_cons, List.map_nil, List.sum_cons, List.sum_nil, Nat.add_zero]
theorem sum_take_le (l : List Nat) (i : Nat) : (l.take i).sum ≤ l.sum := by
  have := congrArg List.sum (List.take_append_drop i l)
  rw [List.sum_append] at this
  omega
theorem wI_le (L : List It) (i : Nat) : wI L i ≤ wI L L.length := by
  rw [wI, wI, List.take_length, List.map_take]
  exact sum_take_le _ _
theorem iterN_wt {L : List It} {f : Nat → Nd × Nat} {g : Nat → Option Nat} (hf : ∀ i n, g i = some n → (f i).2 = n ∧ wN (f i).1 + wI L i = wI L n) :
    ∀ k i n, iterO g k i = some n → (iterN f k i).2 = n ∧ wNL (iterN f k i).1 + wI L i = wI L n ∧ (iterN f k i).1.length = k
  | 0, i, n, h => by
    simp [iterO] at h; subst h; simp [iterN, wNL]
  | k + 1, i, n, h => by
    simp only [iterO] at h
    cases e : g i with
    | none => rw [e] at h; simp at h
    | some j =>
      rw [e] at h
      obtain ⟨h1, h2⟩ := hf i j e
      have h3 := iterN_wt hf k j n h
      simp only [iterN, wNL, List.length_cons, h1]
      exact ⟨h3.1, by omega, by omega⟩
theorem nestP_wt {L : List It} : ∀ d i n, endP L d i = some n → (nestP L d i).2 = n ∧ wN (nestP L d i).1 + wI L i = wI L n
  | 0, i, n, h => by simp [endP] at h
  | d + 1, i, n, h => by
    have hlt : i < L.length := by
      rcases Nat.lt_or_ge i L.length with h1 | h1
      · exact h1
      · rw [endP_none h1] at h; simp at h
    rw [endP_some hlt] at h
    have := iterN_wt (L := L) (f := nestP L d) (fun i n => nestP_wt d i n) _ _ _ h
    rw [nestP_get hlt]
    simp only [wN]
    have h2 := wI_succ hlt
    refine ⟨this.1, ?_⟩
    have h3 := this.2.1
    omega
theorem iterN_ok {f : Nat → Nd × Nat} (hf : ∀ i, okN (f i).1) : ∀ k i, okNL (iterN f k i).1
  | 0, i => trivial
  | k + 1, i => ⟨hf i, iterN_ok hf k _⟩
theorem nestP_ok {L : List It} (h : L.all itOk = true) : ∀ d i, okN (nestP L d i).1
  | 0, i => ⟨.inl rfl, trivial⟩
  | d + 1, i => by
    rcases Nat.lt_or_ge i L.length with h1 | h1
    · rw [nestP_get h1]
      refine ⟨?_, iterN_ok (fun i => nestP_ok h d i) _ _⟩
      have hx := List.all_eq_true.1 h L[i] (List.getElem_mem h1)
      simp only [itOk, Bool.and_eq_true] at hx
      obtain ⟨_, hx⟩ := hx
      by_cases hm : made L[i].tag = true
      · rw [if_pos hm] at hx
        exact .inr (by simpa using hx)
      · rw [if_neg hm] at hx
        refine .inl ?_
        have : L[i].kids = 0 := by simpa using hx
        rw [this]
        rfl
    · rw [nestP, List.getElem?_eq_none h1]
      exact ⟨.inl rfl, trivial⟩
mutual
def nodeM : Nd → A
  | .mk t b ks => .agg [.v (.int .i64 t), .sl .sh (b.map u8A), .sl (.ow 3) (nodesM ks)]
def nodesM : List Nd → List A
  | [] => []
  | n :: r => nodeM n :: nodesM r
end
theorem nodesM_eq (l : List Nd) : nodesM l = l.map nodeM := by induction l with
  | nil => rfl
  | cons a l ih => simp [nodesM, ih]
theorem nodesM_length (l : List Nd) : (nodesM l).length = l.length := by rw [nodesM_eq, List.length_map]
theorem nodesM_app (l : List Nd) (n : Nd) : nodesM (l ++ [n]) = nodesM l ++ [nodeM n] := by simp [nodesM_eq]
mutual
theorem dn_nodeM : ∀ n, (nodeM n).dn = nodeS n
  | .mk t b ks => by simp [nodeM, nodeS, A.dn, dnL, dn_u8A, dn_nodesM ks]
theorem dn_nodesM : ∀ l, dnL (nodesM l) = nodesS l
  | [] => rfl
  | n :: r => by simp [nodesM, nodesS, dnL, dn_nodeM n, dn_nodesM r]
end
theorem tk_nodesM (l : List Nd) : List.take l.length (nodesM l) = nodesM l := by rw [← nodesM_length, List.take_length]
theorem own_ow {k : Nat} : (Sh.ow k).own = true := rfl
theorem own_sh : Sh.sh.own = false := rfl
attribute [go_sem] own_ow own_sh tk_nodesM nodesM_length dn_nodeM dn_nodesM
def nsAnn : Ann := [(0, [0, 4, 6, 7, 26, 27])]
def nsSch : Sched := .take 0 (.take 1 (.take 2 (.take 3 (.take 5 (.take 6 (.take 7 (.take 8 (.ld 4 (.ld 9 (.alt 10 (.alt 11 (.alt 12 .fin .nil) .nil) (.alt 11 (.alt 10 (.alt 12 .fin .nil) .nil) .nil)))))))))))
def nsSt (L : List It) (t : Int) (b : List Int) (k : Int) (p : List Nd × Nat) : St := match p.1 with
  | [] => ⟨[.sl .sh (L.map itemS), .any, .any, .any, .ref (.l 0) 0 0 1, .any, .ref (.l 1) 0 0 1, .v (.int .i64 p.2), .any, .any, .any, .any, .any, .any, .any, .any, .any, .any, .any, .any, .any, .any, .any, .any, .any, .any, .v (.int .i64 k), .v (.int .i64 0), .any, .any, .any, .any, .any, .any, .any, .any, .any, .any, .any, .any, .any, .any, .any, .any, .any], [(0, ⟨true, 3, true, [.agg [.v (.int .i64 0), .v (.slice none 0 0), .v (.slice none 0 0)]]⟩), (1, ⟨true, 3, true, [.agg [.v (.int .i64 t), .sl .sh (b.map u8A), .v (.slice none 0 0)]]⟩)], []⟩
  | x :: r => ⟨[.sl .sh (L.map itemS), .any, .any, .any, .ref (.l 0) 0 0 1, .any, .ref (.l 1) 0 0 1, .v (.int .i64 p.2), .any, .any, .any, .any, .any, .any, .any, .any, .any, .any, .any, .any, .any, .any, .any, .any, .any, .any, .v (.int .i64 k), .v (.int .i64 (r.length + 1)), .any, .any, .any, .any, .any, .any, .any, .any, .any, .any, .any, .any, .any, .any, .any, .any, .any], [(0, ⟨true, 3, true, [.agg [.v (.int .i64 0), .v (.slice none 0 0), .v (.slice none 0 0)]]⟩), (1, ⟨true, 3, true, [.agg [.v (.int .i64 t), .sl .sh (b.map u8A), .ms (.l 2) 0 (r.length + 1) (r.length + 1)]]⟩), (2, ⟨true, 3, false, nodesM (x :: r)⟩)], []⟩
attribute [local go_sem] nsSch
set_option maxRecDepth 10000 in
set_option maxHeartbeats 2000000 in
include hm in
theorem nested (L : List It) (hk : kidsOk L) (hl : L.length ≤ 1000000) : ∀ (d i n : Nat), endP L d i = some n → Holds Tryz.prog 65 [.sl .sh (L.map itemS), .v (.int .i64 i)] [] (.tup [nodeM (nestP L d i).1, .v (.int .i64 (nestP L d i).2)]) [] := by
  intro d
  induction d with
  | zero => intro i n h; simp [endP] at h
  | succ d IH =>
    intro i n he
    have hlt : i < L.length := by
      rcases Nat.lt_or_ge i L.length with h1 | h1
      · exact h1
      · rw [endP_none h1] at he; simp at he
    obtain ⟨k1, k2⟩ := hk L[i] (List.getElem_mem hlt)
    have hg := getItem hlt
    rw [endP_some hlt] at he
    rw [nestP_get hlt]
    generalize L[i] = x at k1 k2 hg he
    obtain ⟨t, b, k⟩ := x
    simp only at k1 k2 hg he ⊢
    refine holds_of (ann := nsAnn) tabOk hm Tryz.func65 (by kernel_rfl) rfl ?_
    simp +decide (disch := first | omega | (simp only [ll]; omega)) only [Tryz.f65, if_pos, go_sem, Nat.reduceAdd, Nat.reduceMul, Nat.reduceSub]
    refine Runs.draw (st1 := ?s1) (draws_by (ann := nsAnn) tabOk nsSch (by kernel_rfl) ?p1) ?q1
    case p1 =>
      intro K r X hK
      simp +decide (disch := first | omega | (simp only [ll]; omega)) only [hg, if_pos, go_sem, Nat.reduceAdd, Nat.reduceMul, Nat.reduceSub]
      exact hK
    case q1 =>
      simp +decide (disch := first | omega | (simp only [ll]; omega)) only [hg, if_pos, go_sem, Nat.reduceAdd, Nat.reduceMul, Nat.reduceSub]
      generalize eq : iterN (nestP L d) k.toNat (i + 1) = q
      refine Runs.while (α := List Nd × Nat) (nsSt L t b k) (fun p => k.toNat - p.1.length) (fun p => p.1.length ≤ k.toNat ∧ p.2 ≤ L.length ∧ iterO (endP L d) (k.toNat - p.1.length) p.2 = some n ∧ q = (p.1 ++ (iterN (nestP L d) (k.toNat - p.1.length) p.2).1, (iterN (nestP L d) (k.toNat - p.1.length) p.2).2)) ([], i + 1) ⟨by simp, by simp only; omega, he, by simp [eq]⟩ ?_ ?_
      · simp [go_sem, nsAnn, nsSt]
      · rintro ⟨acc, m⟩ ⟨ha, hm1, ho, hq⟩ ih
        simp only at ha hm1 ho hq
        cases acc with
        | nil =>
          simp +decide only [nsSt, go_sem, Nat.reduceAdd, Nat.reduceMul, Nat.reduceSub]
          refine Runs.split (fun h => ?_) (fun h => ?_)
          · have hj : 0 < k := by simpa using h
            rw [show k.toNat - ([] : List Nd).length = (k.toNat - 1) + 1 by simp; omega, iterO] at ho
            rw [show k.toNat - ([] : List Nd).length = (k.toNat - 1) + 1 by simp; omega, iterN] at hq
            cases e : endP L d m with
            | none => rw [e] at ho; simp at ho
            | some m2 =>
              rw [e] at ho
              have hc := IH m m2 e
              have hw := (nestP_wt d m m2 e).1
              have hle := endP_le _ _ _ e
              rw [hw] at hc hq
              generalize (nestP L d m).1 = nd at hc hq
              obtain ⟨t', b', ks'⟩ := nd
              rw [nodeM] at hc
              simp +decide (disch := first | omega | (simp only [ll]; omega)) only [if_pos, go_sem, Nat.reduceAdd, Nat.reduceMul, Nat.reduceSub]
              refine Runs.call hc ?_
              simp +decide (maxSteps := 9^7) (disch := first | omega | (simp only [ll]; omega)) only [if_pos, go_sem, Nat.reduceAdd, Nat.reduceMul, Nat.reduceSub]
              refine ih ([.mk t' b' ks'], m2) _ (by simp; omega) ⟨by simp; omega, by simp only; omega, by simpa using ho, by simpa using hq⟩ ?_
              simp [go_sem, nsAnn, nsSt, nodesM, nodeM]
          · have hj : ¬ 0 < k := by simpa using h
            rw [show k.toNat - ([] : List Nd).length = 0 by simp; omega, iterN] at hq
            simp +decide only [go_sem, Nat.reduceAdd, Nat.reduceMul, Nat.reduceSub]
            subst hq
            refine Runs.ret ?_ rfl
            simp only [List.append_nil, nodeM, nodesM]
            exact .tup (.agg (.same _ (.same _ (.nils _ .nil))) (.same _ .nil)) .nil
        | cons x r =>
          simp only [List.length_cons] at ha ho hq
          have hw1 : IntKind.i64.wrap ((r.length : Int) + 1 + 1) = (r.length : Int) + 1 + 1 := wrap_i64 (by omega) (by omega)
          simp +decide only [nsSt, go_sem, Nat.reduceAdd, Nat.reduceMul, Nat.reduceSub]
          refine Runs.split (fun h => ?_) (fun h => ?_)
          · have hj : (r.length : Int) + 1 < k := by simpa using h
            rw [show k.toNat - (r.length + 1) = (k.toNat - (r.length + 1) - 1) + 1 by omega, iterO] at ho
            rw [show k.toNat - (r.length + 1) = (k.toNat - (r.length + 1) - 1) + 1 by omega, iterN] at hq
            cases e : endP L d m with
            | none => rw [e] at ho; simp at ho
            | some m2 =>
              rw [e] at ho
              have hc := IH m m2 e
              have hw := (nestP_wt d m m2 e).1
              have hle := endP_le _ _ _ e
              rw [hw] at hc hq
              generalize (nestP L d m).1 = nd at hc hq
              obtain ⟨t', b', ks'⟩ := nd
              rw [nodeM] at hc
              simp +decide (disch := first | omega | (simp only [ll]; omega)) only [if_pos, go_sem, Nat.reduceAdd, Nat.reduceMul, Nat.reduceSub]
              refine Runs.call hc ?_
              simp +decide (maxSteps := 9^7) (disch := first | omega | (simp only [ll]; omega)) only [if_pos, go_sem, Nat.reduceAdd, Nat.reduceMul, Nat.reduceSub]
              refine ih (x :: r ++ [.mk t' b' ks'], m2) _ (by simp; omega) ⟨by simp; omega, by simp only; omega, ?_, ?_⟩ ?_
              · simp only [List.length_append, List.length_cons, List.length_nil, List.cons_append]
                rw [← ho, show k.toNat - (r.length + (0 + 1) + 1) = k.toNat - (r.length + 1) - 1 by omega]
              · simp only [List.length_append, List.length_cons, List.length_nil, List.cons_append, List.append_assoc, List.nil_append]
                rw [hq, show k.toNat - (r.length + (0 + 1) + 1) = k.toNat - (r.length + 1) - 1 by omega]
                simp
              · simp [go_sem, nsAnn, nsSt, nodesM, nodeM, nodesM_app, hw1]
          · have hj : ¬ (r.length : Int) + 1 < k := by simpa using h
            rw [show k.toNat - (r.length + 1) = 0 by omega, iterN] at hq
            simp +decide (disch := first | omega | (simp only [ll]; omega)) only [if_pos, go_sem, Nat.reduceAdd, Nat.reduceMul, Nat.reduceSub]
            subst hq
            refine Runs.ret_eq ?_
            simp only [List.append_nil, nodeM]
            rw [show r.length + 1 = (x :: r).length from rfl, tk_nodesM]
end Go.Proofs.W

namespace Go.Proofs.W
open Go Go.AM
variable (hm : Tryz.prog.follows .mixedOrders = true)
theorem bytePos {n : Nat} : IntKind.u8.wrap (n : Int) = ib n := rfl
def lwAnn : Ann := [(0, [0, 1, 6, 7, 8])]
def lwSch : Sched := .take 0 (.take 1 (.take 2 (.take 3 (.take 7 (.take 8 (.ld 4 (.alt 5 (.alt 6 (.alt 9 (.alt 10 (.take 11 .fin) .nil) .nil) (.alt 9 (.alt 6 (.alt 10 (.take 11 .fin) .nil) .nil) .nil)) (.alt 9 (.alt 5 (.alt 6 (.alt 10 (.take 11 .fin) .nil) .nil) .nil) .nil))))))))
def lwSt (L : List It) (i : Nat) (b : List Int) (p : List Nd × Nat) : St := ⟨[.sl .sh (L.map itemS), .v (.int .i64 i), .any, .any, .any, .any, .ms (.l 0) 0 (b ++ encL p.1).length (b ++ encL p.1).length, .v (.int .i64 p.2), .v (.int .i64 p.1.length), .any, .any, .any, .any, .any, .any, .any, .any, .any, .any, .any, .any, .any, .any, .any, .any, .any, .any, .any, .any, .any, .any, .any, .any, .any, .any, .any, .any, .any, .any, .any, .any, .any, .any, .any, .any, .any, .any, .any, .any, .any, .any, .any, .any, .any], [(0, ⟨true, 1, false, (b ++ encL p.1).map u8A⟩)], []⟩
attribute [local go_sem] lwSch
set_option maxRecDepth 10000 in
set_option maxHeartbeats 2000000 in
include hm in
theorem l7Write (L : List It) (hk : kidsOk L) (hl : L.length ≤ 1000000) (hwl : wI L L.length ≤ 1000000) : ∀ (d i n : Nat), endP L d i = some n → Holds Tryz.prog 46 [.sl .sh (L.map itemS), .v (.int .i64 i)] [] (.tup [.sl (.ow 1) ((enc (nestP L d i).1).map u8A), .v (.int .i64 (nestP L d i).2)]) [] := by
  intro d
  induction d with
  | zero => intro i n h; simp [endP] at h
  | succ d IH =>
    intro i n he
    have hlt : i < L.length := by
      rcases Nat.lt_or_ge i L.length with h1 | h1
      · exact h1
      · rw [endP_none h1] at he; simp at he
    obtain ⟨k1, k2⟩ := hk L[i] (List.getElem_mem hlt)
    have hg := getItem hlt
    have hwt := (nestP_wt (d + 1) i n he).2
    have hwn := wI_le L n
    rw [endP_some hlt] at he
    rw [nestP_get hlt] at hwt ⊢
    generalize L[i] = x at k1 k2 hg he hwt
    obtain ⟨t, b, k⟩ := x
    simp only [wN] at k1 k2 hg he hwt ⊢
    refine holds_of (ann := lwAnn) tabOk hm Tryz.func46 (by kernel_rfl) rfl ?_
    simp +decide (disch := first | omega | (simp only [ll]; omega)) only [Tryz.f46, hg, if_pos, go_sem, Nat.reduceAdd, Nat.reduceMul, Nat.reduceSub]
    refine Runs.call (l1Bytes hm b (by omega)) ?_
    simp +decide (disch := first | omega | (simp only [ll]; omega)) only [if_pos, go_sem, Nat.reduceAdd, Nat.reduceMul, Nat.reduceSub]
    generalize eq : iterN (nestP L d) k.toNat (i + 1) = q at hwt
    refine Runs.while (α := List Nd × Nat) (lwSt L i b) (fun p => k.toNat - p.1.length) (fun p => p.1.length ≤ k.toNat ∧ p.2 ≤ L.length ∧ iterO (endP L d) (k.toNat - p.1.length) p.2 = some n ∧ q = (p.1 ++ (iterN (nestP L d) (k.toNat - p.1.length) p.2).1, (iterN (nestP L d) (k.toNat - p.1.length) p.2).2)) ([], i + 1) ⟨by simp, by simp only; omega, he, by simp [eq]⟩ ?_ ?_
    · simp [go_sem, lwAnn, lwSt, encL]
    · rintro ⟨acc, m⟩ ⟨ha, hm1, ho, hq⟩ ih
      simp only at ha hm1 ho hq
      have hqw : wNL q.1 = wNL acc + wNL (iterN (nestP L d) (k.toNat - acc.length) m).1 := by rw [hq, wNL_app]
      have hacc := encL_le acc
      have hlen : (b ++ encL acc).length = b.length + (encL acc).length := List.length_append
      simp +decide (disch := first | omega | (simp only [ll]; omega)) only [lwSt, hg, if_pos, go_sem, Nat.reduceAdd, Nat.reduceMul, Nat.reduceSub]
      refine Runs.split (fun h => ?_) (fun h => ?_)
      · have hj : (acc.length : Int) < k := by simpa using h
        rw [show k.toNat - acc.length = (k.toNat - acc.length - 1) + 1 by omega, iterO] at ho
        rw [show k.toNat - acc.length = (k.toNat - acc.length - 1) + 1 by omega, iterN] at hq hqw
        cases e : endP L d m with
        | none => rw [e] at ho; simp at ho
        | some m2 =>
          rw [e] at ho
          have hc := IH m m2 e
          have hw := (nestP_wt d m m2 e).1
          have hle := endP_le _ _ _ e
          rw [hw] at hc hq
          simp only [wNL] at hqw
          generalize (nestP L d m).1 = nd at hc hq hqw
          have hnd := enc_le nd
          simp +decide (disch := first | omega | (simp only [ll]; omega)) only [if_pos, go_sem, Nat.reduceAdd, Nat.reduceMul, Nat.reduceSub]
          refine Runs.call hc ?_
          simp +decide (maxSteps := 9^7) (disch := first | omega | (simp only [ll]; omega)) only [hlen, if_pos, go_sem, Nat.reduceAdd, Nat.reduceMul, Nat.reduceSub]
          refine ih (acc ++ [nd], m2) _ (by simp; omega) ⟨by simp; omega, by simp only; omega, ?_, ?_⟩ ?_
          · simp only [List.length_append, List.length_cons, List.length_nil]
            rw [← ho, show k.toNat - (acc.length + (0 + 1)) = k.toNat - acc.length - 1 by omega]
          · simp only [List.length_append, List.length_cons, List.length_nil, List.append_assoc]
            rw [hq, show k.toNat - (acc.length + (0 + 1)) = k.toNat - acc.length - 1 by omega]
            simp
          · simp [go_sem, lwAnn, lwSt, encL_app, encL_one, Nat.add_assoc]
      · have hj : ¬ (acc.length : Int) < k := by simpa using h
        rw [show k.toNat - acc.length = 0 by omega, iterN, List.append_nil] at hq
        subst hq
        have h7 := l7Len_length (b ++ encL acc).length
        have h8 := l7Len_length (b.length + (encL acc).length)
        simp only at hwt hqw
        simp +decide only [go_sem, Nat.reduceAdd, Nat.reduceMul, Nat.reduceSub]
        refine Runs.draw (st1 := ?s1) (draws_by (ann := lwAnn) tabOk lwSch (by kernel_rfl) ?p1) ?q1
        case p1 =>
          intro K r X hK
          have h7L := l7Length hm (b ++ encL acc).length (by omega)
          simp +decide (disch := first | omega | (simp only [ll]; omega)) only [hg, if_pos, go_sem, Nat.reduceAdd, Nat.reduceMul, Nat.reduceSub]
          repeat' apply And.intro
          all_goals
            refine Runs.call h7L ?_
            simp +decide (disch := first | omega | (simp only [ll]; omega)) only [hlen, if_pos, go_sem, Nat.reduceAdd, Nat.reduceMul, Nat.reduceSub]
            exact hK
        case q1 =>
          simp +decide (disch := first | omega | (simp only [ll]; omega)) only [hlen, if_pos, go_sem, Nat.reduceAdd, Nat.reduceMul, Nat.reduceSub]
          refine Runs.ret_eq ?_
          simp [enc, ib, u8A]
end Go.Proofs.W
