import Derived.Test.YtbodkdhlncdhpaaWalk1
set_option linter.unusedVariables false
set_option linter.unusedSimpArgs false
namespace Go.Proofs.W
open Go Go.AM Go.Proofs.G
set_option linter.unusedSimpArgs false
set_option linter.unusedVariables false
variable (hm : Try.prog.follows .mixedOrders = true)
attribute [local go_sem] edA prA cvA ptA keyA

theorem bits_pos {N : List Int} (h : inB (bitsZ N) 128 512 = true) : 0 < N.length := by
  rcases Nat.eq_zero_or_pos N.length with h0 | h0
  · have := inB_t h
    simp [bitsZ, h0] at this
  · exact h0
theorem curve_n {k : GCv} (h : curveB k = true) : 0 ≤ k.n ∧ k.n ≤ 2097152 := by
  simp only [curveB, Bool.and_eq_true] at h
  obtain ⟨⟨⟨⟨⟨⟨⟨⟨⟨_, _⟩, _⟩, _⟩, _⟩, c6⟩, _⟩, _⟩, _⟩, _⟩ := h
  have := inB_t c6
  omega
theorem curve_p {k : GCv} (h : curveB k = true) : PrimeN k.p.toNat := by
  simp only [curveB, Bool.and_eq_true] at h
  obtain ⟨⟨⟨⟨⟨⟨⟨⟨⟨_, _⟩, c3⟩, _⟩, _⟩, _⟩, _⟩, _⟩, _⟩, _⟩ := h
  exact (primeZ_of c3).2.2
theorem curve_d {k : GCv} (h : curveB k = true) : (4 * (k.a * k.a % k.p) * k.a + 27 * (k.b * k.b % k.p)) % k.p ≠ 0 := by
  simp only [curveB, Bool.and_eq_true] at h
  obtain ⟨⟨⟨⟨⟨⟨⟨⟨⟨_, _⟩, _⟩, _⟩, _⟩, _⟩, _⟩, c8⟩, _⟩, _⟩ := h
  simpa using c8
theorem same_rsa (k : GKey) : keySame k ⟨1, k.N, k.e, cv0, pt0, ed0, pr0⟩ = (decide (k.kind = 1) && (noCurve k && noEd k)) := by
  simp only [keySame, noCurve, noEd, decide_true, Bool.true_and, Bool.and_assoc]
theorem same_curve (k : GKey) : keySame k ⟨2, [], 0, k.cv, k.q, ed0, pr0⟩ = (decide (k.kind = 2) && (noRsa k && noEd k)) := by
  have e1 : eqCv k.cv k.cv = true := by simp [eqCv]
  have e2 : eqPt k.q k.q = true := by simp [eqPt]
  have e3 : decide (k.N = []) = decide (k.N.length = 0) := by simp
  simp only [keySame, noRsa, noEd, e1, e2, e3, Bool.true_and, Bool.and_assoc]
theorem same_ed (k : GKey) : keySame k ⟨3, [], 0, cv0, pt0, k.ed, k.a⟩ = (decide (k.kind = 3) && (noRsa k && noCurve k)) := by
  have e1 : eqEd k.ed k.ed = true := by simp [eqEd]
  have e2 : eqPr k.a k.a = true := by simp [eqPr]
  have e3 : decide (k.N = []) = decide (k.N.length = 0) := by simp
  simp only [keySame, noRsa, noCurve, e1, e2, e3, Bool.and_true, Bool.and_assoc]
set_option maxRecDepth 10000 in
set_option maxHeartbeats 8000000 in
include hm in
theorem sKeyOk (k : GKey) (h3 : k.N.length ≤ 9223372036854775807) : Holds Try.prog 14 [keyA k] [] (.v (.bool (keyB k))) [] := by
  refine holds_ref (ann := []) tabOk hm (byL [] [1000001]) Try.func14 (by kernel_rfl) rfl ?_
  have n1 := noCurveS hm k
  have n2 := noEdS hm k
  have n3 := noRsaS hm k
  have nN := sNatOk hm k.N h3
  have nP := sPointOk hm k.cv k.q
  have nE := sPairOk hm k.ed k.a
  simp (decide := true) (maxSteps := 2000000) only [Try.f14, go_sem, Nat.reduceAdd, Nat.reduceMul, Nat.reduceSub]
  refine Runs.split (fun k1 => ?_) (fun k1 => ?_)
  · have k1' : k.kind = 1 := by simpa using k1
    simp (decide := true) (maxSteps := 2000000) only [go_sem, Nat.reduceAdd, Nat.reduceMul, Nat.reduceSub]
    refine Runs.call n1 ?_
    simp (decide := true) (maxSteps := 2000000) only [go_sem, Nat.reduceAdd, Nat.reduceMul, Nat.reduceSub]
    refine Runs.split (fun c1 => ?_) (fun c1 => ?_)
    case _ =>
      simp (decide := true) (maxSteps := 2000000) only [go_sem, Nat.reduceAdd, Nat.reduceMul, Nat.reduceSub]
      refine Runs.call n2 ?_
      simp (decide := true) (maxSteps := 2000000) only [go_sem, Nat.reduceAdd, Nat.reduceMul, Nat.reduceSub]
      refine Runs.split (fun c2 => ?_) (fun c2 => ?_)
      case _ =>
        simp (decide := true) (maxSteps := 2000000) only [go_sem, Nat.reduceAdd, Nat.reduceMul, Nat.reduceSub]
        refine Runs.call nN ?_
        simp (decide := true) (maxSteps := 2000000) only [go_sem, Nat.reduceAdd, Nat.reduceMul, Nat.reduceSub]
        refine Runs.split (fun c3 => ?_) (fun c3 => ?_)
        case _ =>
          simp (decide := true) (maxSteps := 2000000) only [go_sem, Nat.reduceAdd, Nat.reduceMul, Nat.reduceSub]
          refine Runs.call (l1Bits hm k.N c3) ?_
          simp (decide := true) (maxSteps := 2000000) only [go_sem, Nat.reduceAdd, Nat.reduceMul, Nat.reduceSub]
          refine Runs.call (l1In hm (bitsZ k.N) 128 512) ?_
          simp (decide := true) (maxSteps := 2000000) only [go_sem, Nat.reduceAdd, Nat.reduceMul, Nat.reduceSub]
          refine Runs.split (fun c4 => ?_) (fun c4 => ?_)
          case _ =>
            have hpos := bits_pos c4
            have hlow : lowD k.N = k.N[0] := by simp [lowD, List.getD, hpos]
            have hg := getIntA (N := k.N) (i := 0) hpos
            have hb : decide ((0 : Int) ≤ 0 ∧ (0 : Int) < k.N.length) = true := by simp; omega
            simp (decide := true) (maxSteps := 2000000) (disch := first | omega | (simp only [List.length_map, List.length_cons, List.length_append, List.length_nil]; omega)) only [hg, hb, if_pos, go_sem, Nat.reduceAdd, Nat.reduceMul, Nat.reduceSub]
            refine Runs.split (fun c5 => ?_) (fun c5 => ?_)
            case _ =>
              have c5' : (lowD k.N).tmod 2 = 1 := by rw [hlow]; simpa using c5
              simp (decide := true) (maxSteps := 2000000) only [go_sem, Nat.reduceAdd, Nat.reduceMul, Nat.reduceSub]
              refine Runs.call (l1In hm k.e 3 65537) ?_
              simp (decide := true) (maxSteps := 2000000) only [go_sem, Nat.reduceAdd, Nat.reduceMul, Nat.reduceSub]
              refine Runs.split (fun c6 => ?_) (fun c6 => ?_)
              case _ =>
                simp (decide := true) (maxSteps := 2000000) only [go_sem, Nat.reduceAdd, Nat.reduceMul, Nat.reduceSub]
                exact Runs.ret_eq (by simp [keyB, k1', c1, c2, c3, c4, c5', c6])
              simp (decide := true) (maxSteps := 2000000) only [go_sem, Nat.reduceAdd, Nat.reduceMul, Nat.reduceSub]
              exact Runs.ret_eq (by rw [show keyB k = false by simp [keyB, k1', c6]])
            have : ¬ (lowD k.N).tmod 2 = 1 := by rw [hlow]; simpa using c5
            simp (decide := true) (maxSteps := 2000000) only [go_sem, Nat.reduceAdd, Nat.reduceMul, Nat.reduceSub]
            exact Runs.ret_eq (by rw [show keyB k = false by simp [keyB, k1', this]])
          simp (decide := true) (maxSteps := 2000000) only [go_sem, Nat.reduceAdd, Nat.reduceMul, Nat.reduceSub]
          exact Runs.ret_eq (by rw [show keyB k = false by simp [keyB, k1', c4]])
        simp (decide := true) (maxSteps := 2000000) only [go_sem, Nat.reduceAdd, Nat.reduceMul, Nat.reduceSub]
        exact Runs.ret_eq (by rw [show keyB k = false by simp [keyB, k1', c3]])
      simp (decide := true) (maxSteps := 2000000) only [go_sem, Nat.reduceAdd, Nat.reduceMul, Nat.reduceSub]
      exact Runs.ret_eq (by rw [show keyB k = false by simp [keyB, k1', c2]])
    simp (decide := true) (maxSteps := 2000000) only [go_sem, Nat.reduceAdd, Nat.reduceMul, Nat.reduceSub]
    exact Runs.ret_eq (by rw [show keyB k = false by simp [keyB, k1', c1]])
  · have k1' : ¬ k.kind = 1 := by simpa using k1
    simp (decide := true) (maxSteps := 2000000) only [go_sem, Nat.reduceAdd, Nat.reduceMul, Nat.reduceSub]
    refine Runs.split (fun k2 => ?_) (fun k2 => ?_)
    · have k2' : k.kind = 2 := by simpa using k2
      simp (decide := true) (maxSteps := 2000000) only [go_sem, Nat.reduceAdd, Nat.reduceMul, Nat.reduceSub]
      refine Runs.call n3 ?_
      simp (decide := true) (maxSteps := 2000000) only [go_sem, Nat.reduceAdd, Nat.reduceMul, Nat.reduceSub]
      refine Runs.split (fun c1 => ?_) (fun c1 => ?_)
      case _ =>
        simp (decide := true) (maxSteps := 2000000) only [go_sem, Nat.reduceAdd, Nat.reduceMul, Nat.reduceSub]
        refine Runs.call n2 ?_
        simp (decide := true) (maxSteps := 2000000) only [go_sem, Nat.reduceAdd, Nat.reduceMul, Nat.reduceSub]
        refine Runs.split (fun c2 => ?_) (fun c2 => ?_)
        case _ =>
          simp (decide := true) (maxSteps := 2000000) only [go_sem, Nat.reduceAdd, Nat.reduceMul, Nat.reduceSub]
          refine Runs.call nP ?_
          simp (decide := true) (maxSteps := 2000000) only [go_sem, Nat.reduceAdd, Nat.reduceMul, Nat.reduceSub]
          refine Runs.split (fun c3 => ?_) (fun c3 => ?_)
          case _ =>
            have c3' : curveB k.cv = true ∧ onZ k.cv.p k.cv.a k.cv.b k.q = true := by simpa using c3
            simp (decide := true) (maxSteps := 2000000) only [go_sem, Nat.reduceAdd, Nat.reduceMul, Nat.reduceSub]
            refine Runs.split (fun c4 => ?_) (fun c4 => ?_)
            case _ =>
              have c4' : k.q.far = false := by simpa using c4
              have kin := curve_in c3'.1
              have hp : 0 < k.cv.p := by have := kin.1; omega
              have hn : ((k.cv.n.toNat : Nat) : Int) = k.cv.n := Int.toNat_of_nonneg (curve_n c3'.1).1
              have hM := l3Mul hm k.cv k.cv.n.toNat k.q kin (onZ_in hp c3'.2) (by have := (curve_n c3'.1).2; omega)
              rw [hn] at hM
              simp (decide := true) (maxSteps := 2000000) only [go_sem, Nat.reduceAdd, Nat.reduceMul, Nat.reduceSub]
              refine Runs.call hM ?_
              simp (decide := true) (maxSteps := 2000000) only [go_sem, Nat.reduceAdd, Nat.reduceMul, Nat.reduceSub]
              exact Runs.ret_eq (by simp [keyB, k2', c1, c2, c3', c4'])
            have c4' : k.q.far = true := by simpa using c4
            simp (decide := true) (maxSteps := 2000000) only [go_sem, Nat.reduceAdd, Nat.reduceMul, Nat.reduceSub]
            exact Runs.ret_eq (by rw [show keyB k = false by simp [keyB, k2', c4']])
          have : (curveB k.cv && onZ k.cv.p k.cv.a k.cv.b k.q) = false := c3
          simp (decide := true) (maxSteps := 2000000) only [go_sem, Nat.reduceAdd, Nat.reduceMul, Nat.reduceSub]
          exact Runs.ret_eq (by rw [show keyB k = false by simp only [keyB, k2', this]; simp])
        simp (decide := true) (maxSteps := 2000000) only [go_sem, Nat.reduceAdd, Nat.reduceMul, Nat.reduceSub]
        exact Runs.ret_eq (by rw [show keyB k = false by simp [keyB, k2', c2]])
      simp (decide := true) (maxSteps := 2000000) only [go_sem, Nat.reduceAdd, Nat.reduceMul, Nat.reduceSub]
      exact Runs.ret_eq (by rw [show keyB k = false by simp [keyB, k2', c1]])
    · have k2' : ¬ k.kind = 2 := by simpa using k2
      simp (decide := true) (maxSteps := 2000000) only [go_sem, Nat.reduceAdd, Nat.reduceMul, Nat.reduceSub]
      refine Runs.split (fun k3 => ?_) (fun k3 => ?_)
      · have k3' : k.kind = 3 := by simpa using k3
        simp (decide := true) (maxSteps := 2000000) only [go_sem, Nat.reduceAdd, Nat.reduceMul, Nat.reduceSub]
        refine Runs.call n3 ?_
        simp (decide := true) (maxSteps := 2000000) only [go_sem, Nat.reduceAdd, Nat.reduceMul, Nat.reduceSub]
        refine Runs.split (fun c1 => ?_) (fun c1 => ?_)
        case _ =>
          simp (decide := true) (maxSteps := 2000000) only [go_sem, Nat.reduceAdd, Nat.reduceMul, Nat.reduceSub]
          refine Runs.call n1 ?_
          simp (decide := true) (maxSteps := 2000000) only [go_sem, Nat.reduceAdd, Nat.reduceMul, Nat.reduceSub]
          refine Runs.split (fun c2 => ?_) (fun c2 => ?_)
          case _ =>
            simp (decide := true) (maxSteps := 2000000) only [go_sem, Nat.reduceAdd, Nat.reduceMul, Nat.reduceSub]
            refine Runs.call nE ?_
            simp (decide := true) (maxSteps := 2000000) only [go_sem, Nat.reduceAdd, Nat.reduceMul, Nat.reduceSub]
            exact Runs.ret_eq (by simp [keyB, k3', c1, c2])
          simp (decide := true) (maxSteps := 2000000) only [go_sem, Nat.reduceAdd, Nat.reduceMul, Nat.reduceSub]
          exact Runs.ret_eq (by rw [show keyB k = false by simp [keyB, k3', c2]])
        simp (decide := true) (maxSteps := 2000000) only [go_sem, Nat.reduceAdd, Nat.reduceMul, Nat.reduceSub]
        exact Runs.ret_eq (by rw [show keyB k = false by simp [keyB, k3', c1]])
      · have k3' : ¬ k.kind = 3 := by simpa using k3
        simp (decide := true) (maxSteps := 2000000) only [go_sem, Nat.reduceAdd, Nat.reduceMul, Nat.reduceSub]
        exact Runs.ret_eq (by simp [keyB, k1', k2', k3'])
set_option maxRecDepth 10000 in
set_option maxHeartbeats 8000000 in
include hm in
theorem iKeyOk (k : GKey) (h3 : k.N.length ≤ 9223372036854775807) : Holds Try.prog 21 [keyA k] [] (.v (.bool (keyB k))) [] := by
  refine holds_ref (ann := []) tabOk hm (byL [] [1000001]) Try.func21 (by kernel_rfl) rfl ?_
  have s1 := sameK hm k ⟨1, k.N, k.e, cv0, pt0, ed0, pr0⟩ h3 h3
  have s2 := sameK hm k ⟨2, [], 0, k.cv, k.q, ed0, pr0⟩ h3 (by simp)
  have s3 := sameK hm k ⟨3, [], 0, cv0, pt0, k.ed, k.a⟩ h3 (by simp)
  rw [same_rsa] at s1
  rw [same_curve] at s2
  rw [same_ed] at s3
  have nN := iNatOk hm k.N h3
  have nP := iPointOk hm k.cv k.q
  have nE := iPairOk hm k.ed k.a
  simp (decide := true) (maxSteps := 2000000) only [Try.f21, go_sem, Nat.reduceAdd, Nat.reduceMul, Nat.reduceSub]
  refine Runs.split (fun k1 => ?_) (fun k1 => ?_)
  · have k1' : k.kind = 1 := by simpa using k1
    simp only [k1', decide_true, Bool.true_and] at s1
    simp (decide := true) (maxSteps := 2000000) only [go_sem, Nat.reduceAdd, Nat.reduceMul, Nat.reduceSub]
    refine Runs.call (Holds.le s1 (by simp only [keyA, k1', cv0, pt0, ed0, pr0, List.map_nil]; exact LeD.refl _)) ?_
    simp (decide := true) (maxSteps := 2000000) only [go_sem, Nat.reduceAdd, Nat.reduceMul, Nat.reduceSub]
    refine Runs.split (fun c1 => ?_) (fun c1 => ?_)
    case _ =>
      have : (noCurve k && noEd k) = false := by first | exact c1 | (rw [Bool.not_eq_true'] at c1; exact c1)
      simp (decide := true) (maxSteps := 2000000) only [go_sem, Nat.reduceAdd, Nat.reduceMul, Nat.reduceSub]
      exact Runs.ret_eq (by rw [show keyB k = false by (have t := this; simp only [Bool.and_eq_false_iff] at t; rcases t with t | t <;> simp [keyB, k1', t])])
    have c1' : noCurve k = true ∧ noEd k = true := by simpa using c1
    simp (decide := true) (maxSteps := 2000000) only [go_sem, Nat.reduceAdd, Nat.reduceMul, Nat.reduceSub]
    refine Runs.call nN ?_
    simp (decide := true) (maxSteps := 2000000) only [go_sem, Nat.reduceAdd, Nat.reduceMul, Nat.reduceSub]
    refine Runs.split (fun c3 => ?_) (fun c3 => ?_)
    case _ =>
      have c3' : natB k.N = false := by simpa using c3
      simp (decide := true) (maxSteps := 2000000) only [go_sem, Nat.reduceAdd, Nat.reduceMul, Nat.reduceSub]
      exact Runs.ret_eq (by rw [show keyB k = false by simp [keyB, k1', c3']])
    have c3' : natB k.N = true := by simpa using c3
    simp (decide := true) (maxSteps := 2000000) only [go_sem, Nat.reduceAdd, Nat.reduceMul, Nat.reduceSub]
    refine Runs.call (natBits hm k.N c3') ?_
    simp (decide := true) (maxSteps := 2000000) only [go_sem, Nat.reduceAdd, Nat.reduceMul, Nat.reduceSub]
    refine Runs.call (within hm (bitsZ k.N) 128 512) ?_
    simp (decide := true) (maxSteps := 2000000) only [go_sem, Nat.reduceAdd, Nat.reduceMul, Nat.reduceSub]
    refine Runs.split (fun c4 => ?_) (fun c4 => ?_)
    case _ =>
      have c4' : inB (bitsZ k.N) 128 512 = false := by simpa using c4
      simp (decide := true) (maxSteps := 2000000) only [go_sem, Nat.reduceAdd, Nat.reduceMul, Nat.reduceSub]
      exact Runs.ret_eq (by rw [show keyB k = false by simp [keyB, k1', c4']])
    have c4' : inB (bitsZ k.N) 128 512 = true := by simpa using c4
    have hpos := bits_pos c4'
    have hlow : lowD k.N = k.N[0] := by simp [lowD, List.getD, hpos]
    have hg := getIntA (N := k.N) (i := 0) hpos
    have hb : decide ((0 : Int) ≤ 0 ∧ (0 : Int) < k.N.length) = true := by simp; omega
    simp (decide := true) (maxSteps := 2000000) (disch := first | omega | (simp only [List.length_map, List.length_cons, List.length_append, List.length_nil]; omega)) only [hg, hb, if_pos, go_sem, Nat.reduceAdd, Nat.reduceMul, Nat.reduceSub]
    refine Runs.split (fun c5 => ?_) (fun c5 => ?_)
    case _ =>
      have c5' : (lowD k.N).tmod 2 = 1 := by rw [hlow]; simpa using c5
      simp (decide := true) (maxSteps := 2000000) only [go_sem, Nat.reduceAdd, Nat.reduceMul, Nat.reduceSub]
      refine Runs.call (within hm k.e 3 65537) ?_
      simp (decide := true) (maxSteps := 2000000) only [go_sem, Nat.reduceAdd, Nat.reduceMul, Nat.reduceSub]
      refine Runs.split (fun c6 => ?_) (fun c6 => ?_)
      case _ =>
        simp (decide := true) (maxSteps := 2000000) only [go_sem, Nat.reduceAdd, Nat.reduceMul, Nat.reduceSub]
        exact Runs.ret_eq (by simp [keyB, k1', c1', c3', c4', c5', c6])
      simp (decide := true) (maxSteps := 2000000) only [go_sem, Nat.reduceAdd, Nat.reduceMul, Nat.reduceSub]
      exact Runs.ret_eq (by rw [show keyB k = false by simp [keyB, k1', c6]])
    have : ¬ (lowD k.N).tmod 2 = 1 := by rw [hlow]; simpa using c5
    simp (decide := true) (maxSteps := 2000000) only [go_sem, Nat.reduceAdd, Nat.reduceMul, Nat.reduceSub]
    exact Runs.ret_eq (by rw [show keyB k = false by simp [keyB, k1', this]])
  · have k1' : ¬ k.kind = 1 := by simpa using k1
    simp (decide := true) (maxSteps := 2000000) only [go_sem, Nat.reduceAdd, Nat.reduceMul, Nat.reduceSub]
    refine Runs.split (fun k2 => ?_) (fun k2 => ?_)
    · have k2' : k.kind = 2 := by simpa using k2
      simp only [k2', decide_true, Bool.true_and] at s2
      simp (decide := true) (maxSteps := 2000000) only [go_sem, Nat.reduceAdd, Nat.reduceMul, Nat.reduceSub]
      refine Runs.call (Holds.le s2 (by simp only [keyA, k2', cv0, pt0, ed0, pr0, List.map_nil]; exact .same _ (.agg (.same _ (.nils _ (LeD.refl _))) .nil))) ?_
      simp (decide := true) (maxSteps := 2000000) only [go_sem, Nat.reduceAdd, Nat.reduceMul, Nat.reduceSub]
      refine Runs.split (fun c1 => ?_) (fun c1 => ?_)
      case _ =>
        have c1' : noRsa k = true ∧ noEd k = true := by simpa using c1
        simp (decide := true) (maxSteps := 2000000) only [go_sem, Nat.reduceAdd, Nat.reduceMul, Nat.reduceSub]
        refine Runs.call nP ?_
        simp (decide := true) (maxSteps := 2000000) only [go_sem, Nat.reduceAdd, Nat.reduceMul, Nat.reduceSub]
        refine Runs.split (fun c3 => ?_) (fun c3 => ?_)
        case _ =>
          have c3' : curveB k.cv = true ∧ onZ k.cv.p k.cv.a k.cv.b k.q = true := by simpa using c3
          simp (decide := true) (maxSteps := 2000000) only [go_sem, Nat.reduceAdd, Nat.reduceMul, Nat.reduceSub]
          refine Runs.split (fun c4 => ?_) (fun c4 => ?_)
          case _ =>
            have c4' : k.q.far = false := by simpa using c4
            have kin := curve_in c3'.1
            have hp : 0 < k.cv.p := by have := kin.1; omega
            have hn : ((k.cv.n.toNat : Nat) : Int) = k.cv.n := Int.toNat_of_nonneg (curve_n c3'.1).1
            have hM := timesC hm k.cv k.cv.n.toNat k.q kin (onZ_in hp c3'.2) (by have := (curve_n c3'.1).2; omega)
            rw [hn, times_same (by have := kin.1; omega) (curve_p c3'.1) (curve_d c3'.1) c3'.2 k.cv.n.toNat] at hM
            simp (decide := true) (maxSteps := 2000000) only [go_sem, Nat.reduceAdd, Nat.reduceMul, Nat.reduceSub]
            refine Runs.call hM ?_
            simp (decide := true) (maxSteps := 2000000) only [go_sem, Nat.reduceAdd, Nat.reduceMul, Nat.reduceSub]
            exact Runs.ret_eq (by simp [keyB, k2', c1', c3', c4'])
          have c4' : k.q.far = true := by simpa using c4
          simp (decide := true) (maxSteps := 2000000) only [go_sem, Nat.reduceAdd, Nat.reduceMul, Nat.reduceSub]
          exact Runs.ret_eq (by rw [show keyB k = false by simp [keyB, k2', c4']])
        have : (curveB k.cv && onZ k.cv.p k.cv.a k.cv.b k.q) = false := c3
        simp (decide := true) (maxSteps := 2000000) only [go_sem, Nat.reduceAdd, Nat.reduceMul, Nat.reduceSub]
        exact Runs.ret_eq (by rw [show keyB k = false by simp only [keyB, k2', this]; simp])
      have : (noRsa k && noEd k) = false := by first | exact c1 | (rw [Bool.not_eq_true'] at c1; exact c1)
      simp (decide := true) (maxSteps := 2000000) only [go_sem, Nat.reduceAdd, Nat.reduceMul, Nat.reduceSub]
      exact Runs.ret_eq (by rw [show keyB k = false by (have t := this; simp only [Bool.and_eq_false_iff] at t; rcases t with t | t <;> simp [keyB, k2', t])])
    · have k2' : ¬ k.kind = 2 := by simpa using k2
      simp (decide := true) (maxSteps := 2000000) only [go_sem, Nat.reduceAdd, Nat.reduceMul, Nat.reduceSub]
      refine Runs.split (fun k3 => ?_) (fun k3 => ?_)
      · have k3' : k.kind = 3 := by simpa using k3
        simp only [k3', decide_true, Bool.true_and] at s3
        simp (decide := true) (maxSteps := 2000000) only [go_sem, Nat.reduceAdd, Nat.reduceMul, Nat.reduceSub]
        refine Runs.call (Holds.le s3 (by simp only [keyA, k3', cv0, pt0, ed0, pr0, List.map_nil]; exact .same _ (.agg (.same _ (.nils _ (LeD.refl _))) .nil))) ?_
        simp (decide := true) (maxSteps := 2000000) only [go_sem, Nat.reduceAdd, Nat.reduceMul, Nat.reduceSub]
        refine Runs.split (fun c1 => ?_) (fun c1 => ?_)
        case _ =>
          have c1' : noRsa k = true ∧ noCurve k = true := by simpa using c1
          simp (decide := true) (maxSteps := 2000000) only [go_sem, Nat.reduceAdd, Nat.reduceMul, Nat.reduceSub]
          refine Runs.call nE ?_
          simp (decide := true) (maxSteps := 2000000) only [go_sem, Nat.reduceAdd, Nat.reduceMul, Nat.reduceSub]
          exact Runs.ret_eq (by simp [keyB, k3', c1'])
        have : (noRsa k && noCurve k) = false := by first | exact c1 | (rw [Bool.not_eq_true'] at c1; exact c1)
        simp (decide := true) (maxSteps := 2000000) only [go_sem, Nat.reduceAdd, Nat.reduceMul, Nat.reduceSub]
        exact Runs.ret_eq (by rw [show keyB k = false by (have t := this; simp only [Bool.and_eq_false_iff] at t; rcases t with t | t <;> simp [keyB, k3', t])])
      · have k3' : ¬ k.kind = 3 := by simpa using k3
        simp (decide := true) (maxSteps := 2000000) only [go_sem, Nat.reduceAdd, Nat.reduceMul, Nat.reduceSub]
        exact Runs.ret_eq (by simp [keyB, k1', k2', k3'])
end Go.Proofs.W

namespace Go.Proofs.W
open Go Go.AM
set_option linter.unusedSimpArgs false
set_option linter.unusedVariables false
variable (hm : Try.prog.follows .mixedOrders = true)

def feb (y : Nat) : Nat := if y % 4 = 0 then 29 else 28
def yl (y : Nat) : Nat := 337 + feb y
def ml (y : Nat) : Nat → Nat
  | 2 => feb y | 4 => 30 | 6 => 30 | 9 => 30 | 11 => 30 | _ => 31
def remM (y : Nat) : Nat → Nat
  | 1 => 337 + feb y | 2 => 306 + feb y | 3 => 306 | 4 => 275 | 5 => 245 | 6 => 214 | 7 => 184 | 8 => 153 | 9 => 122 | 10 => 92 | 11 => 61 | 12 => 31 | _ => 0
theorem feb_pos (y : Nat) : 28 ≤ feb y ∧ feb y ≤ 29 := by unfold feb; split <;> omega
theorem cases12 {m : Nat} (h1 : 1 ≤ m) (h2 : m ≤ 12) : m = 1 ∨ m = 2 ∨ m = 3 ∨ m = 4 ∨ m = 5 ∨ m = 6 ∨ m = 7 ∨ m = 8 ∨ m = 9 ∨ m = 10 ∨ m = 11 ∨ m = 12 := by omega
theorem remM_step (y : Nat) {m : Nat} (h1 : 1 ≤ m) (h2 : m ≤ 12) : remM y m = ml y m + remM y (m + 1) := by
  rcases cases12 h1 h2 with rfl | rfl | rfl | rfl | rfl | rfl | rfl | rfl | rfl | rfl | rfl | rfl <;> simp only [remM, ml] <;> omega
theorem ml_bound (y m : Nat) : 28 ≤ ml y m ∧ ml y m ≤ 31 := by
  have := feb_pos y
  unfold ml
  split <;> omega
def yearGo : Nat → Nat → Nat → Nat × Nat
  | 0, y, d => (y, d)
  | f + 1, y, d => if yl y ≤ d then yearGo f (y + 1) (d - yl y) else (y, d)
def monthGo : Nat → Nat → Nat → Nat → Nat × Nat
  | 0, _, m, d => (m, d)
  | f + 1, y, m, d => if ml y m ≤ d then monthGo f y (m + 1) (d - ml y m) else (m, d)
theorem yearGo_fuel : ∀ (f g y d : Nat), d < f → d < g → yearGo f y d = yearGo g y d
  | f + 1, g + 1, y, d, h1, h2 => by
    simp only [yearGo]
    split
    · have := feb_pos y
      have h3 : 1 ≤ yl y := by unfold yl; omega
      exact yearGo_fuel f g _ _ (by omega) (by omega)
    · rfl
structure DayR where
  y : Nat
  m : Nat
  d : Nat
  s : Nat
def dayP (t : Int) : DayR :=
  if inB t (-631152000) 4102444799 = true then
    let n := (t + 631152000).toNat
    let a := yearGo (n / 86400 + 1) 1950 (n / 86400)
    let b := monthGo 12 a.1 1 a.2
    ⟨a.1, b.1, b.2 + 1, n % 86400⟩
  else ⟨0, 0, 0, 0⟩
def dayA (r : DayR) : A := .tup [.v (.int .i64 r.y), .v (.int .i64 r.m), .v (.int .i64 r.d), .v (.int .i64 r.s)]
theorem yearGo_bound : ∀ (f y d : Nat), (yearGo f y d).1 ≤ y + d ∧ (yearGo f y d).2 ≤ d
  | 0, y, d => by simp [yearGo]
  | f + 1, y, d => by
    simp only [yearGo]
    split
    · have := yearGo_bound f (y + 1) (d - yl y)
      have h3 : 1 ≤ yl y := by unfold yl; omega
      omega
    · simp
theorem monthGo_bound : ∀ (f y m d : Nat), (monthGo f y m d).1 ≤ m + f ∧ (monthGo f y m d).2 ≤ d
  | 0, y, m, d => by simp [monthGo]
  | f + 1, y, m, d => by
    simp only [monthGo]
    split
    · have := monthGo_bound f y (m + 1) (d - ml y m)
      omega
    · simp
theorem inB_iff {n a b : Int} : inB n a b = true ↔ a ≤ n ∧ n ≤ b := by simp [inB]
theorem dayP_bound (t : Int) : (dayP t).y ≤ 100000 ∧ (dayP t).m ≤ 100 ∧ (dayP t).d ≤ 100000 ∧ (dayP t).s ≤ 100000 := by
  unfold dayP
  split
  · rename_i h
    rw [inB_iff] at h
    simp only
    have h1 := yearGo_bound ((t + 631152000).toNat / 86400 + 1) 1950 ((t + 631152000).toNat / 86400)
    have h2 := monthGo_bound 12 (yearGo ((t + 631152000).toNat / 86400 + 1) 1950 ((t + 631152000).toNat / 86400)).1 1 (yearGo ((t + 631152000).toNat / 86400 + 1) 1950 ((t + 631152000).toNat / 86400)).2
    omega
  · simp

end Go.Proofs.W

namespace Go.Proofs.W
open Go Go.AM
set_option linter.unusedSimpArgs false
set_option linter.unusedVariables false
variable (hm : Try.prog.follows .mixedOrders = true)

def two (n : Nat) : ByteArray := ⟨#[UInt8.ofNat (48 + n / 10 % 10), UInt8.ofNat (48 + n % 10)]⟩
theorem two_size (n : Nat) : (two n).size = 2 := rfl
def restT (m d s : Nat) : ByteArray := two m ++ two d ++ two (s / 3600) ++ two (s / 60 % 60) ++ two (s % 60) ++ ⟨#[90]⟩
theorem z_size : (ByteArray.mk #[90]).size = 1 := rfl
theorem restT_size (m d s : Nat) : (restT m d s).size = 11 := by simp [restT, two_size, z_size]
attribute [local go_sem] two_size z_size restT_size
def shortOk (t : Int) : Bool := inB (dayP t).y 1950 2049
def shortT (t : Int) : ByteArray := if shortOk t = true then two (dayP t).y ++ restT (dayP t).m (dayP t).d (dayP t).s else ⟨#[]⟩
def longOk (t : Int) : Bool := !decide (((dayP t).y : Int) = 0)
def longT (t : Int) : ByteArray := if longOk t = true then two ((dayP t).y / 100) ++ two (dayP t).y ++ restT (dayP t).m (dayP t).d (dayP t).s else ⟨#[]⟩
theorem tdivN (n k : Nat) : (n : Int).tdiv (k : Int) = ((n / k : Nat) : Int) := by rw [Int.tdiv_eq_ediv_of_nonneg (by omega)]; rfl
theorem tmodN (n k : Nat) : (n : Int).tmod (k : Int) = ((n % k : Nat) : Int) := by rw [Int.tmod_eq_emod_of_nonneg (by omega)]; rfl
end Go.Proofs.W

namespace Go.Proofs.W
open Go Go.AM
set_option linter.unusedSimpArgs false
set_option linter.unusedVariables false
variable (hm : Try.prog.follows .mixedOrders = true)

structure It where
  tag : Int
  body : List Int
  kids : Int
/-- An item, shared; an item that holds its body. -/
def itemS (x : It) : A := .agg [.v (.int .i64 x.tag), .sl .sh (x.body.map u8A), .v (.int .i64 x.kids)]
def itemO (x : It) : A := .agg [.v (.int .i64 x.tag), .sl (.ow 1) (x.body.map u8A), .v (.int .i64 x.kids)]
theorem dn_itemS (L : List It) : dnL (L.map itemS) = L.map itemS := by rw [dnL_map]; simp [itemS, A.dn, dnL, dn_u8A]
theorem dn_itemO (L : List It) : dnL (L.map itemO) = L.map itemS := by rw [dnL_map]; simp [itemO, itemS, A.dn, dnL, dn_u8A]
theorem md_itemO (L : List It) : mdL (L.map itemO) = L.map itemO := by rw [mdL_eq, List.map_map]; simp [itemO, A.md, mdL, md_u8A]
theorem md_itemS (L : List It) : mdL (L.map itemS) = L.map itemS := by rw [mdL_eq, List.map_map]; simp [itemS, A.md, mdL, dn_u8A]
theorem fr_itemO (L : List It) : freeL (L.map itemO) = true := by
  induction L with
  | nil => rfl
  | cons a l ih => simp [freeL, ih, itemO, A.free, fr_u8A]
theorem c3_itemO (L : List It) : (L.map itemO).all (fun a => a.cells.length == 3) = true := by simp [itemO, A.cells]
theorem c3_itemS (L : List It) : (L.map itemS).all (fun a => a.cells.length == 3) = true := by simp [itemS, A.cells]
theorem pl_itemO (x : It) (L : List It) : plainL (itemO x :: L.map itemO) = false := by simp [plainL, itemO, A.plain, Sh.own]
theorem pl1_itemO (x : It) : (itemO x).plain = false := by simp [plainL, itemO, A.plain, Sh.own]
theorem c_itemO (x : It) : (itemO x).cells.length = 3 := rfl
theorem fr1_itemO (x : It) : (itemO x).free = true := by simp [itemO, A.free, freeL, fr_u8A]
theorem md1_itemO (x : It) : (itemO x).md = itemO x := by simp [itemO, A.md, mdL, md_u8A]
theorem dn1_itemO (x : It) : (itemO x).dn = itemS x := by simp [itemO, itemS, A.dn, dnL, dn_u8A]
theorem tk_items (L : List It) (g : It → A) : List.take L.length (L.map g) = L.map g := take_map_len
attribute [go_sem] pl1_itemO c_itemO fr1_itemO md1_itemO dn1_itemO dn_itemS dn_itemO md_itemO md_itemS fr_itemO c3_itemO c3_itemS pl_itemO

set_option maxRecDepth 10000 in
include hm in
theorem l10Item (t : Int) (B : List Int) : Holds Try.prog 47 [.v (.int .i64 t), .sl (.ow 1) (B.map u8A)] [] (.sl (.ow 3) [itemO ⟨t, B, 0⟩]) [] := by
  refine holds_of (ann := []) tabOk hm Try.func47 (by kernel_rfl) rfl ?_
  simp (decide := true) only [Try.f47, itemO, go_sem, Nat.reduceAdd, Nat.reduceMul, Nat.reduceSub]
  exact Runs.ret_refl
set_option maxRecDepth 10000 in
include hm in
theorem l10Int (n : Int) (h1 : -9223372036854775808 ≤ n) (h2 : n < 9223372036854775808) : Holds Try.prog 43 [.v (.int .i64 n)] [] (.sl (.ow 3) [itemO ⟨2, intB n, 0⟩]) [] := by
  refine holds_ref (ann := []) tabOk hm (byL [] [47]) Try.func43 (by kernel_rfl) rfl ?_
  simp (decide := true) only [Try.f43, go_sem, Nat.reduceAdd, Nat.reduceMul, Nat.reduceSub]
  refine Runs.call (sIntBytes hm n h1 h2) ?_
  simp (decide := true) only [go_sem, Nat.reduceAdd, Nat.reduceMul, Nat.reduceSub]
  refine Runs.call (l10Item hm 2 (intB n)) ?_
  simp (decide := true) only [itemO, go_sem, Nat.reduceAdd, Nat.reduceMul, Nat.reduceSub]
  exact Runs.ret_refl
set_option maxRecDepth 10000 in
include hm in
theorem l10Made (t k : Int) (L : List It) (h : L.length ≤ 1000000) : Holds Try.prog 42 [.v (.int .i64 t), .v (.int .i64 k), .sl (.ow 3) (L.map itemO)] [] (.sl (.ow 3) (itemO ⟨t, [], k⟩ :: L.map itemO)) [] := by
  refine holds_of (ann := []) tabOk hm Try.func42 (by kernel_rfl) rfl ?_
  have le : ∀ (l : List A), Le (.sl (.ow 3) (.agg [.v (.int .i64 t), .v (.slice none 0 0), .v (.int .i64 k)] :: l)) (.sl (.ow 3) (itemO ⟨t, [], k⟩ :: l)) := fun l =>
    .sl _ (.agg (.same _ (.nils _ (.same _ .nil))) (LeD.refl _)) .nil
  cases L with
  | nil =>
    simp (decide := true) only [Try.f42, List.map_nil, go_sem, Nat.reduceAdd, Nat.reduceMul, Nat.reduceSub]
    exact Runs.ret (le _) rfl
  | cons x L =>
    simp only [List.length_cons] at h
    simp (decide := true) (disch := first | omega | (simp only [List.length_map, List.length_cons, List.length_append, List.length_nil]; omega)) only [Try.f42, List.map_cons, show 1 + (L.length + 1) = L.length + 1 + 1 by omega, if_pos, go_sem, Nat.reduceAdd, Nat.reduceMul, Nat.reduceSub]
    exact Runs.ret (le _) rfl



def sInAnn : Ann := [(0, [0, 3, 4])]
def intI (n : Int) : It := ⟨2, intB n, 0⟩
def sInSt (L : List Int) (i : Nat) : St := ⟨[.sl .sh (L.map intA), .any, .any, .ms (.l 0) 0 i i, .v (.int .i64 i), .any, .any, .any, .any, .any, .any, .any, .any, .any, .any, .any, .any, .any, .any, .any], [(0, ⟨true, 3, false, mpre (fun n => itemO (intI n)) L i⟩)], []⟩
set_option maxRecDepth 10000 in
include hm in
theorem l10Ints (L : List Int) (h : L.length ≤ 1000000) (h4 : ∀ n ∈ L, -9223372036854775808 ≤ n ∧ n < 9223372036854775808) : Holds Try.prog 46 [.sl .sh (L.map intA)] [] (.sl (.ow 3) ((L.map intI).map itemO)) [] := by
  refine holds_of (ann := sInAnn) tabOk hm Try.func46 (by kernel_rfl) rfl ?_
  simp (decide := true) only [Try.f46, go_sem, Nat.reduceAdd, Nat.reduceMul, Nat.reduceSub]
  refine Runs.while (α := Nat) (sInSt L) (fun i => L.length - i) (fun i => i ≤ L.length) 0 (by omega) ?_ ?_
  · simp [go_sem, sInAnn, sInSt, mpre_zero]
  · intro i hi ih
    have hlen := mpre_length (fun n => itemO (intI n)) hi
    simp (decide := true) only [sInSt, go_sem, Nat.reduceAdd, Nat.reduceMul, Nat.reduceSub]
    refine Runs.split (fun h => ?_) (fun h => ?_)
    · have hlt : i < L.length := by simpa using h
      obtain ⟨n1, n2⟩ := h4 L[i] (List.getElem_mem hlt)
      simp (decide := true) (disch := first | omega | (simp only [List.length_map, List.length_cons, List.length_append, List.length_nil]; omega)) only [hlen, if_pos, go_sem, Nat.reduceAdd, Nat.reduceMul, Nat.reduceSub]
      refine Runs.call (l10Int hm L[i] n1 n2) ?_
      simp (decide := true) (disch := first | omega | (simp only [List.length_map, List.length_cons, List.length_append, List.length_nil]; omega)) only [hlen, if_pos, go_sem, Nat.reduceAdd, Nat.reduceMul, Nat.reduceSub]
      refine ih (i + 1) _ (by omega) (by omega) ?_
      simp [go_sem, sInAnn, sInSt, mpre_succ _ hlt, intI]
    · have hge : i = L.length := by simp at h; omega
      subst hge
      have ea := mpre_all (fun n => itemO (intI n)) L
      simp (decide := true) only [hlen, ea, go_sem, Nat.reduceAdd, Nat.reduceMul, Nat.reduceSub]
      refine Runs.ret_eq ?_
      simp [List.map_map]
def timeI (t : Int) : It := if shortOk t = true then ⟨23, bytesI (shortT t), 0⟩ else ⟨24, bytesI (longT t), 0⟩
theorem shortT_size (t : Int) : (shortT t).size ≤ 100 := by
  unfold shortT
  split
  · rw [ByteArray.size_append, restT_size, two_size]; omega
  · show 0 ≤ 100; omega
theorem longT_size (t : Int) : (longT t).size ≤ 100 := by
  unfold longT
  split
  · rw [ByteArray.size_append, ByteArray.size_append, restT_size, two_size, two_size]; omega
  · show 0 ≤ 100; omega
end Go.Proofs.W

namespace Go.Proofs.W
open Go Go.AM
set_option linter.unusedSimpArgs false
set_option linter.unusedVariables false
variable (hm : Try.prog.follows .mixedOrders = true)

inductive Nd where
  | mk (tag : Int) (body : List Int) (kids : List Nd)
mutual
/-- A node that holds all its data; a node, shared. -/
def nodeO : Nd → A
  | .mk t b ks => .agg [.v (.int .i64 t), .sl (.ow 1) (b.map u8A), .sl (.ow 3) (nodesO ks)]
def nodesO : List Nd → List A
  | [] => []
  | n :: r => nodeO n :: nodesO r
end
mutual
def nodeS : Nd → A
  | .mk t b ks => .agg [.v (.int .i64 t), .sl .sh (b.map u8A), .sl .sh (nodesS ks)]
def nodesS : List Nd → List A
  | [] => []
  | n :: r => nodeS n :: nodesS r
end
theorem nodesO_eq (l : List Nd) : nodesO l = l.map nodeO := by induction l with
  | nil => rfl
  | cons a l ih => simp [nodesO, ih]
theorem nodesS_eq (l : List Nd) : nodesS l = l.map nodeS := by induction l with
  | nil => rfl
  | cons a l ih => simp [nodesS, ih]
theorem nodesO_length (l : List Nd) : (nodesO l).length = l.length := by rw [nodesO_eq, List.length_map]
theorem nodesS_length (l : List Nd) : (nodesS l).length = l.length := by rw [nodesS_eq, List.length_map]
mutual
theorem dn_nodeO : ∀ n, (nodeO n).dn = nodeS n
  | .mk t b ks => by simp [nodeO, nodeS, A.dn, dnL, dn_u8A, dn_nodesO ks]
theorem dn_nodesO : ∀ l, dnL (nodesO l) = nodesS l
  | [] => rfl
  | n :: r => by simp [nodesO, nodesS, dnL, dn_nodeO n, dn_nodesO r]
end
mutual
theorem dn_nodeS : ∀ n, (nodeS n).dn = nodeS n
  | .mk t b ks => by simp [nodeS, A.dn, dnL, dn_u8A, dn_nodesS ks]
theorem dn_nodesS : ∀ l, dnL (nodesS l) = nodesS l
  | [] => rfl
  | n :: r => by simp [nodesS, dnL, dn_nodeS n, dn_nodesS r]
end
mutual
theorem md_nodeO : ∀ n, (nodeO n).md = nodeO n
  | .mk t b ks => by simp [nodeO, A.md, mdL, md_u8A, md_nodesO ks]
theorem md_nodesO : ∀ l, mdL (nodesO l) = nodesO l
  | [] => rfl
  | n :: r => by simp [nodesO, mdL, md_nodeO n, md_nodesO r]
end
mutual
theorem fr_nodeO : ∀ n, (nodeO n).free = true
  | .mk t b ks => by simp [nodeO, A.free, freeL, fr_u8A, fr_nodesO ks]
theorem fr_nodesO : ∀ l, freeL (nodesO l) = true
  | [] => rfl
  | n :: r => by simp [nodesO, freeL, fr_nodeO n, fr_nodesO r]
end
theorem c_nodeO (n : Nd) : (nodeO n).cells.length = 3 := by cases n; rfl
theorem c_nodeS (n : Nd) : (nodeS n).cells.length = 3 := by cases n; rfl
theorem pl_nodeO (n : Nd) : (nodeO n).plain = false := by cases n; simp [nodeO, A.plain, plainL, Sh.own]
mutual
theorem pl_nodeS : ∀ n, (nodeS n).plain = true
  | .mk t b ks => by simp [nodeS, A.plain, plainL, Sh.own, pl_nodesS ks, plainL_map, u8A]
theorem pl_nodesS : ∀ l, plainL (nodesS l) = true
  | [] => rfl
  | n :: r => by simp [nodesS, plainL, pl_nodeS n, pl_nodesS r]
end
theorem cs_nodesS (l : List Nd) : (nodesS l).all (fun a => a.cells.length == 3) = true := by rw [nodesS_eq]; simp [c_nodeS]
theorem cs_nodesO (l : List Nd) : (nodesO l).all (fun a => a.cells.length == 3) = true := by rw [nodesO_eq]; simp [c_nodeO]
theorem tk_nodesO {α : Type} (L : List α) (f : α → Nd) : List.take L.length (nodesO (L.map f)) = nodesO (L.map f) := by
  rw [show L.length = (nodesO (L.map f)).length by rw [nodesO_length, List.length_map], List.take_length]
attribute [go_sem] tk_nodesO nodesO_length nodesS_length dn_nodeO dn_nodesO dn_nodeS dn_nodesS md_nodeO md_nodesO fr_nodeO fr_nodesO c_nodeO c_nodeS pl_nodeO cs_nodesO pl_nodeS pl_nodesS cs_nodesS

set_option maxRecDepth 10000 in
include hm in
theorem leaf (t : Int) (B : List Int) : Holds Try.prog 81 [.v (.int .i64 t), .sl (.ow 1) (B.map u8A)] [] (nodeO (.mk t B [])) [] := by
  refine holds_of (ann := []) tabOk hm Try.func81 (by kernel_rfl) rfl ?_
  simp (decide := true) only [Try.f81, go_sem, Nat.reduceAdd, Nat.reduceMul, Nat.reduceSub]
  refine Runs.ret ?_ rfl
  exact .agg (.same _ (.same _ (.nils _ .nil))) .nil
set_option maxRecDepth 10000 in
include hm in
theorem listN (t : Int) (l : List Nd) : Holds Try.prog 56 [.v (.int .i64 t), .sl (.ow 3) (nodesO l)] [] (nodeO (.mk t [] l)) [] := by
  refine holds_of (ann := []) tabOk hm Try.func56 (by kernel_rfl) rfl ?_
  simp (decide := true) only [Try.f56, go_sem, Nat.reduceAdd, Nat.reduceMul, Nat.reduceSub]
  refine Runs.ret ?_ rfl
  exact .agg (.same _ (.nils _ (.same _ .nil))) .nil
def intN (n : Int) : Nd := .mk 2 (intB n) []
def txtN (t : Int) (s : ByteArray) : Nd := .mk t (bytesI s) []
def timeG (t : Int) : Int := if shortOk t = true then 23 else 24
def timeB (t : Int) : List Int := if shortOk t = true then bytesI (shortT t) else bytesI (longT t)
def timeN (t : Int) : Nd := .mk (timeG t) (timeB t) []
set_option maxRecDepth 10000 in
include hm in
theorem integer (n : Int) (h1 : -9223372036854775808 ≤ n) (h2 : n < 9223372036854775808) : Holds Try.prog 57 [.v (.int .i64 n)] [] (nodeO (.mk 2 (intB n) [])) [] := by
  refine holds_ref (ann := []) tabOk hm (byL [] [81]) Try.func57 (by kernel_rfl) rfl ?_
  simp (decide := true) only [Try.f57, go_sem, Nat.reduceAdd, Nat.reduceMul, Nat.reduceSub]
  refine Runs.call (iIntBytes hm n h1 h2) ?_
  simp (decide := true) only [go_sem, Nat.reduceAdd, Nat.reduceMul, Nat.reduceSub]
  refine Runs.call (leaf hm 2 (intB n)) ?_
  simp (decide := true) only [nodeO, nodesO, go_sem, Nat.reduceAdd, Nat.reduceMul, Nat.reduceSub]
  exact Runs.ret_refl

def iInAnn : Ann := [(0, [3, 7, 8, 9])]
def iInSt (L : List Int) (i : Nat) : St := ⟨[.any, .any, .any, .ms (.l 0) 0 i i, .any, .any, .any, .sl .sh (L.map intA), .v (.int .i64 L.length), .v (.int .i64 i), .any, .any, .any, .any, .any, .any, .any, .any, .any, .any], [(0, ⟨true, 3, false, mpre (fun n => nodeO (intN n)) L i⟩)], []⟩
set_option maxRecDepth 10000 in
include hm in
theorem integers (L : List Int) (h : L.length ≤ 1000000) (h4 : ∀ n ∈ L, -9223372036854775808 ≤ n ∧ n < 9223372036854775808) : Holds Try.prog 59 [.sl .sh (L.map intA)] [] (.sl (.ow 3) (nodesO (L.map intN))) [] := by
  refine holds_of (ann := iInAnn) tabOk hm Try.func59 (by kernel_rfl) rfl ?_
  simp (decide := true) only [Try.f59, go_sem, Nat.reduceAdd, Nat.reduceMul, Nat.reduceSub]
  refine Runs.while (α := Nat) (iInSt L) (fun i => L.length - i) (fun i => i ≤ L.length) 0 (by omega) ?_ ?_
  · simp [go_sem, iInAnn, iInSt, mpre_zero]
  · intro i hi ih
    have hlen := mpre_length (fun n => nodeO (intN n)) hi
    simp (decide := true) only [iInSt, go_sem, Nat.reduceAdd, Nat.reduceMul, Nat.reduceSub]
    refine Runs.split (fun h => ?_) (fun h => ?_)
    · have hlt : i < L.length := by simpa using h
      obtain ⟨n1, n2⟩ := h4 L[i] (List.getElem_mem hlt)
      simp (decide := true) (disch := first | omega | (simp only [List.length_map, List.length_cons, List.length_append, List.length_nil]; omega)) only [hlen, if_pos, go_sem, Nat.reduceAdd, Nat.reduceMul, Nat.reduceSub]
      refine Runs.call (integer hm L[i] n1 n2) ?_
      simp (decide := true) (disch := first | omega | (simp only [List.length_map, List.length_cons, List.length_append, List.length_nil]; omega)) only [hlen, nodeO, nodesO, if_pos, go_sem, Nat.reduceAdd, Nat.reduceMul, Nat.reduceSub]
      refine ih (i + 1) _ (by omega) (by omega) ?_
      simp [go_sem, iInAnn, iInSt, mpre_succ _ hlt, intN, nodeO, nodesO]
    · have hge : i = L.length := by simp at h; omega
      subst hge
      have ea := mpre_all (fun n => nodeO (intN n)) L
      simp (decide := true) only [hlen, ea, go_sem, Nat.reduceAdd, Nat.reduceMul, Nat.reduceSub]
      refine Runs.ret_eq ?_
      rw [nodesO_eq, List.map_map]
      rfl
set_option maxRecDepth 10000 in
include hm in
theorem cloneB (B : List Int) (h : B.length ≤ 1073741824) : Holds Try.prog 63 [.sl .sh (B.map u8A)] [] (.sl (.ow 1) (B.map u8A)) [] := by
  refine holds_of (ann := []) tabOk hm Try.func63 (by kernel_rfl) rfl ?_
  cases B with
  | nil =>
    simp (decide := true) only [Try.f63, go_sem, Nat.reduceAdd, Nat.reduceMul, Nat.reduceSub]
    refine ⟨?_, ?_⟩
    · exact Runs.ret (.nils _ .nil) rfl
    · exact Runs.ret_refl
  | cons b B =>
    simp only [List.length_cons] at h
    simp (decide := true) (disch := first | omega | (simp only [List.length_map, List.length_cons, List.length_append, List.length_nil]; omega)) only [Try.f63, u8A, if_pos, go_sem, Nat.reduceAdd, Nat.reduceMul, Nat.reduceSub]
    exact Runs.ret_refl
mutual
def itemsN : Nd → List It
  | .mk t b ks => ⟨t, b, ks.length⟩ :: itemsNL ks
def itemsNL : List Nd → List It
  | [] => []
  | n :: r => itemsN n ++ itemsNL r
end
theorem itemsN_mk (t : Int) (b : List Int) (ks : List Nd) : itemsN (.mk t b ks) = ⟨t, b, ks.length⟩ :: itemsNL ks := by rw [itemsN]
theorem itemsNL_app (l m : List Nd) : itemsNL (l ++ m) = itemsNL l ++ itemsNL m := by
  induction l with
  | nil => rfl
  | cons a l ih => simp [itemsNL, ih, List.append_assoc]
def itPre (ks : List Nd) (i : Nat) : List It := itemsNL (ks.take i)
theorem itPre_zero (ks : List Nd) : itPre ks 0 = [] := rfl
theorem itPre_succ {ks : List Nd} {i : Nat} (h : i < ks.length) : itPre ks (i + 1) = itPre ks i ++ itemsN ks[i] := by
  rw [itPre, List.take_succ_eq_append_getElem h, itemsNL_app]
  simp [itPre, itemsNL]
theorem itPre_all (ks : List Nd) : itPre ks ks.length = itemsNL ks := by rw [itPre, List.take_length]
theorem itPre_le (ks : List Nd) (i : Nat) : (itPre ks i).length ≤ (itemsNL ks).length := by
  have := itemsNL_app (ks.take i) (ks.drop i)
  rw [List.take_append_drop] at this
  rw [this, itPre, List.length_append]
  omega
theorem itemsN_get {ks : List Nd} {i : Nat} (h : i < ks.length) : (itemsN ks[i]).length ≤ (itemsNL ks).length := by
  have h1 := itPre_succ h
  have h2 := itPre_le ks (i + 1)
  rw [h1, List.length_append] at h2
  omega
mutual
def szN : Nd → Nat
  | .mk _ _ ks => szNL ks + 1
def szNL : List Nd → Nat
  | [] => 0
  | n :: r => szN n + szNL r
end
theorem szN_get : ∀ {ks : List Nd} {i : Nat} (h : i < ks.length), szN ks[i] ≤ szNL ks
  | a :: ks, 0, h => by simp [szNL]
  | a :: ks, i + 1, h => by
    have := szN_get (ks := ks) (i := i) (by simpa using h)
    simp only [szNL, List.getElem_cons_succ]
    omega
theorem nodesS_get {ks : List Nd} {i : Nat} (h : i < ks.length) : (nodesS ks).getD i .any = nodeS ks[i] := by rw [nodesS_eq]; simp [List.getD, h]
mutual
/-- No body is too long. -/
def bodiesLe (m : Nat) : Nd → Prop
  | .mk _ b ks => b.length ≤ m ∧ bodiesLeL m ks
def bodiesLeL (m : Nat) : List Nd → Prop
  | [] => True
  | n :: r => bodiesLe m n ∧ bodiesLeL m r
end
theorem bodiesLe_get {m : Nat} : ∀ {ks : List Nd} {i : Nat} (h : i < ks.length), bodiesLeL m ks → bodiesLe m ks[i]
  | a :: ks, 0, h, hb => hb.1
  | a :: ks, i + 1, h, hb => by
    have := bodiesLe_get (ks := ks) (i := i) (by simpa using h) hb.2
    simpa using this
mutual
def kidsLe (m : Nat) : Nd → Prop
  | .mk _ _ ks => ks.length ≤ m ∧ kidsLeL m ks
def kidsLeL (m : Nat) : List Nd → Prop
  | [] => True
  | n :: r => kidsLe m n ∧ kidsLeL m r
end
theorem kidsLe_get {m : Nat} : ∀ {ks : List Nd} {i : Nat} (h : i < ks.length), kidsLeL m ks → kidsLe m ks[i]
  | a :: ks, 0, h, hb => hb.1
  | a :: ks, i + 1, h, hb => by
    have := kidsLe_get (ks := ks) (i := i) (by simpa using h) hb.2
    simpa using this
def itAnn : Ann := [(0, [3, 17, 18, 19])]
def itSch : Sched := .take 0 (.take 2 (.take 5 (.ld 1 (.ld 3 (.ld 6 (.take 7 (.alt 4 (.alt 8 (.alt 9 (.take 10 .fin) .nil) .nil) .nil)))))))
def itSt (t : Int) (b : List Int) (ks : List Nd) (i : Nat) : St := ⟨[.any, .any, .any, .ms (.l 0) 0 ((itPre ks i).length + 1) ((itPre ks i).length + 1), .any, .any, .any, .any, .any, .any, .any, .any, .any, .any, .any, .any, .any, .sl .sh (nodesS ks), .v (.int .i64 ks.length), .v (.int .i64 i), .any, .any, .any, .any, .any, .any, .any, .any, .any], [(0, ⟨true, 3, false, itemO ⟨t, b, ks.length⟩ :: (itPre ks i).map itemO⟩)], []⟩
attribute [local go_sem] itSch
set_option maxRecDepth 10000 in
include hm in
theorem items : ∀ (m : Nat) (n : Nd), szN n ≤ m → (itemsN n).length ≤ 100000 → bodiesLe 1073741824 n → kidsLe 1000000 n → Holds Try.prog 23 [nodeS n] [] (.sl (.ow 3) ((itemsN n).map itemO)) [] := by
  intro m
  induction m with
  | zero => intro n h; cases n; simp [szN] at h
  | succ m IH =>
    rintro ⟨t, b, ks⟩ hz hl hb hk
    obtain ⟨hb1, hb2⟩ := hb
    obtain ⟨hk1, hk2⟩ := hk
    simp only [szN] at hz
    simp only [itemsN, List.length_cons] at hl
    refine holds_ref (ann := itAnn) tabOk hm (byL [] [1000001]) Try.func23 (by kernel_rfl) rfl ?_
    simp (decide := true) only [Try.f23, nodeS, go_sem, Nat.reduceAdd, Nat.reduceMul, Nat.reduceSub]
    refine Runs.draw (st1 := ?s1) (draws_ref (ann := itAnn) tabOk (byL [] [1000001]) itSch (by kernel_rfl) ?p1) ?q1
    case p1 =>
      intro K r X hK
      simp (decide := true) only [go_sem, Nat.reduceAdd, Nat.reduceMul, Nat.reduceSub]
      refine Runs.call (cloneB hm b hb1) ?_
      simp (decide := true) only [go_sem, Nat.reduceAdd, Nat.reduceMul, Nat.reduceSub]
      exact hK
    case q1 =>
      simp (decide := true) only [go_sem, Nat.reduceAdd, Nat.reduceMul, Nat.reduceSub]
      refine Runs.while (α := Nat) (itSt t b ks) (fun i => ks.length - i) (fun i => i ≤ ks.length) 0 (by omega) ?_ ?_
      · simp [go_sem, itAnn, itSt, itPre_zero, itemO]
      · intro i hi ih
        simp (decide := true) only [itSt, go_sem, Nat.reduceAdd, Nat.reduceMul, Nat.reduceSub]
        refine Runs.split (fun h => ?_) (fun h => ?_)
        · have hlt : i < ks.length := by simpa using h
          have e1 := itPre_le ks (i + 1)
          have e2 := itPre_succ hlt
          have e3 : (itPre ks (i + 1)).length = (itPre ks i).length + (itemsN ks[i]).length := by rw [e2, List.length_append]
          have e4 := szN_get hlt
          have e5 := IH ks[i] (by omega) (by omega) (bodiesLe_get hlt hb2) (kidsLe_get hlt hk2)
          have e6 := nodesS_get hlt
          have e7 : (itPre ks (i + 1)).map itemO = (itPre ks i).map itemO ++ (itemsN ks[i]).map itemO := by rw [e2, List.map_append]
          generalize ks[i] = k at e3 e5 e6 e7
          obtain ⟨t', b', ks'⟩ := k
          rw [nodeS] at e5 e6
          rw [itemsN_mk] at e3 e5 e7
          generalize (⟨t', b', ks'.length⟩ : It) = x' at e3 e5 e7
          generalize itemsNL ks' = L' at e3 e5 e7
          rw [List.map_cons] at e5 e7
          rw [List.length_cons] at e3
          simp (decide := true) (disch := first | omega | (simp only [List.length_map, List.length_cons, List.length_append, List.length_nil]; omega)) only [e6, if_pos, go_sem, Nat.reduceAdd, Nat.reduceMul, Nat.reduceSub]
          refine Runs.call e5 ?_
          simp (decide := true) (disch := first | omega | (simp only [List.length_map, List.length_cons, List.length_append, List.length_nil]; omega)) only [if_pos, go_sem, Nat.reduceAdd, Nat.reduceMul, Nat.reduceSub]
          refine ih (i + 1) _ (by omega) (by omega) ?_
          simp [go_sem, itAnn, itSt, e7, e3, Nat.add_assoc, Nat.add_comm, Nat.add_left_comm]
        · have hge : i = ks.length := by simp at h; omega
          subst hge
          simp (decide := true) only [itPre_all, go_sem, Nat.reduceAdd, Nat.reduceMul, Nat.reduceSub]
          refine Runs.ret_eq ?_
          simp [itemsN]
end Go.Proofs.W

namespace Go.Proofs.W
open Go Go.AM
set_option linter.unusedSimpArgs false
set_option linter.unusedVariables false
variable (hm : Try.prog.follows .mixedOrders = true)
set_option maxRecDepth 10000 in
include hm in
theorem bitsOf (B : List Int) (h : B.length ≤ 1073741823) : Holds Try.prog 60 [.sl .sh (B.map u8A)] [] (nodeO (.mk 3 (0 :: B) [])) [] := by
  refine holds_ref (ann := []) tabOk hm (byL [] [81]) Try.func60 (by kernel_rfl) rfl ?_
  simp (decide := true) (disch := first | omega | (simp only [List.length_map, List.length_cons, List.length_append, List.length_nil]; omega)) only [Try.f60, if_pos, go_sem, Nat.reduceAdd, Nat.reduceMul, Nat.reduceSub]
  refine Runs.call' (as' := [.v (.int .i64 3), .sl (.ow 1) ((0 :: B).map u8A)]) (by simp [u8A]) (leaf hm 3 (0 :: B)) ?_
  simp (decide := true) only [nodeO, nodesO, go_sem, Nat.reduceAdd, Nat.reduceMul, Nat.reduceSub]
  exact Runs.ret_refl
end Go.Proofs.W

namespace Go.Proofs.W
open Go Go.AM Go.Proofs.G
set_option linter.unusedSimpArgs false
set_option linter.unusedVariables false
variable (hm : Try.prog.follows .mixedOrders = true)
attribute [local go_sem] keyA edA prA cvA ptA

def natSz (N : List Int) : Nat := ((bitsZ N + 7) / 8).toNat
def padB : List Int → List Int
  | [] => [0]
  | x :: r => if x > 127 then 0 :: x :: r else x :: r
theorem padB_length (b : List Int) : (padB b).length ≤ b.length + 1 := by
  cases b with
  | nil => simp [padB]
  | cons x r => simp only [padB]; split <;> simp
theorem natSz_in {N : List Int} (h : inB (bitsZ N) 128 512 = true) : 16 ≤ natSz N ∧ natSz N ≤ 64 ∧ (bitsZ N + 7).tdiv 8 = natSz N ∧ bitsZ N ≤ 8 * (natSz N : Int) := by
  have := inB_t h
  unfold natSz
  refine ⟨by omega, by omega, ?_, by omega⟩
  rw [Int.tdiv_eq_ediv_of_nonneg (by omega)]
  omega
def natBB (N : List Int) : List Int := padB (natBy N (natSz N))
theorem natBB_le {N : List Int} (h : inB (bitsZ N) 128 512 = true) : (natBB N).length ≤ 65 := by
  have := padB_length (natBy N (natSz N))
  have := (natSz_in h).2.1
  rw [natBy_length] at *
  unfold natBB
  omega
theorem padU (x : Int) (r : List Int) : (if x > 127 then 0 :: x :: r else x :: r) = padB (x :: r) := rfl
set_option maxHeartbeats 1000000 in
set_option maxRecDepth 10000 in
include hm in
theorem l10Nat (N : List Int) (hN : natB N = true) (hb : inB (bitsZ N) 128 512 = true) : Holds Try.prog 44 [.sl .sh (N.map intA)] [] (.sl (.ow 3) [itemO ⟨2, natBB N, 0⟩]) [] := by
  obtain ⟨s1, s2, s3, s4⟩ := natSz_in hb
  have b1 := inB_t hb
  have hc := sNatBytes hm N (natSz N) hN (by omega) s4
  have hl := natBy_length N (natSz N)
  rw [natBB]
  generalize natBy N (natSz N) = B at *
  refine holds_ref (ann := []) tabOk hm (byL [] [47]) Try.func44 (by kernel_rfl) rfl ?_
  simp (decide := true) only [Try.f44, go_sem, Nat.reduceAdd, Nat.reduceMul, Nat.reduceSub]
  refine Runs.call (l1Bits hm N hN) ?_
  simp (decide := true) (disch := first | omega | (simp only [List.length_map, List.length_cons, List.length_append, List.length_nil]; omega)) only [s3, if_pos, go_sem, Nat.reduceAdd, Nat.reduceMul, Nat.reduceSub]
  refine Runs.call hc ?_
  cases B with
  | nil => simp at hl; omega
  | cons x r =>
    simp only [List.map_cons, List.length_cons] at hl ⊢
    have hd : decide (((r.length + 1 : Nat) : Int) = 0) = false := by simp; omega
    have hd2 : decide ((0 : Int) < ((r.length + 1 : Nat) : Int)) = true := by simp
    by_cases g : x > 127
    · have gd : decide (x > 127) = true := by simpa using g
      have hi := l10Item hm 2 (0 :: x :: r)
      have e : padB (x :: r) = 0 :: x :: r := by rw [padB, if_pos g]
      simp only [List.map_cons, u8A] at hi
      rw [e]
      simp (decide := true) (disch := first | omega | (simp only [List.length_map, List.length_cons, List.length_append, List.length_nil]; omega)) only [List.length_cons, List.length_map, hd, hd2, Int.toNat_zero, List.getD_cons_zero, gd, if_pos, go_sem, Nat.reduceAdd, Nat.reduceMul, Nat.reduceSub]
      refine Runs.call hi ?_
      simp (decide := true) (disch := first | omega | (simp only [List.length_map, List.length_cons, List.length_append, List.length_nil]; omega)) only [itemO, if_pos, go_sem, Nat.reduceAdd, Nat.reduceMul, Nat.reduceSub]
      exact Runs.ret_refl
    · have gd : decide (x > 127) = false := by simpa using g
      have hi := l10Item hm 2 (x :: r)
      have e : padB (x :: r) = x :: r := by rw [padB, if_neg g]
      simp only [List.map_cons, u8A] at hi
      rw [e]
      simp (decide := true) (disch := first | omega | (simp only [List.length_map, List.length_cons, List.length_append, List.length_nil]; omega)) only [List.length_cons, List.length_map, hd, hd2, Int.toNat_zero, List.getD_cons_zero, gd, if_pos, go_sem, Nat.reduceAdd, Nat.reduceMul, Nat.reduceSub]
      refine Runs.call hi ?_
      simp (decide := true) (disch := first | omega | (simp only [List.length_map, List.length_cons, List.length_append, List.length_nil]; omega)) only [itemO, if_pos, go_sem, Nat.reduceAdd, Nat.reduceMul, Nat.reduceSub]
      exact Runs.ret_refl
set_option maxHeartbeats 1000000 in
set_option maxRecDepth 10000 in
include hm in
theorem natural (N : List Int) (hN : natB N = true) (hb : inB (bitsZ N) 128 512 = true) : Holds Try.prog 58 [.sl .sh (N.map intA)] [] (nodeO (.mk 2 (natBB N) [])) [] := by
  obtain ⟨s1, s2, s3, s4⟩ := natSz_in hb
  have b1 := inB_t hb
  have hc := iNatBytes hm N (natSz N) hN (by omega) s4
  have hl := natBy_length N (natSz N)
  rw [natBB]
  generalize natBy N (natSz N) = B at *
  refine holds_ref (ann := []) tabOk hm (byL [] [81]) Try.func58 (by kernel_rfl) rfl ?_
  simp (decide := true) only [Try.f58, go_sem, Nat.reduceAdd, Nat.reduceMul, Nat.reduceSub]
  refine Runs.call (natBits hm N hN) ?_
  simp (decide := true) (disch := first | omega | (simp only [List.length_map, List.length_cons, List.length_append, List.length_nil]; omega)) only [s3, if_pos, go_sem, Nat.reduceAdd, Nat.reduceMul, Nat.reduceSub]
  refine Runs.call hc ?_
  cases B with
  | nil => simp at hl; omega
  | cons x r =>
    simp only [List.map_cons, List.length_cons] at hl ⊢
    have hd : decide (((r.length + 1 : Nat) : Int) = 0) = false := by simp; omega
    have hd2 : decide ((0 : Int) < ((r.length + 1 : Nat) : Int)) = true := by simp
    by_cases g : x > 127
    · have gd : decide (x > 127) = true := by simpa using g
      have hi := leaf hm 2 (0 :: x :: r)
      have e : padB (x :: r) = 0 :: x :: r := by rw [padB, if_pos g]
      simp only [List.map_cons, u8A] at hi
      rw [e]
      simp (decide := true) (disch := first | omega | (simp only [List.length_map, List.length_cons, List.length_append, List.length_nil]; omega)) only [List.length_cons, List.length_map, hd, hd2, Int.toNat_zero, List.getD_cons_zero, gd, if_pos, go_sem, Nat.reduceAdd, Nat.reduceMul, Nat.reduceSub]
      refine Runs.call hi ?_
      simp (decide := true) (disch := first | omega | (simp only [List.length_map, List.length_cons, List.length_append, List.length_nil]; omega)) only [nodeO, nodesO, if_pos, go_sem, Nat.reduceAdd, Nat.reduceMul, Nat.reduceSub]
      exact Runs.ret_refl
    · have gd : decide (x > 127) = false := by simpa using g
      have hi := leaf hm 2 (x :: r)
      have e : padB (x :: r) = x :: r := by rw [padB, if_neg g]
      simp only [List.map_cons, u8A] at hi
      rw [e]
      simp (decide := true) (disch := first | omega | (simp only [List.length_map, List.length_cons, List.length_append, List.length_nil]; omega)) only [List.length_cons, List.length_map, hd, hd2, Int.toNat_zero, List.getD_cons_zero, gd, if_pos, go_sem, Nat.reduceAdd, Nat.reduceMul, Nat.reduceSub]
      refine Runs.call hi ?_
      simp (decide := true) (disch := first | omega | (simp only [List.length_map, List.length_cons, List.length_append, List.length_nil]; omega)) only [nodeO, nodesO, if_pos, go_sem, Nat.reduceAdd, Nat.reduceMul, Nat.reduceSub]
      exact Runs.ret_refl
def threeB (x : Int) : List Int := [IntKind.u8.wrap (x.fdiv (2 ^ 16)), IntKind.u8.wrap (x.fdiv (2 ^ 8)), IntKind.u8.wrap x]
theorem s16' : min (16 : Int).toNat 64 = 16 := by decide
set_option maxRecDepth 10000 in
include hm in
theorem sThree (x : Int) : Holds Try.prog 72 [.v (.int .i64 x)] [] (.sl (.ow 1) ((threeB x).map u8A)) [] := by
  refine holds_of (ann := []) tabOk hm Try.func72 (by kernel_rfl) rfl ?_
  simp (decide := true) only [Try.f72, s8, s16', IntKind.bits, threeB, List.map_cons, List.map_nil, go_sem, Nat.reduceAdd, Nat.reduceMul, Nat.reduceSub]
  exact Runs.ret_refl
set_option maxRecDepth 10000 in
include hm in
theorem iThree (x : Int) : Holds Try.prog 84 [.v (.int .i64 x)] [] (.sl (.ow 1) ((threeB x).map u8A)) [] := by
  refine holds_of (ann := []) tabOk hm Try.func84 (by kernel_rfl) rfl ?_
  simp (decide := true) only [Try.f84, s8, s16', IntKind.bits, threeB, List.map_cons, List.map_nil, go_sem, Nat.reduceAdd, Nat.reduceMul, Nat.reduceSub]
  exact Runs.ret_refl
def ptBy (q : GPt) : List Int := 4 :: (threeB q.x ++ threeB q.y)
def spbS : Sched := .take 1 (.take 5 (.ld 2 (.ld 6 (.alt 0 (.alt 3 (.alt 4 (.alt 7 (.alt 8 (.take 9 (.take 10 .fin)) .nil) .nil) .nil) .nil) (.alt 3 (.alt 0 (.alt 4 (.alt 7 (.alt 8 (.take 9 (.take 10 .fin)) .nil) .nil) .nil) .nil) .nil)))))
attribute [local go_sem] spbS
set_option maxHeartbeats 1000000 in
set_option maxRecDepth 10000 in
include hm in
theorem sPointBytes (k : GCv) (q : GPt) (h : (curveB k && onZ k.p k.a k.b q) = true) (hf : q.far = false) :
    Holds Try.prog 45 [cvA k, ptA q, .v (.bool false)] [] (.tup [.sl (.ow 1) ((ptBy q).map u8A), .v (.bool true)]) [] := by
  have hc := sPointOk hm k q
  rw [h] at hc
  have h1 := sThree hm q.x
  have h2 := sThree hm q.y
  rw [threeB] at h1 h2
  simp only [List.map_cons, List.map_nil] at h1 h2
  refine holds_ref (ann := []) tabOk hm (byL [] [1000003, 1000004]) Try.func45 (by kernel_rfl) rfl ?_
  simp (decide := true) only [Try.f45, hf, go_sem, Nat.reduceAdd, Nat.reduceMul, Nat.reduceSub]
  rw [cvA, ptA, hf] at hc
  refine Runs.call hc ?_
  simp (decide := true) only [hf, go_sem, Nat.reduceAdd, Nat.reduceMul, Nat.reduceSub]
  refine Runs.draw (st1 := ?s1) (draws_ref (ann := []) tabOk (byL [] [1000003, 1000004]) spbS (by kernel_rfl) ?p1) ?q1
  case p1 =>
    intro K r X hK
    simp (decide := true) (disch := first | omega | (simp only [List.length_map, List.length_cons, List.length_append, List.length_nil]; omega)) only [if_pos, go_sem, Nat.reduceAdd, Nat.reduceMul, Nat.reduceSub]
    repeat' apply And.intro
    all_goals
      refine Runs.call h1 ?_
      simp (decide := true) (disch := first | omega | (simp only [List.length_map, List.length_cons, List.length_append, List.length_nil]; omega)) only [if_pos, go_sem, Nat.reduceAdd, Nat.reduceMul, Nat.reduceSub]
      refine Runs.call h2 ?_
      simp (decide := true) (disch := first | omega | (simp only [List.length_map, List.length_cons, List.length_append, List.length_nil]; omega)) only [if_pos, go_sem, Nat.reduceAdd, Nat.reduceMul, Nat.reduceSub]
      exact hK
  case q1 =>
    simp (decide := true) (disch := first | omega | (simp only [List.length_map, List.length_cons, List.length_append, List.length_nil]; omega)) only [ptBy, threeB, List.map_cons, List.map_append, List.map_nil, if_pos, go_sem, Nat.reduceAdd, Nat.reduceMul, Nat.reduceSub]
    exact Runs.ret_refl
def ipbS : Sched := .take 1 (.take 5 (.ld 2 (.ld 6 (.alt 0 (.alt 3 (.alt 4 (.alt 7 (.alt 8 (.take 9 .fin) .nil) .nil) .nil) .nil) (.alt 3 (.alt 0 (.alt 4 (.alt 7 (.alt 8 (.take 9 .fin) .nil) .nil) .nil) .nil) .nil)))))
attribute [local go_sem] ipbS
set_option maxHeartbeats 1000000 in
set_option maxRecDepth 10000 in
include hm in
theorem iPointBytes (q : GPt) (hf : q.far = false) : Holds Try.prog 61 [ptA q, .v (.bool false)] [] (.sl (.ow 1) ((ptBy q).map u8A)) [] := by
  have h1 := iThree hm q.x
  have h2 := iThree hm q.y
  rw [threeB] at h1 h2
  simp only [List.map_cons, List.map_nil] at h1 h2
  refine holds_ref (ann := []) tabOk hm (byL [] [1000002]) Try.func61 (by kernel_rfl) rfl ?_
  simp (decide := true) only [Try.f61, hf, go_sem, Nat.reduceAdd, Nat.reduceMul, Nat.reduceSub]
  refine Runs.draw (st1 := ?s1) (draws_ref (ann := []) tabOk (byL [] [1000002]) ipbS (by kernel_rfl) ?p1) ?q1
  case p1 =>
    intro K r X hK
    simp (decide := true) (disch := first | omega | (simp only [List.length_map, List.length_cons, List.length_append, List.length_nil]; omega)) only [if_pos, go_sem, Nat.reduceAdd, Nat.reduceMul, Nat.reduceSub]
    repeat' apply And.intro
    all_goals
      refine Runs.call h1 ?_
      simp (decide := true) (disch := first | omega | (simp only [List.length_map, List.length_cons, List.length_append, List.length_nil]; omega)) only [if_pos, go_sem, Nat.reduceAdd, Nat.reduceMul, Nat.reduceSub]
      refine Runs.call h2 ?_
      simp (decide := true) (disch := first | omega | (simp only [List.length_map, List.length_cons, List.length_append, List.length_nil]; omega)) only [if_pos, go_sem, Nat.reduceAdd, Nat.reduceMul, Nat.reduceSub]
      exact hK
  case q1 =>
    simp (decide := true) (disch := first | omega | (simp only [List.length_map, List.length_cons, List.length_append, List.length_nil]; omega)) only [ptBy, threeB, List.map_cons, List.map_append, List.map_nil, if_pos, go_sem, Nat.reduceAdd, Nat.reduceMul, Nat.reduceSub]
    exact Runs.ret_refl
def edBy (a : GPr) : List Int := [IntKind.u8.wrap a.2, IntKind.u8.wrap (a.2.fdiv (2 ^ 8)), IntKind.u8.wrap (a.2.fdiv (2 ^ 16) + 128 * a.1.tmod 2)]
theorem or128 : ∀ n : Fin 128, IntKind.i64.wrap ((BitVec.ofInt 64 (n.1 : Int) ||| BitVec.ofInt 64 128).toNat) = (n.1 : Int) + 128 ∧ IntKind.i64.wrap ((BitVec.ofInt 64 (n.1 : Int) ||| BitVec.ofInt 64 0).toNat) = (n.1 : Int) := by decide
set_option maxHeartbeats 1000000 in
set_option maxRecDepth 10000 in
include hm in
theorem sEdBytes (k : GEd) (a : GPr) (h : (edB k && eonZ k.p k.d a) = true) : Holds Try.prog 48 [edA k, prA a] [] (.tup [.sl (.ow 1) ((edBy a).map u8A), .v (.bool true)]) [] := by
  have hc := sPairOk hm k a
  rw [h, edA, prA] at hc
  simp only [Bool.and_eq_true] at h
  have hi := eonZ_in h.2
  have hp := ed_in h.1
  obtain ⟨⟨i1, i2⟩, i3, i4⟩ := hi
  obtain ⟨p1, p2, _⟩ := hp
  have m1 : 0 ≤ a.1.tmod 2 ∧ a.1.tmod 2 ≤ 1 := by rw [Int.tmod_eq_emod_of_nonneg (by omega)]; omega
  have f1 : 0 ≤ a.2.fdiv (2 ^ 16) ∧ a.2.fdiv (2 ^ 16) ≤ 100 := by rw [Int.fdiv_eq_ediv_of_nonneg _ (by omega)]; omega
  have w1 : IntKind.i64.wrap (128 * a.1.tmod 2) = 128 * a.1.tmod 2 := wrap_i64 (by omega) (by omega)
  have w2 : IntKind.i64.wrap (a.2.fdiv (2 ^ 16) + 128 * a.1.tmod 2) = a.2.fdiv (2 ^ 16) + 128 * a.1.tmod 2 := wrap_i64 (by omega) (by omega)
  refine holds_ref (ann := []) tabOk hm (byL [] [1000002, 1000003]) Try.func48 (by kernel_rfl) rfl ?_
  simp (decide := true) only [Try.f48, go_sem, Nat.reduceAdd, Nat.reduceMul, Nat.reduceSub]
  refine Runs.call hc ?_
  simp (decide := true) only [s8, s16', IntKind.bits, w1, w2, edBy, List.map_cons, List.map_nil, go_sem, Nat.reduceAdd, Nat.reduceMul, Nat.reduceSub]
  exact Runs.ret_refl
set_option maxHeartbeats 1000000 in
set_option maxRecDepth 10000 in
include hm in
theorem iEdBytes (k : GEd) (a : GPr) (h : (edB k && eonZ k.p k.d a) = true) : Holds Try.prog 62 [prA a] [] (.sl (.ow 1) ((edBy a).map u8A)) [] := by
  simp only [Bool.and_eq_true] at h
  have hi := eonZ_in h.2
  have hp := ed_in h.1
  obtain ⟨⟨i1, i2⟩, i3, i4⟩ := hi
  obtain ⟨p1, p2, _⟩ := hp
  have m1 : a.1.tmod 2 = 0 ∨ a.1.tmod 2 = 1 := by rw [Int.tmod_eq_emod_of_nonneg (by omega)]; omega
  have f1 : 0 ≤ a.2.fdiv (2 ^ 16) ∧ a.2.fdiv (2 ^ 16) < 128 := by rw [Int.fdiv_eq_ediv_of_nonneg _ (by omega)]; omega
  have s7 : min (7 : Int).toNat 64 = 7 := by decide
  have w1 : IntKind.i64.wrap (a.1.tmod 2 * 2 ^ 7) = 128 * a.1.tmod 2 := by rw [wrap_i64 (by omega) (by omega)]; omega
  have w2 : IntKind.i64.wrap ((BitVec.ofInt 64 (a.2.fdiv (2 ^ 16)) ||| BitVec.ofInt 64 (128 * a.1.tmod 2)).toNat) = a.2.fdiv (2 ^ 16) + 128 * a.1.tmod 2 := by
    have := or128 ⟨(a.2.fdiv (2 ^ 16)).toNat, by omega⟩
    simp only [Int.toNat_of_nonneg f1.1] at this
    rcases m1 with m | m <;> rw [m]
    · rw [show (128 : Int) * 0 = 0 from rfl, this.2]; omega
    · rw [show (128 : Int) * 1 = 128 from rfl, this.1]
  refine holds_ref (ann := []) tabOk hm (byL [] [1000001]) Try.func62 (by kernel_rfl) rfl ?_
  have w3 : orI .i64 (a.2.fdiv (2 ^ 16)) (128 * a.1.tmod 2) = a.2.fdiv (2 ^ 16) + 128 * a.1.tmod 2 := w2
  simp (decide := true) only [Try.f62, s7, s8, s16', IntKind.bits, w1, w3, edBy, List.map_cons, List.map_nil, go_sem, Nat.reduceAdd, Nat.reduceMul, Nat.reduceSub]
  exact Runs.ret_refl
def keyInts (k : GKey) : List Int := if k.kind = 2 then [2, k.cv.p, k.cv.a, k.cv.b, k.cv.n, k.cv.gx, k.cv.gy] else [3, k.ed.p, k.ed.d, k.ed.l, k.ed.bx, k.ed.by']
def keyPt (k : GKey) : List Int := if k.kind = 2 then ptBy k.q else edBy k.a
/-- A key's items, and its node. -/
def keyT (k : GKey) : List It :=
  if k.kind = 1 then [⟨48, [], 3⟩, intI 1, ⟨2, natBB k.N, 0⟩, intI k.e]
  else ⟨48, [], ((keyInts k).length + 1 : Nat)⟩ :: ((keyInts k).map intI ++ [⟨3, 0 :: keyPt k, 0⟩])
def keyNd (k : GKey) : Nd :=
  if k.kind = 1 then .mk 48 [] [intN 1, .mk 2 (natBB k.N) [], intN k.e]
  else .mk 48 [] ((keyInts k).map intN ++ [.mk 3 (0 :: keyPt k) []])
theorem keyInts_in {k : GKey} (h : keyB k = true) (h1 : k.kind ≠ 1) : ∀ n ∈ keyInts k, -9223372036854775808 ≤ n ∧ n < 9223372036854775808 := by
  unfold keyB at h
  rw [if_neg h1] at h
  unfold keyInts
  split at h
  · rename_i h2
    rw [if_pos h2]
    simp only [Bool.and_eq_true] at h
    have hc := curve_in h.2.2.1.1
    have h3 := h.2.2.1.1
    simp only [curveB, Bool.and_eq_true] at h3
    obtain ⟨⟨⟨⟨⟨⟨⟨⟨⟨c1, _⟩, _⟩, c4⟩, c5⟩, c6⟩, _⟩, _⟩, c9⟩, _⟩ := h3
    have := inB_t c1
    have := inB_t c4
    have := inB_t c5
    have := inB_t c6
    have hp := onZ_in (by omega) c9
    obtain ⟨⟨_, _⟩, _, _⟩ := hp
    simp only at *
    intro n hn
    simp only [List.mem_cons, List.not_mem_nil, or_false] at hn
    omega
  · split at h
    · rename_i h2 h3
      rw [if_neg h2]
      simp only [Bool.and_eq_true] at h
      have h3 := h.2.2.1
      simp only [edB, Bool.and_eq_true] at h3
      obtain ⟨⟨⟨⟨⟨⟨⟨⟨⟨c1, _⟩, _⟩, c4⟩, _⟩, c6⟩, _⟩, c8⟩, _⟩, _⟩ := h3
      have := inB_t c1
      have := inB_t c4
      have := inB_t c6
      have hp := eonZ_in c8
      obtain ⟨⟨_, _⟩, _, _⟩ := hp
      simp only at *
      intro n hn
      simp only [List.mem_cons, List.not_mem_nil, or_false] at hn
      omega
    · simp at h
theorem keyInts_len (k : GKey) : (keyInts k).length ≤ 7 := by unfold keyInts; split <;> simp
theorem keyPt_len (k : GKey) : (keyPt k).length ≤ 7 := by unfold keyPt; split <;> simp [ptBy, threeB, edBy]
def lkS : Sched := .take 1 (.take 5 (.ld 2 (.ld 6 (.alt 0 (.alt 3 (.alt 4 (.alt 7 (.alt 8 (.alt 9 (.take 10 .fin) .nil) .nil) .nil) .nil) .nil) .nil))))
attribute [local go_sem] lkS
set_option maxHeartbeats 4000000 in
set_option maxRecDepth 10000 in
include hm in
theorem l10Key (k : GKey) (h : keyB k = true) : Holds Try.prog 15 [keyA k] [] (.sl (.ow 3) ((keyT k).map itemO)) [] := by
  have hi := keyInts_in h
  unfold keyB at h
  refine holds_ref (ann := []) tabOk hm (byL [] [42, 47, 1000001]) Try.func15 (by kernel_rfl) rfl ?_
  simp (decide := true) (maxSteps := 2000000) only [Try.f15, go_sem, Nat.reduceAdd, Nat.reduceMul, Nat.reduceSub]
  refine Runs.split (fun k1 => ?_) (fun k1 => ?_)
  · have k1' : k.kind = 1 := by simpa using k1
    rw [if_pos k1'] at h
    simp only [Bool.and_eq_true] at h
    obtain ⟨_, _, hN, hb, _, he, _⟩ := h
    have he := inB_t he
    have c1 := l10Int hm 1 (by omega) (by omega)
    have c2 := l10Nat hm k.N hN hb
    have c3 := l10Int hm k.e (by omega) (by omega)
    have c4 := l10Made hm 48 3 [intI 1, ⟨2, natBB k.N, 0⟩, intI k.e] (by simp)
    clear hi
    have e : keyT k = ⟨48, [], 3⟩ :: [intI 1, ⟨2, natBB k.N, 0⟩, intI k.e] := by rw [keyT, if_pos k1']
    rw [e]
    simp (decide := true) (maxSteps := 2000000) only [go_sem, Nat.reduceAdd, Nat.reduceMul, Nat.reduceSub]
    refine Runs.draw (st1 := ?s1) (draws_ref (ann := []) tabOk (byL [] [42, 47, 1000001]) lkS (by kernel_rfl) ?p1) ?q1
    case p1 =>
      intro K r X hK
      simp (decide := true) (maxSteps := 2000000) only [go_sem, Nat.reduceAdd, Nat.reduceMul, Nat.reduceSub]
      repeat' apply And.intro
      all_goals
        refine Runs.call c1 ?_
        simp (decide := true) (maxSteps := 2000000) (disch := first | omega | (simp only [List.length_map, List.length_cons, List.length_append, List.length_nil]; omega)) only [if_pos, go_sem, Nat.reduceAdd, Nat.reduceMul, Nat.reduceSub]
        refine Runs.call c2 ?_
        simp (decide := true) (maxSteps := 2000000) (disch := first | omega | (simp only [List.length_map, List.length_cons, List.length_append, List.length_nil]; omega)) only [if_pos, go_sem, Nat.reduceAdd, Nat.reduceMul, Nat.reduceSub]
        refine Runs.call c3 ?_
        simp (decide := true) (maxSteps := 2000000) (disch := first | omega | (simp only [List.length_map, List.length_cons, List.length_append, List.length_nil]; omega)) only [if_pos, go_sem, Nat.reduceAdd, Nat.reduceMul, Nat.reduceSub]
        refine Runs.call' (as' := [.v (.int .i64 48), .v (.int .i64 3), .sl (.ow 3) ([intI 1, ⟨2, natBB k.N, 0⟩, intI k.e].map itemO)]) (by simp [intI, mdL, md1_itemO]) c4 ?_
        simp (decide := true) (maxSteps := 2000000) (disch := first | omega | (simp only [List.length_map, List.length_cons, List.length_append, List.length_nil]; omega)) only [if_pos, go_sem, Nat.reduceAdd, Nat.reduceMul, Nat.reduceSub]
        exact hK
    case q1 =>
      simp (decide := true) (maxSteps := 2000000) (disch := first | omega | (simp only [List.length_map, List.length_cons, List.length_append, List.length_nil]; omega)) only [if_pos, go_sem, Nat.reduceAdd, Nat.reduceMul, Nat.reduceSub]
      exact Runs.ret_refl
  · have k1' : k.kind ≠ 1 := by simpa using k1
    rw [if_neg k1'] at h
    have hi := hi k1'
    have c2 := l10Ints hm (keyInts k) (by have := keyInts_len k; omega) hi
    have e : keyT k = ⟨48, [], ((keyInts k).length + 1 : Nat)⟩ :: ((keyInts k).map intI ++ [⟨3, 0 :: keyPt k, 0⟩]) := by rw [keyT, if_neg k1']
    rw [e]
    simp (decide := true) (maxSteps := 2000000) only [go_sem, Nat.reduceAdd, Nat.reduceMul, Nat.reduceSub]
    refine Runs.split (fun k2 => ?_) (fun k2 => ?_)
    · have k2' : k.kind = 2 := by simpa using k2
      rw [if_pos k2'] at h
      simp only [Bool.and_eq_true] at h
      obtain ⟨_, _, hP, hf, _⟩ := h
      have hf : k.q.far = false := by simpa using hf
      have c1 := sPointBytes hm k.cv k.q (by simpa [Bool.and_eq_true] using hP) hf
      have ek : (keyInts k).map intA = [.v (.int .i64 2), .v (.int .i64 k.cv.p), .v (.int .i64 k.cv.a), .v (.int .i64 k.cv.b), .v (.int .i64 k.cv.n), .v (.int .i64 k.cv.gx), .v (.int .i64 k.cv.gy)] := by
        rw [keyInts, if_pos k2']; rfl
      have el : (keyInts k).length = 7 := by rw [keyInts, if_pos k2']; rfl
      have ep : keyPt k = ptBy k.q := by rw [keyPt, if_pos k2']
      rw [ek] at c2
      rw [cvA, ptA, hf] at c1
      rw [el, ep]
      have hJ : ((keyInts k).map intI).length = 7 := by rw [List.length_map, el]
      have hB : (ptBy k.q).length = 7 := rfl
      clear hi ek e
      generalize (keyInts k).map intI = J at *
      generalize ptBy k.q = B at *
      have c3 := l10Item hm 3 (0 :: B)
      have c4 := l10Made hm 48 8 (J ++ [⟨3, 0 :: B, 0⟩]) (by simp; omega)
      have hJ2 : (J.map itemO).length = 7 := by rw [List.length_map, hJ]
      have hB2 : (B.map u8A).length = 7 := by rw [List.length_map, hB]
      have hJt : List.take 7 (J.map itemO) = J.map itemO := List.take_of_length_le (by omega)
      have hBt : List.take 7 (B.map u8A) = B.map u8A := List.take_of_length_le (by omega)
      simp (decide := true) (maxSteps := 2000000) (disch := first | omega | (simp only [List.length_map, List.length_cons, List.length_append, List.length_nil]; omega)) only [hf, if_pos, go_sem, Nat.reduceAdd, Nat.reduceMul, Nat.reduceSub]
      refine Runs.call c1 ?_
      simp (decide := true) (maxSteps := 2000000) (disch := first | omega | (simp only [List.length_map, List.length_cons, List.length_append, List.length_nil]; omega)) only [hf, hB2, hBt, if_pos, go_sem, Nat.reduceAdd, Nat.reduceMul, Nat.reduceSub]
      refine Runs.call c2 ?_
      simp (decide := true) (maxSteps := 2000000) (disch := first | omega | (simp only [List.length_map, List.length_cons, List.length_append, List.length_nil]; omega)) only [hf, hB2, hBt, hJ2, hJt, if_pos, go_sem, Nat.reduceAdd, Nat.reduceMul, Nat.reduceSub]
      refine Runs.call' (as' := [.v (.int .i64 3), .sl (.ow 1) ((0 :: B).map u8A)]) (by simp [u8A, mdL, A.md, md_u8A]) c3 ?_
      simp (decide := true) (maxSteps := 2000000) (disch := first | omega | (simp only [List.length_map, List.length_cons, List.length_append, List.length_nil]; omega)) only [hf, hB2, hBt, hJ2, hJt, List.length_append, if_pos, go_sem, Nat.reduceAdd, Nat.reduceMul, Nat.reduceSub]
      refine Runs.call' (as' := [.v (.int .i64 48), .v (.int .i64 8), .sl (.ow 3) ((J ++ ([⟨3, 0 :: B, 0⟩] : List It)).map itemO)]) (by simp [mdL_append, md_itemO, mdL, md1_itemO, -List.map_map]) c4 ?_
      simp (decide := true) (maxSteps := 2000000) (disch := first | omega | (simp only [List.length_map, List.length_cons, List.length_append, List.length_nil]; omega)) only [if_pos, go_sem, Nat.reduceAdd, Nat.reduceMul, Nat.reduceSub]
      exact Runs.ret_refl
    · have k2' : k.kind ≠ 2 := by simpa using k2
      rw [if_neg k2'] at h
      split at h
      case isFalse => simp at h
      simp only [Bool.and_eq_true] at h
      obtain ⟨_, _, hP⟩ := h
      have c1 := sEdBytes hm k.ed k.a (by simpa [Bool.and_eq_true] using hP)
      have ek : (keyInts k).map intA = [.v (.int .i64 3), .v (.int .i64 k.ed.p), .v (.int .i64 k.ed.d), .v (.int .i64 k.ed.l), .v (.int .i64 k.ed.bx), .v (.int .i64 k.ed.by')] := by
        rw [keyInts, if_neg k2']; rfl
      have el : (keyInts k).length = 6 := by rw [keyInts, if_neg k2']; rfl
      have ep : keyPt k = edBy k.a := by rw [keyPt, if_neg k2']
      rw [ek] at c2
      rw [edA, prA] at c1
      rw [el, ep]
      have hJ : ((keyInts k).map intI).length = 6 := by rw [List.length_map, el]
      have hB : (edBy k.a).length = 3 := rfl
      clear hi ek e
      generalize (keyInts k).map intI = J at *
      generalize edBy k.a = B at *
      have c3 := l10Item hm 3 (0 :: B)
      have c4 := l10Made hm 48 7 (J ++ [⟨3, 0 :: B, 0⟩]) (by simp; omega)
      have hJ2 : (J.map itemO).length = 6 := by rw [List.length_map, hJ]
      have hB2 : (B.map u8A).length = 3 := by rw [List.length_map, hB]
      have hJt : List.take 6 (J.map itemO) = J.map itemO := List.take_of_length_le (by omega)
      have hBt : List.take 3 (B.map u8A) = B.map u8A := List.take_of_length_le (by omega)
      simp (decide := true) (maxSteps := 2000000) (disch := first | omega | (simp only [List.length_map, List.length_cons, List.length_append, List.length_nil]; omega)) only [if_pos, go_sem, Nat.reduceAdd, Nat.reduceMul, Nat.reduceSub]
      refine Runs.call c1 ?_
      simp (decide := true) (maxSteps := 2000000) (disch := first | omega | (simp only [List.length_map, List.length_cons, List.length_append, List.length_nil]; omega)) only [hB2, hBt, if_pos, go_sem, Nat.reduceAdd, Nat.reduceMul, Nat.reduceSub]
      refine Runs.call c2 ?_
      simp (decide := true) (maxSteps := 2000000) (disch := first | omega | (simp only [List.length_map, List.length_cons, List.length_append, List.length_nil]; omega)) only [hB2, hBt, hJ2, hJt, if_pos, go_sem, Nat.reduceAdd, Nat.reduceMul, Nat.reduceSub]
      refine Runs.call' (as' := [.v (.int .i64 3), .sl (.ow 1) ((0 :: B).map u8A)]) (by simp [u8A, mdL, A.md, md_u8A]) c3 ?_
      simp (decide := true) (maxSteps := 2000000) (disch := first | omega | (simp only [List.length_map, List.length_cons, List.length_append, List.length_nil]; omega)) only [hB2, hBt, hJ2, hJt, List.length_append, if_pos, go_sem, Nat.reduceAdd, Nat.reduceMul, Nat.reduceSub]
      refine Runs.call' (as' := [.v (.int .i64 48), .v (.int .i64 7), .sl (.ow 3) ((J ++ ([⟨3, 0 :: B, 0⟩] : List It)).map itemO)]) (by simp [mdL_append, md_itemO, mdL, md1_itemO, -List.map_map]) c4 ?_
      simp (decide := true) (maxSteps := 2000000) (disch := first | omega | (simp only [List.length_map, List.length_cons, List.length_append, List.length_nil]; omega)) only [if_pos, go_sem, Nat.reduceAdd, Nat.reduceMul, Nat.reduceSub]
      exact Runs.ret_refl
end Go.Proofs.W

namespace Go.Proofs.W
open Go Go.AM Go.Proofs.G
set_option linter.unusedSimpArgs false
set_option linter.unusedVariables false
variable (hm : Try.prog.follows .mixedOrders = true)
attribute [local go_sem] keyA edA prA cvA ptA
def knS3 : Sched := .take 1 (.take 4 (.ld 2 (.ld 5 (.alt 0 (.alt 3 (.alt 6 (.alt 7 (.alt 8 (.alt 9 .fin .nil) .nil) .nil) .nil) .nil) .nil))))
def knS6 : Sched := .take 0 (.take 2 (.take 4 (.take 6 (.take 8 (.take 10 (.take 14 (.lds 192 [1, 3, 5, 7, 9, 11] (.ld 15 (.alt 12 (.alt 13 (.alt 16 (.alt 17 (.alt 18 (.alt 19 (.alt 20 (.alt 21 .fin .nil) .nil) .nil) .nil) .nil) .nil) .nil) .nil)))))))))
def knS8 : Sched := .take 0 (.take 2 (.take 4 (.take 6 (.take 8 (.take 12 (.lds 256 [1, 3, 5, 7, 9] (.ld 13 (.alt 10 (.alt 11 (.alt 14 (.alt 15 (.alt 16 (.alt 17 (.alt 18 (.alt 19 .fin .nil) .nil) .nil) .nil) .nil) .nil) .nil) .nil))))))))
attribute [local go_sem] knS3 knS6 knS8
theorem nodesO_app (l : List Nd) (n : Nd) : nodesO (l ++ [n]) = nodesO l ++ [nodeO n] := by rw [nodesO_eq, nodesO_eq, List.map_append]; rfl
set_option maxHeartbeats 4000000 in
set_option maxRecDepth 10000 in
include hm in
theorem keyNode (k : GKey) (h : keyB k = true) : Holds Try.prog 22 [keyA k] [] (nodeO (keyNd k)) [] := by
  have hi := keyInts_in h
  unfold keyB at h
  refine holds_ref (ann := []) tabOk hm (byL [] [56, 1000001]) Try.func22 (by kernel_rfl) rfl ?_
  simp (decide := true) (maxSteps := 2000000) only [Try.f22, go_sem, Nat.reduceAdd, Nat.reduceMul, Nat.reduceSub]
  refine Runs.split (fun k1 => ?_) (fun k1 => ?_)
  · have k1' : k.kind = 1 := by simpa using k1
    rw [if_pos k1'] at h
    simp only [Bool.and_eq_true] at h
    obtain ⟨_, _, hN, hb, _, he, _⟩ := h
    have he := inB_t he
    have c1 := integer hm 1 (by omega) (by omega)
    have c2 := natural hm k.N hN hb
    have c3 := integer hm k.e (by omega) (by omega)
    have c4 := listN hm 48 [intN 1, .mk 2 (natBB k.N) [], intN k.e]
    clear hi
    have e : keyNd k = .mk 48 [] [intN 1, .mk 2 (natBB k.N) [], intN k.e] := by rw [keyNd, if_pos k1']
    rw [e]
    simp (decide := true) (maxSteps := 2000000) only [go_sem, Nat.reduceAdd, Nat.reduceMul, Nat.reduceSub]
    refine Runs.draw (st1 := ?s1) (draws_ref (ann := []) tabOk (byL [] [56, 1000001]) knS3 (by kernel_rfl) ?p1) ?q1
    case p1 =>
      intro K r X hK
      simp (decide := true) (maxSteps := 2000000) only [go_sem, Nat.reduceAdd, Nat.reduceMul, Nat.reduceSub]
      repeat' apply And.intro
      all_goals
        refine Runs.call c1 ?_
        simp (decide := true) (maxSteps := 2000000) (disch := first | omega | (simp only [List.length_map, List.length_cons, List.length_append, List.length_nil]; omega)) only [nodeO, nodesO, if_pos, go_sem, Nat.reduceAdd, Nat.reduceMul, Nat.reduceSub]
        refine Runs.call c2 ?_
        simp (decide := true) (maxSteps := 2000000) (disch := first | omega | (simp only [List.length_map, List.length_cons, List.length_append, List.length_nil]; omega)) only [nodeO, nodesO, if_pos, go_sem, Nat.reduceAdd, Nat.reduceMul, Nat.reduceSub]
        refine Runs.call c3 ?_
        simp (decide := true) (maxSteps := 2000000) (disch := first | omega | (simp only [List.length_map, List.length_cons, List.length_append, List.length_nil]; omega)) only [nodeO, nodesO, if_pos, go_sem, Nat.reduceAdd, Nat.reduceMul, Nat.reduceSub]
        refine Runs.call' (as' := [.v (.int .i64 48), .sl (.ow 3) (nodesO [intN 1, .mk 2 (natBB k.N) [], intN k.e])]) (by simp [nodeO, nodesO, intN, mdL, A.md, md_u8A]) c4 ?_
        simp (decide := true) (maxSteps := 2000000) (disch := first | omega | (simp only [List.length_map, List.length_cons, List.length_append, List.length_nil]; omega)) only [nodeO, nodesO, if_pos, go_sem, Nat.reduceAdd, Nat.reduceMul, Nat.reduceSub]
        exact hK
    case q1 =>
      simp (decide := true) (maxSteps := 2000000) (disch := first | omega | (simp only [List.length_map, List.length_cons, List.length_append, List.length_nil]; omega)) only [nodeO, nodesO, intN, if_pos, go_sem, Nat.reduceAdd, Nat.reduceMul, Nat.reduceSub]
      exact Runs.ret_refl
  · have k1' : k.kind ≠ 1 := by simpa using k1
    rw [if_neg k1'] at h
    have hi := hi k1'
    have c2 := integers hm (keyInts k) (by have := keyInts_len k; omega) hi
    have e : keyNd k = .mk 48 [] ((keyInts k).map intN ++ [.mk 3 (0 :: keyPt k) []]) := by rw [keyNd, if_neg k1']
    rw [e]
    simp (decide := true) (maxSteps := 2000000) only [go_sem, Nat.reduceAdd, Nat.reduceMul, Nat.reduceSub]
    refine Runs.split (fun k2 => ?_) (fun k2 => ?_)
    · have k2' : k.kind = 2 := by simpa using k2
      rw [if_pos k2'] at h
      simp only [Bool.and_eq_true] at h
      obtain ⟨_, _, hP, hf, _⟩ := h
      have hf : k.q.far = false := by simpa using hf
      have c1 := iPointBytes hm k.q hf
      have ek : (keyInts k).map intA = [.v (.int .i64 2), .v (.int .i64 k.cv.p), .v (.int .i64 k.cv.a), .v (.int .i64 k.cv.b), .v (.int .i64 k.cv.n), .v (.int .i64 k.cv.gx), .v (.int .i64 k.cv.gy)] := by
        rw [keyInts, if_pos k2']; rfl
      have el : (keyInts k).length = 7 := by rw [keyInts, if_pos k2']; rfl
      have ep : keyPt k = ptBy k.q := by rw [keyPt, if_pos k2']
      rw [ek] at c2
      rw [ptA, hf] at c1
      rw [ep]
      have hJ : ((keyInts k).map intN).length = 7 := by rw [List.length_map, el]
      have hB : (ptBy k.q).length = 7 := rfl
      clear hi ek e
      generalize (keyInts k).map intN = J at *
      generalize ptBy k.q = B at *
      have c3 := bitsOf hm B (by omega)
      have c4 := listN hm 48 (J ++ [.mk 3 (0 :: B) []])
      have htk : List.take (J ++ ([.mk 3 (0 :: B) []] : List Nd)).length (nodesO (J ++ ([.mk 3 (0 :: B) []] : List Nd))) = nodesO (J ++ ([.mk 3 (0 :: B) []] : List Nd)) := List.take_of_length_le (by rw [nodesO_length]; exact Nat.le_refl _)
      have hJ2 : (nodesO J).length = 7 := by rw [nodesO_length, hJ]
      have hB2 : (B.map u8A).length = 7 := by rw [List.length_map, hB]
      have hJt : List.take 7 (nodesO J) = nodesO J := List.take_of_length_le (by omega)
      have hBt : List.take 7 (B.map u8A) = B.map u8A := List.take_of_length_le (by omega)
      simp (decide := true) (maxSteps := 2000000) (disch := first | omega | (simp only [List.length_map, List.length_cons, List.length_append, List.length_nil]; omega)) only [hf, if_pos, go_sem, Nat.reduceAdd, Nat.reduceMul, Nat.reduceSub]
      refine Runs.draw (st1 := ?s2) (draws_ref (ann := []) tabOk (byL [] [56, 1000001]) knS6 (by kernel_rfl) ?p2) ?q2
      case p2 =>
        intro K r X hK
        simp (decide := true) (maxSteps := 2000000) (disch := first | omega | (simp only [List.length_map, List.length_cons, List.length_append, List.length_nil]; omega)) only [hf, if_pos, go_sem, Nat.reduceAdd, Nat.reduceMul, Nat.reduceSub]
        repeat' apply And.intro
        all_goals
          refine Runs.call c2 ?_
          simp (decide := true) (maxSteps := 2000000) (disch := first | omega | (simp only [List.length_map, List.length_cons, List.length_append, List.length_nil]; omega)) only [hf, hB2, hBt, hJ2, hJt, if_pos, go_sem, Nat.reduceAdd, Nat.reduceMul, Nat.reduceSub]
          refine Runs.call c1 ?_
          simp (decide := true) (maxSteps := 2000000) (disch := first | omega | (simp only [List.length_map, List.length_cons, List.length_append, List.length_nil]; omega)) only [hf, hB2, hBt, hJ2, hJt, if_pos, go_sem, Nat.reduceAdd, Nat.reduceMul, Nat.reduceSub]
          refine Runs.call c3 ?_
          simp (decide := true) (maxSteps := 2000000) (disch := first | omega | (simp only [List.length_map, List.length_cons, List.length_append, List.length_nil]; omega)) only [hf, hB2, hBt, hJ2, hJt, nodeO, nodesO, List.length_append, if_pos, go_sem, Nat.reduceAdd, Nat.reduceMul, Nat.reduceSub]
          refine Runs.call' (as' := [.v (.int .i64 48), .sl (.ow 3) (nodesO (J ++ ([.mk 3 (0 :: B) []] : List Nd)))]) (by simp [nodesO_app, mdL_append, md_nodesO, mdL, nodeO, nodesO, A.md, md_u8A, u8A]) c4 ?_
          simp (decide := true) (maxSteps := 2000000) (disch := first | omega | (simp only [List.length_map, List.length_cons, List.length_append, List.length_nil]; omega)) only [nodeO, nodesO, if_pos, go_sem, Nat.reduceAdd, Nat.reduceMul, Nat.reduceSub]
          exact hK
      case q2 =>
        simp (decide := true) (maxSteps := 2000000) (disch := first | omega | (simp only [List.length_map, List.length_cons, List.length_append, List.length_nil]; omega)) only [nodeO, nodesO, htk, if_pos, go_sem, Nat.reduceAdd, Nat.reduceMul, Nat.reduceSub]
        exact Runs.ret_refl
    · have k2' : k.kind ≠ 2 := by simpa using k2
      rw [if_neg k2'] at h
      split at h
      case isFalse => simp at h
      simp only [Bool.and_eq_true] at h
      obtain ⟨_, _, hP⟩ := h
      have c1 := iEdBytes hm k.ed k.a (by simpa [Bool.and_eq_true] using hP)
      have ek : (keyInts k).map intA = [.v (.int .i64 3), .v (.int .i64 k.ed.p), .v (.int .i64 k.ed.d), .v (.int .i64 k.ed.l), .v (.int .i64 k.ed.bx), .v (.int .i64 k.ed.by')] := by
        rw [keyInts, if_neg k2']; rfl
      have el : (keyInts k).length = 6 := by rw [keyInts, if_neg k2']; rfl
      have ep : keyPt k = edBy k.a := by rw [keyPt, if_neg k2']
      rw [ek] at c2
      rw [prA] at c1
      rw [ep]
      have hJ : ((keyInts k).map intN).length = 6 := by rw [List.length_map, el]
      have hB : (edBy k.a).length = 3 := rfl
      clear hi ek e
      generalize (keyInts k).map intN = J at *
      generalize edBy k.a = B at *
      have c3 := bitsOf hm B (by omega)
      have c4 := listN hm 48 (J ++ [.mk 3 (0 :: B) []])
      have htk : List.take (J ++ ([.mk 3 (0 :: B) []] : List Nd)).length (nodesO (J ++ ([.mk 3 (0 :: B) []] : List Nd))) = nodesO (J ++ ([.mk 3 (0 :: B) []] : List Nd)) := List.take_of_length_le (by rw [nodesO_length]; exact Nat.le_refl _)
      have hJ2 : (nodesO J).length = 6 := by rw [nodesO_length, hJ]
      have hB2 : (B.map u8A).length = 3 := by rw [List.length_map, hB]
      have hJt : List.take 6 (nodesO J) = nodesO J := List.take_of_length_le (by omega)
      have hBt : List.take 3 (B.map u8A) = B.map u8A := List.take_of_length_le (by omega)
      simp (decide := true) (maxSteps := 2000000) (disch := first | omega | (simp only [List.length_map, List.length_cons, List.length_append, List.length_nil]; omega)) only [if_pos, go_sem, Nat.reduceAdd, Nat.reduceMul, Nat.reduceSub]
      refine Runs.draw (st1 := ?s3) (draws_ref (ann := []) tabOk (byL [] [56, 1000001]) knS8 (by kernel_rfl) ?p3) ?q3
      case p3 =>
        intro K r X hK
        simp (decide := true) (maxSteps := 2000000) (disch := first | omega | (simp only [List.length_map, List.length_cons, List.length_append, List.length_nil]; omega)) only [if_pos, go_sem, Nat.reduceAdd, Nat.reduceMul, Nat.reduceSub]
        repeat' apply And.intro
        all_goals
          refine Runs.call c2 ?_
          simp (decide := true) (maxSteps := 2000000) (disch := first | omega | (simp only [List.length_map, List.length_cons, List.length_append, List.length_nil]; omega)) only [hB2, hBt, hJ2, hJt, if_pos, go_sem, Nat.reduceAdd, Nat.reduceMul, Nat.reduceSub]
          refine Runs.call c1 ?_
          simp (decide := true) (maxSteps := 2000000) (disch := first | omega | (simp only [List.length_map, List.length_cons, List.length_append, List.length_nil]; omega)) only [hB2, hBt, hJ2, hJt, if_pos, go_sem, Nat.reduceAdd, Nat.reduceMul, Nat.reduceSub]
          refine Runs.call c3 ?_
          simp (decide := true) (maxSteps := 2000000) (disch := first | omega | (simp only [List.length_map, List.length_cons, List.length_append, List.length_nil]; omega)) only [hB2, hBt, hJ2, hJt, nodeO, nodesO, List.length_append, if_pos, go_sem, Nat.reduceAdd, Nat.reduceMul, Nat.reduceSub]
          refine Runs.call' (as' := [.v (.int .i64 48), .sl (.ow 3) (nodesO (J ++ ([.mk 3 (0 :: B) []] : List Nd)))]) (by simp [nodesO_app, mdL_append, md_nodesO, mdL, nodeO, nodesO, A.md, md_u8A, u8A]) c4 ?_
          simp (decide := true) (maxSteps := 2000000) (disch := first | omega | (simp only [List.length_map, List.length_cons, List.length_append, List.length_nil]; omega)) only [nodeO, nodesO, if_pos, go_sem, Nat.reduceAdd, Nat.reduceMul, Nat.reduceSub]
          exact hK
      case q3 =>
        simp (decide := true) (maxSteps := 2000000) (disch := first | omega | (simp only [List.length_map, List.length_cons, List.length_append, List.length_nil]; omega)) only [nodeO, nodesO, htk, if_pos, go_sem, Nat.reduceAdd, Nat.reduceMul, Nat.reduceSub]
        exact Runs.ret_refl
end Go.Proofs.W

namespace Go.Proofs.W
open Go Go.AM
set_option linter.unusedSimpArgs false
set_option linter.unusedVariables false
variable (hm : Try.prog.follows .mixedOrders = true)

def szI (n : Nat) (left : Int) : Int := if left - n < 0 then -1 else left - n
def szGo : List ByteArray → Int → Int
  | [], l => l
  | s :: r, l => if l - s.size < 0 then -1 else szGo r (l - s.size)
def szS (L : List ByteArray) (left : Int) : Int := if left - L.length < 0 then -1 else szGo L (left - L.length)
theorem szGo_le (L : List ByteArray) (l : Int) (h : 0 ≤ l) : szGo L l ≤ l ∧ -1 ≤ szGo L l := by
  induction L generalizing l with
  | nil => simp [szGo]; omega
  | cons s r ih =>
    simp only [szGo]
    split
    · omega
    · have := ih (l - s.size) (by omega); omega
theorem szS_le (L : List ByteArray) (l : Int) (h : 0 ≤ l) : szS L l ≤ l := by
  unfold szS
  split
  · omega
  · have := szGo_le L (l - L.length) (by omega); omega
theorem szI_le (n : Nat) (l : Int) (h : 0 ≤ l) : szI n l ≤ l ∧ -1 ≤ szI n l := by
  unfold szI
  split <;> omega
theorem szS_len (L : List ByteArray) (l : Int) (h : ¬ szS L l < 0) (hl : l ≤ 1048576) : L.length ≤ 1048576 := by
  unfold szS at h
  split at h
  · exact absurd (by omega) h
  · omega
theorem szI_len (n : Nat) (l : Int) (h : ¬ szI n l < 0) (hl : l ≤ 1048576) : n ≤ 1048576 := by
  unfold szI at h
  split at h
  · exact absurd (by omega) h
  · omega
set_option maxRecDepth 10000 in
include hm in
theorem szIntS (es : List A) (left : Int) (h1 : 0 ≤ left) (h2 : left ≤ 1048576) (h3 : es.length ≤ 9223372036854775807) :
    Holds Try.prog 13 [.sl .sh es, .v (.int .i64 left)] [] (.v (.int .i64 (szI es.length left))) [] := by
  refine holds_of (ann := []) tabOk hm Try.func13 (by kernel_rfl) rfl ?_
  simp (decide := true) (disch := first | omega | (simp only [List.length_map, List.length_cons, List.length_append, List.length_nil]; omega)) only [Try.f13, if_pos, go_sem, Nat.reduceAdd, Nat.reduceMul, Nat.reduceSub]
  refine Runs.split (fun h => ?_) (fun h => ?_)
  · simp only [decide_eq_true_eq] at h
    simp (decide := true) only [szI, if_pos h, go_sem, Nat.reduceAdd, Nat.reduceMul, Nat.reduceSub]
    exact Runs.ret_v
  · simp only [decide_eq_false_iff_not] at h
    simp (decide := true) only [szI, if_neg h, go_sem, Nat.reduceAdd, Nat.reduceMul, Nat.reduceSub]
    exact Runs.ret_v
end Go.Proofs.W

namespace Go.Proofs.W
open Go Go.AM
set_option linter.unusedSimpArgs false
set_option linter.unusedVariables false
variable (hm : Try.prog.follows .mixedOrders = true)

/-- A row that is marked up to a place. -/
def mkFill (v : Nat → A) (es : List A) (i : Nat) : List A := (List.range i).map v ++ es.drop i
theorem mkFill_length (v : Nat → A) (es : List A) (i : Nat) (h : i ≤ es.length) : (mkFill v es i).length = es.length := by simp [mkFill]; omega
theorem mkFill_zero (v : Nat → A) (es : List A) : mkFill v es 0 = es := by simp [mkFill]
theorem mkFill_all (v : Nat → A) (es : List A) {n : Nat} (h : es.length = n) : mkFill v es n = (List.range n).map v := by subst h; simp [mkFill]
theorem mkFill_get (v : Nat → A) (es : List A) (i : Nat) (h : i < es.length) : (mkFill v es i).getD i .any = es[i] := by
  unfold mkFill
  rw [List.getD, List.getElem?_append_right (by simp)]
  simp [h]
theorem mkFill_set (v : Nat → A) (es : List A) (i : Nat) (h : i < es.length) : (mkFill v es i).set i (v i) = mkFill v es (i + 1) := by
  unfold mkFill
  rw [List.set_append_right _ _ (by simp), List.length_map, List.length_range, Nat.sub_self, List.drop_eq_getElem_cons h, List.set_cons_zero, List.range_succ, List.map_append, List.append_assoc]
  rfl
def mkAnn : Ann := [(0, [0, 1, 5])]
def mkInt (k : Int) (i : Nat) : A := intA (k + i)
def mkByte (k : Int) (i : Nat) : A := u8A (IntKind.u8.wrap (k + i))
attribute [local go_sem] mkInt mkByte

/-- What a marked text is. -/
def markGo : Nat → Nat → ByteArray → ByteArray
  | 0, _, out => out
  | f + 1, n, out => if n = 0 then out else markGo f (n / 10) (⟨#[UInt8.ofNat (48 + n % 10)]⟩ ++ out)
def markT (k : Int) : ByteArray := if k ≤ 0 then ⟨#[109, 48]⟩ else ⟨#[109]⟩ ++ markGo (k.toNat + 1) k.toNat ⟨#[]⟩
def mkStr (k : Int) (i : Nat) : A := strA (markT (k + i))
attribute [local go_sem] mkStr
def markIntSt (L : List Int) (k : Int) (i : Nat) : St := ⟨[.ms (.x 0) 0 L.length L.length, .v (.int .i64 (k + i)), .any, .any, .any, .v (.int .i64 i), .any, .any, .any, .any, .any, .any, .any, .any, .any, .any, .any, .any, .any], [], [⟨true, 1, false, mkFill (mkInt k) (L.map intA) i⟩]⟩
set_option maxRecDepth 10000 in
include hm in
theorem markIntS (L : List Int) (k : Int) (h1 : 0 ≤ k) (h2 : k + L.length ≤ 4611686018427387904) :
    Holds Try.prog 30 [.ms (.x 0) 0 L.length L.length, .v (.int .i64 k)] [⟨true, 1, false, L.map intA⟩] (.v (.int .i64 (k + L.length))) [⟨true, 1, false, (List.range L.length).map (mkInt k)⟩] := by
  refine holds_of (ann := mkAnn) tabOk hm Try.func30 (by kernel_rfl) rfl ?_
  simp (decide := true) only [Try.f30, go_sem, Nat.reduceAdd, Nat.reduceMul, Nat.reduceSub]
  refine Runs.while (α := Nat) (markIntSt L k) (fun i => L.length - i) (fun i => i ≤ L.length) 0 (by omega) ?_ ?_
  · simp [go_sem, mkAnn, markIntSt, mkFill_zero]
  · intro i hi ih
    have hlen := mkFill_length (mkInt k) (L.map intA) i (by simpa using hi)
    rw [List.length_map] at hlen
    simp (decide := true) only [markIntSt, hlen, go_sem, Nat.reduceAdd, Nat.reduceMul, Nat.reduceSub]
    refine Runs.split (fun h => ?_) (fun h => ?_)
    · have hlt : i < L.length := by simpa using h
      have hg := mkFill_get (mkInt k) (L.map intA) i (by simpa using hlt)
      have hs := mkFill_set (mkInt k) (L.map intA) i (by simpa using hlt)
      simp only [List.getElem_map, intA] at hg
      simp only [mkInt, intA] at hs
      simp (decide := true) (disch := first | omega | (simp only [List.length_map, List.length_cons, List.length_append, List.length_nil]; omega)) only [hlen, hg, hs, if_pos, go_sem, Nat.reduceAdd, Nat.reduceMul, Nat.reduceSub]
      refine ih (i + 1) _ (by omega) (by omega) ?_
      simp [go_sem, mkAnn, markIntSt, Int.add_assoc]
    · have hge : i = L.length := by simp at h; omega
      subst hge
      simp (decide := true) only [hlen, mkFill_all _ _ (List.length_map _), go_sem, Nat.reduceAdd, Nat.reduceMul, Nat.reduceSub]
      exact Runs.ret_refl
def markByteSt (L : List Int) (k : Int) (i : Nat) : St := ⟨[.ms (.x 0) 0 L.length L.length, .v (.int .i64 (k + i)), .any, .any, .any, .v (.int .i64 i), .any, .any, .any, .any, .any, .any, .any, .any, .any, .any, .any, .any, .any, .any], [], [⟨true, 1, false, mkFill (mkByte k) (L.map u8A) i⟩]⟩
set_option maxRecDepth 10000 in
include hm in
theorem markByteS (L : List Int) (k : Int) (h1 : 0 ≤ k) (h2 : k + L.length ≤ 4611686018427387904) :
    Holds Try.prog 31 [.ms (.x 0) 0 L.length L.length, .v (.int .i64 k)] [⟨true, 1, false, L.map u8A⟩] (.v (.int .i64 (k + L.length))) [⟨true, 1, false, (List.range L.length).map (mkByte k)⟩] := by
  refine holds_of (ann := mkAnn) tabOk hm Try.func31 (by kernel_rfl) rfl ?_
  simp (decide := true) only [Try.f31, go_sem, Nat.reduceAdd, Nat.reduceMul, Nat.reduceSub]
  refine Runs.while (α := Nat) (markByteSt L k) (fun i => L.length - i) (fun i => i ≤ L.length) 0 (by omega) ?_ ?_
  · simp [go_sem, mkAnn, markByteSt, mkFill_zero]
  · intro i hi ih
    have hlen := mkFill_length (mkByte k) (L.map u8A) i (by simpa using hi)
    rw [List.length_map] at hlen
    simp (decide := true) only [markByteSt, hlen, go_sem, Nat.reduceAdd, Nat.reduceMul, Nat.reduceSub]
    refine Runs.split (fun h => ?_) (fun h => ?_)
    · have hlt : i < L.length := by simpa using h
      have hg := mkFill_get (mkByte k) (L.map u8A) i (by simpa using hlt)
      have hs := mkFill_set (mkByte k) (L.map u8A) i (by simpa using hlt)
      simp only [List.getElem_map, u8A] at hg
      simp only [mkByte, u8A] at hs
      simp (decide := true) (disch := first | omega | (simp only [List.length_map, List.length_cons, List.length_append, List.length_nil]; omega)) only [hlen, hg, hs, if_pos, go_sem, Nat.reduceAdd, Nat.reduceMul, Nat.reduceSub]
      refine ih (i + 1) _ (by omega) (by omega) ?_
      simp [go_sem, mkAnn, markByteSt, Int.add_assoc]
    · have hge : i = L.length := by simp at h; omega
      subst hge
      simp (decide := true) only [hlen, mkFill_all _ _ (List.length_map _), go_sem, Nat.reduceAdd, Nat.reduceMul, Nat.reduceSub]
      exact Runs.ret_refl
def heldByteSt (n : Nat) (k : Int) (i : Nat) : St := ⟨[.sl .sh ((List.range n).map (mkByte k)), .v (.int .i64 (k + i)), .any, .any, .any, .v (.int .i64 i), .any, .any, .any, .any, .any, .any, .any, .any, .any, .any, .any, .any, .any, .any, .any, .any], [], []⟩
set_option maxRecDepth 10000 in
include hm in
theorem heldByteS (n : Nat) (k : Int) (h1 : 0 ≤ k) (h2 : k + n ≤ 4611686018427387904) :
    Holds Try.prog 32 [.sl .sh ((List.range n).map (mkByte k)), .v (.int .i64 k)] [] (.v (.int .i64 (k + n))) [] := by
  refine holds_of (ann := mkAnn) tabOk hm Try.func32 (by kernel_rfl) rfl ?_
  simp (decide := true) only [Try.f32, go_sem, Nat.reduceAdd, Nat.reduceMul, Nat.reduceSub]
  refine Runs.while (α := Nat) (heldByteSt n k) (fun i => n - i) (fun i => i ≤ n) 0 (by omega) ?_ ?_
  · simp [go_sem, mkAnn, heldByteSt]
  · intro i hi ih
    simp (decide := true) only [heldByteSt, List.length_range, go_sem, Nat.reduceAdd, Nat.reduceMul, Nat.reduceSub]
    refine Runs.split (fun h => ?_) (fun h => ?_)
    · have hlt : i < n := by simpa using h
      have hg : ((List.range n).map (mkByte k)).getD i .any = mkByte k i := by simp [List.getD, hlt]
      simp (decide := true) (disch := first | omega | (simp only [List.length_map, List.length_cons, List.length_append, List.length_nil]; omega)) only [hg, List.length_range, if_pos, go_sem, Nat.reduceAdd, Nat.reduceMul, Nat.reduceSub]
      refine ih (i + 1) _ (by omega) (by omega) ?_
      simp [go_sem, mkAnn, heldByteSt, Int.add_assoc]
    · have hge : i = n := by simp at h; omega
      subst hge
      simp (decide := true) only [go_sem, Nat.reduceAdd, Nat.reduceMul, Nat.reduceSub]
      exact Runs.ret_refl
end Go.Proofs.W

namespace Go.Proofs.W
open Go Go.AM
set_option linter.unusedSimpArgs false
set_option linter.unusedVariables false
variable (hm : Try.prog.follows .mixedOrders = true)

def eqAnn : Ann := [(0, [0, 1, 5])]
def eqSched : Sched := .take 0 (.take 1 (.take 2 (.take 4 (.take 5 (.take 6 (.alt 3 (.alt 7 (.take 8 .fin) .nil) (.alt 7 (.alt 3 (.take 8 .fin) .nil) .nil)))))))
attribute [local go_sem] eqSched
def eqIntSt (L : List Int) (i : Nat) : St := ⟨[.sl .sh (L.map intA), .sl .sh (L.map intA), .any, .any, .any, .v (.int .i64 i), .any, .any, .any, .any, .any, .any, .any, .any, .any, .any, .any, .any, .any, .any, .any, .any, .any, .any, .any, .any], [], []⟩
set_option maxRecDepth 10000 in
include hm in
theorem eqIntS (L : List Int) (h3 : L.length ≤ 9223372036854775807) : Holds Try.prog 25 [.sl .sh (L.map intA), .sl .sh (L.map intA)] [] (.v (.bool true)) [] := by
  refine holds_of (ann := eqAnn) tabOk hm Try.func25 (by kernel_rfl) rfl ?_
  simp (decide := true) only [Try.f25, go_sem, Nat.reduceAdd, Nat.reduceMul, Nat.reduceSub]
  refine Runs.while (α := Nat) (eqIntSt L) (fun i => L.length - i) (fun i => i ≤ L.length) 0 (by omega) ?_ ?_
  · simp [go_sem, eqAnn, eqIntSt]
  · intro i hi ih
    simp (decide := true) only [eqIntSt, go_sem, Nat.reduceAdd, Nat.reduceMul, Nat.reduceSub]
    refine Runs.split (fun h => ?_) (fun h => ?_)
    · have hlt : i < L.length := by simpa using h
      simp (decide := true) only [go_sem, Nat.reduceAdd, Nat.reduceMul, Nat.reduceSub]
      refine Runs.draw (st1 := ?s1) (draws_by (ann := []) tabOk eqSched (by kernel_rfl) ?p1) ?q1
      case p1 =>
        intro K r X hK
        simp (decide := true) (disch := first | omega | (simp only [List.length_map, List.length_cons, List.length_append, List.length_nil]; omega)) only [if_pos, go_sem, Nat.reduceAdd, Nat.reduceMul, Nat.reduceSub]
        exact hK
      case q1 =>
        simp (decide := true) (disch := first | omega | (simp only [List.length_map, List.length_cons, List.length_append, List.length_nil]; omega)) only [if_pos, go_sem, Nat.reduceAdd, Nat.reduceMul, Nat.reduceSub]
        refine ih (i + 1) _ (by omega) hlt ?_
        simp [go_sem, eqAnn, eqIntSt]
    · simp (decide := true) only [go_sem, Nat.reduceAdd, Nat.reduceMul, Nat.reduceSub]
      exact Runs.ret_v
def eqByteSt (L : List Int) (i : Nat) : St := ⟨[.sl .sh (L.map u8A), .sl .sh (L.map u8A), .any, .any, .any, .v (.int .i64 i), .any, .any, .any, .any, .any, .any, .any, .any, .any, .any, .any, .any, .any, .any, .any, .any, .any, .any, .any, .any], [], []⟩
set_option maxRecDepth 10000 in
include hm in
theorem eqByteS (L : List Int) (h3 : L.length ≤ 9223372036854775807) : Holds Try.prog 64 [.sl .sh (L.map u8A), .sl .sh (L.map u8A)] [] (.v (.bool true)) [] := by
  refine holds_of (ann := eqAnn) tabOk hm Try.func64 (by kernel_rfl) rfl ?_
  simp (decide := true) only [Try.f64, go_sem, Nat.reduceAdd, Nat.reduceMul, Nat.reduceSub]
  refine Runs.while (α := Nat) (eqByteSt L) (fun i => L.length - i) (fun i => i ≤ L.length) 0 (by omega) ?_ ?_
  · simp [go_sem, eqAnn, eqByteSt]
  · intro i hi ih
    simp (decide := true) only [eqByteSt, go_sem, Nat.reduceAdd, Nat.reduceMul, Nat.reduceSub]
    refine Runs.split (fun h => ?_) (fun h => ?_)
    · have hlt : i < L.length := by simpa using h
      simp (decide := true) only [go_sem, Nat.reduceAdd, Nat.reduceMul, Nat.reduceSub]
      refine Runs.draw (st1 := ?s1) (draws_by (ann := []) tabOk eqSched (by kernel_rfl) ?p1) ?q1
      case p1 =>
        intro K r X hK
        simp (decide := true) (disch := first | omega | (simp only [List.length_map, List.length_cons, List.length_append, List.length_nil]; omega)) only [if_pos, go_sem, Nat.reduceAdd, Nat.reduceMul, Nat.reduceSub]
        exact hK
      case q1 =>
        simp (decide := true) (disch := first | omega | (simp only [List.length_map, List.length_cons, List.length_append, List.length_nil]; omega)) only [if_pos, go_sem, Nat.reduceAdd, Nat.reduceMul, Nat.reduceSub]
        refine ih (i + 1) _ (by omega) hlt ?_
        simp [go_sem, eqAnn, eqByteSt]
    · simp (decide := true) only [go_sem, Nat.reduceAdd, Nat.reduceMul, Nat.reduceSub]
      exact Runs.ret_v
end Go.Proofs.W

namespace Go.Proofs.W
open Go Go.AM
set_option linter.unusedSimpArgs false
set_option linter.unusedVariables false
variable (hm : Try.prog.follows .mixedOrders = true)

/-- The items that a marking leaves, from a count on. -/
def mkIt (k : Int) (x : It) : It := ⟨k, (List.range x.body.length).map (fun i : Nat => IntKind.u8.wrap (k + 1 + i)), k + 1 + x.body.length⟩
def mkIts : Int → List It → List It
  | _, [] => []
  | k, x :: r => mkIt k x :: mkIts (k + x.body.length + 2) r
def cntI : List It → Nat
  | [] => 0
  | x :: r => x.body.length + 2 + cntI r
theorem cntI_append : ∀ l m : List It, cntI (l ++ m) = cntI l + cntI m
  | [], m => by simp [cntI]
  | x :: l, m => by simp only [List.cons_append, cntI, cntI_append l m]; omega
theorem mkIts_append : ∀ (l m : List It) (k : Int), mkIts k (l ++ m) = mkIts k l ++ mkIts (k + cntI l) m
  | [], m, k => by simp [mkIts, cntI]
  | x :: l, m, k => by
    simp only [List.cons_append, mkIts, cntI, mkIts_append l m]
    congr 3
    omega
theorem mkIts_length : ∀ (l : List It) (k : Int), (mkIts k l).length = l.length
  | [], k => rfl
  | x :: l, k => by simp [mkIts, mkIts_length l]
def curI (k : Int) (L : List It) (i : Nat) : List It := mkIts k (L.take i) ++ L.drop i
theorem curI_length (k : Int) (L : List It) (i : Nat) (h : i ≤ L.length) : (curI k L i).length = L.length := by simp [curI, mkIts_length]; omega
theorem curI_zero (k : Int) (L : List It) : curI k L 0 = L := by simp [curI, mkIts]
theorem curI_all (k : Int) (L : List It) : curI k L L.length = mkIts k L := by simp [curI]
theorem curI_get (k : Int) (L : List It) (i : Nat) (h : i < L.length) : (curI k L i)[i]? = some L[i] := by
  unfold curI
  rw [List.getElem?_append_right (by simp [mkIts_length]; omega)]
  simp [mkIts_length, h, Nat.min_eq_left (Nat.le_of_lt h)]
theorem cntI_succ (L : List It) (i : Nat) (h : i < L.length) : cntI (L.take (i + 1)) = cntI (L.take i) + L[i].body.length + 2 := by
  rw [List.take_succ_eq_append_getElem h, cntI_append]
  simp [cntI]; omega
theorem cntI_take_le (L : List It) (i : Nat) : cntI (L.take i) ≤ cntI L := by
  have := cntI_append (L.take i) (L.drop i)
  rw [List.take_append_drop] at this
  omega
theorem cntI_len : ∀ L : List It, 2 * L.length ≤ cntI L
  | [] => by simp [cntI]
  | x :: r => by have := cntI_len r; simp only [cntI, List.length_cons]; omega
theorem curI_set (k : Int) (L : List It) (i : Nat) (h : i < L.length) : (curI k L i).set i (mkIt (k + cntI (L.take i)) L[i]) = curI k L (i + 1) := by
  unfold curI
  have hl : (mkIts k (L.take i)).length = i := by simp [mkIts_length]; omega
  rw [List.set_append_right _ _ (by omega), hl, Nat.sub_self, List.drop_eq_getElem_cons h, List.set_cons_zero, List.take_succ_eq_append_getElem h, mkIts_append, List.append_assoc]
  rfl
/-- The items' cells, their bodies as blocks. -/
def subI (x : It) : Blk := ⟨true, 1, false, x.body.map u8A⟩
def xItA (j : Nat) (x : It) : A := .agg [.v (.int .i64 x.tag), .ms (.x j) 0 x.body.length x.body.length, .v (.int .i64 x.kids)]
def xpIt : Nat → List It → List A
  | _, [] => []
  | j, x :: r => xItA j x :: xpIt (j + 1) r
theorem xpL_items : ∀ (L : List It) (j : Nat), xpL j (L.map itemO) = (xpIt j L, L.map subI)
  | [], j => rfl
  | x :: r, j => by
    have e : xpA j (itemO x) = (xItA j x, [subI x]) := by simp [xpA, itemO, xpCs, xpC, xItA, subI]
    simp only [List.map_cons, xpL, e, xpL_items r, xpIt, List.length_cons, List.length_nil, Nat.zero_add, List.singleton_append]
theorem xpOk_items (L : List It) : xpOk (L.map itemO) = true := by
  unfold xpOk flat
  rw [List.all_flatMap, List.all_map]
  simp [itemO, A.cells, xpOkC]
theorem xpIt_length : ∀ (L : List It) (j : Nat), (xpIt j L).length = L.length
  | [], j => rfl
  | x :: r, j => by simp [xpIt, xpIt_length r]
theorem xpIt_get : ∀ (L : List It) (j i : Nat) (x : It), L[i]? = some x → (xpIt j L).getD i .any = xItA (j + i) x
  | [], j, i, x, h => by simp at h
  | y :: r, j, 0, x, h => by simp at h; subst h; rfl
  | y :: r, j, i + 1, x, h => by
    simp only [List.getElem?_cons_succ] at h
    have := xpIt_get r (j + 1) i x h
    rw [show j + (i + 1) = j + 1 + i by omega, ← this]
    rfl
theorem xpIt_set : ∀ (L : List It) (j i : Nat) (y : It), (xpIt j L).set i (xItA (j + i) y) = xpIt j (L.set i y)
  | [], j, i, y => by simp [xpIt]
  | x :: r, j, 0, y => rfl
  | x :: r, j, i + 1, y => by
    have := xpIt_set r (j + 1) i y
    rw [show j + (i + 1) = j + 1 + i by omega]
    simp only [xpIt, List.set_cons_succ, this]
theorem xpIt_ok : ∀ (L : List It) (j : Nat), okIL isXp (xpIt j L) = true
  | [], j => rfl
  | x :: r, j => by simp [xpIt, okIL, xItA, A.okI, isXp, xpIt_ok r]
theorem mkB_dn (k : Int) (n : Nat) : dnL ((List.range n).map (mkByte k)) = (List.range n).map (mkByte k) := by rw [dnL_map]; rfl
theorem subI_all (L : List It) : (L.map subI).all isXB = true := by simp [subI, isXB]
theorem rd_items (L : List It) : (if plainL (L.map itemO) = true then L.map itemS else L.map itemO) = L.map itemO := by
  cases L with
  | nil => rfl
  | cons x r => simp [plainL, itemO, A.plain, Sh.own]
def miAnn : Ann := [(0, [0, 1, 5])]
def miSt (L : List It) (k : Int) (i : Nat) : St := ⟨[.ms (.x 0) 0 L.length L.length, .v (.int .i64 (k + cntI (L.take i))), .any, .any, .any, .v (.int .i64 i), .any, .any, .any, .any, .any, .any, .any, .any, .any, .any, .any, .any, .any, .any, .any, .any, .any, .any, .any, .any, .any, .any, .any, .any, .any, .any, .any, .any], [], ⟨true, 3, true, xpIt 1 (curI k L i)⟩ :: (curI k L i).map subI⟩
set_option maxHeartbeats 1000000 in
set_option maxRecDepth 10000 in
include hm in
theorem markItemX (L : List It) (k : Int) (h1 : 0 ≤ k) (h2 : k + cntI L ≤ 4611686018427387904) :
    Holds Try.prog 11 [.ms (.x 0) 0 L.length L.length, .v (.int .i64 k)] (⟨true, 3, true, xpIt 1 L⟩ :: L.map subI) (.v (.int .i64 (k + cntI L))) (⟨true, 3, true, xpIt 1 (mkIts k L)⟩ :: (mkIts k L).map subI) := by
  refine holds_ref (ann := miAnn) tabOk hm (byL [31] []) Try.func11 (by kernel_rfl) rfl ?_
  simp (decide := true) only [Try.f11, go_sem, Nat.reduceAdd, Nat.reduceMul, Nat.reduceSub]
  refine Runs.while (α := Nat) (miSt L k) (fun i => L.length - i) (fun i => i ≤ L.length) 0 (by omega) ?_ ?_
  · refine (only_x rfl ?_).trans ?_
    · rw [List.all_cons, subI_all]; simp [isXB, xpIt_ok]
    · simp [go_sem, miAnn, miSt, curI_zero, cntI]
  · intro i hi ih
    have hlen : (xpIt 1 (curI k L i)).length = L.length := by rw [xpIt_length, curI_length k L i hi]
    simp (decide := true) only [miSt, hlen, go_sem, Nat.reduceAdd, Nat.reduceMul, Nat.reduceSub]
    refine Runs.split (fun h => ?_) (fun h => ?_)
    · have hlt : i < L.length := by simpa using h
      have hc := cntI_take_le L (i + 1)
      have hll := cntI_len L
      have hcs := cntI_succ L i hlt
      have hg := xpIt_get _ 1 i _ (curI_get k L i hlt)
      have hs1 := xpIt_set (curI k L i) 1 i ⟨k + cntI (L.take i), L[i].body, L[i].kids⟩
      have hget2 : ((curI k L i).set i ⟨k + cntI (L.take i), L[i].body, L[i].kids⟩)[i]? = some ⟨k + cntI (L.take i), L[i].body, L[i].kids⟩ := by
        rw [List.getElem?_set_self (by rw [curI_length k L i hi]; exact hlt)]
      have hg2 := xpIt_get _ 1 i _ hget2
      have hs2 := xpIt_set ((curI k L i).set i ⟨k + cntI (L.take i), L[i].body, L[i].kids⟩) 1 i (mkIt (k + cntI (L.take i)) L[i])
      have hlen2 : (xpIt 1 ((curI k L i).set i ⟨k + cntI (L.take i), L[i].body, L[i].kids⟩)).length = L.length := by rw [xpIt_length, List.length_set, curI_length k L i hi]
      rw [List.set_set, curI_set k L i hlt] at hs2
      have hsub : ((curI k L i).map subI)[i]? = some ⟨true, 1, false, L[i].body.map u8A⟩ := by rw [List.getElem?_map, curI_get k L i hlt]; rfl
      have hsub2 : ((curI k L i).map subI).set i ⟨true, 1, false, (List.range L[i].body.length).map (mkByte (k + cntI (L.take i) + 1))⟩ = (curI k L (i + 1)).map subI := by
        rw [← curI_set k L i hlt, List.map_set]
        simp only [subI, mkIt, List.length_map, List.map_map]
        congr 1
      have hmb := markByteS hm L[i].body (k + cntI (L.take i) + 1) (by omega) (by omega)
      simp only [xItA, mkIt, List.length_map, List.length_range] at hg hs1 hg2 hs2
      rw [show 1 + i = i + 1 by omega] at hg hs1 hg2 hs2
      simp (decide := true) (disch := first | omega | (simp only [List.length_map, List.length_cons, List.length_append, List.length_nil]; omega)) only [hlen, hg, hs1, hlen2, hg2, List.getElem?_cons_succ, hsub, List.not_mem_nil, List.mem_cons, true_or, if_false, if_true, idxOf, List.getD_cons_zero, List.length_map, if_pos, go_sem, Nat.reduceAdd, Nat.reduceMul, Nat.reduceSub]
      refine Runs.call hmb ?_
      simp (decide := true) (disch := first | omega | (simp only [List.length_map, List.length_cons, List.length_append, List.length_nil]; omega)) only [hlen, hlen2, hg2, List.getElem?_cons_succ, List.set_cons_succ, hsub2, hs2, List.getD_cons_zero, List.length_map, if_pos, go_sem, Nat.reduceAdd, Nat.reduceMul, Nat.reduceSub]
      refine ih (i + 1) _ (by omega) hlt ?_
      refine (only_x rfl ?_).trans ?_
      · rw [List.all_cons, subI_all]; simp [isXB, xpIt_ok]
      · have e : k + ↑(cntI (List.take i L)) + 1 + L[i].body.length + 1 = k + ↑(cntI (List.take (i + 1) L)) := by omega
        simp [go_sem, miAnn, miSt, e]
    · have hge : i = L.length := by simp at h; omega
      subst hge
      simp (decide := true) only [hlen, curI_all, List.take_length, isXB, xpIt_ok, subI_all, go_sem, Nat.reduceAdd, Nat.reduceMul, Nat.reduceSub]
      exact Runs.ret_refl
include hm in
theorem markItemS (L : List It) (k : Int) (h1 : 0 ≤ k) (h2 : k + cntI L ≤ 4611686018427387904) :
    Holds Try.prog 11 [.ms (.x 0) 0 L.length L.length, .v (.int .i64 k)] [⟨true, 3, false, L.map itemO⟩] (.v (.int .i64 (k + cntI L))) [⟨true, 3, false, (mkIts k L).map itemO⟩] := by
  refine holds_explode (xpOk_items L) (xpOk_items _) ?_
  rw [xpL_items, xpL_items]
  exact markItemX hm L k h1 h2
def hiSt (L : List It) (k : Int) (i : Nat) : St := ⟨[.sl .sh ((mkIts k L).map itemS), .v (.int .i64 (k + cntI (L.take i))), .any, .any, .any, .v (.int .i64 i), .any, .any, .any, .any, .any, .any, .any, .any, .any, .any, .any, .any, .any, .any, .any, .any, .any, .any, .any, .any, .any, .any, .any, .any, .any, .any, .any, .any, .any, .any, .any, .any, .any, .any], [], []⟩
theorem mkIts_get (k : Int) (L : List It) (i : Nat) (h : i < L.length) : (mkIts k L)[i]? = some (mkIt (k + cntI (L.take i)) L[i]) := by
  have e : L = L.take i ++ L[i] :: L.drop (i + 1) := by rw [← List.drop_eq_getElem_cons h, List.take_append_drop]
  have := mkIts_append (L.take i) (L[i] :: L.drop (i + 1)) k
  rw [← e] at this
  rw [this, List.getElem?_append_right (by simp [mkIts_length]; omega)]
  simp [mkIts_length, Nat.min_eq_left (Nat.le_of_lt h), mkIts]
set_option maxHeartbeats 1000000 in
set_option maxRecDepth 10000 in
include hm in
theorem heldItemS (L : List It) (k : Int) (h1 : 0 ≤ k) (h2 : k + cntI L ≤ 4611686018427387904) :
    Holds Try.prog 12 [.sl .sh ((mkIts k L).map itemS), .v (.int .i64 k)] [] (.v (.int .i64 (k + cntI L))) [] := by
  refine holds_of (ann := miAnn) tabOk hm Try.func12 (by kernel_rfl) rfl ?_
  have hlen : ((mkIts k L).map itemS).length = L.length := by rw [List.length_map, mkIts_length]
  simp (decide := true) only [Try.f12, hlen, go_sem, Nat.reduceAdd, Nat.reduceMul, Nat.reduceSub]
  refine Runs.while (α := Nat) (hiSt L k) (fun i => L.length - i) (fun i => i ≤ L.length) 0 (by omega) ?_ ?_
  · simp [go_sem, miAnn, hiSt, cntI]
  · intro i hi ih
    simp (decide := true) only [hiSt, hlen, go_sem, Nat.reduceAdd, Nat.reduceMul, Nat.reduceSub]
    refine Runs.split (fun h => ?_) (fun h => ?_)
    · have hlt : i < L.length := by simpa using h
      have hc := cntI_take_le L (i + 1)
      have hcs := cntI_succ L i hlt
      have hll := cntI_len L
      have hg : ((mkIts k L).map itemS).getD i .any = .agg [.v (.int .i64 (k + cntI (L.take i))), .sl .sh ((List.range L[i].body.length).map (mkByte (k + cntI (L.take i) + 1))), .v (.int .i64 (k + cntI (L.take i) + 1 + L[i].body.length))] := by
        rw [List.getD, List.getElem?_map, mkIts_get k L i hlt]
        simp only [Option.map_some, Option.getD_some, itemS, mkIt, List.map_map]
        rfl
      have hmb := heldByteS hm L[i].body.length (k + cntI (L.take i) + 1) (by omega) (by omega)
      have hd : decide (k + cntI (L.take i) + 1 + (L[i].body.length : Int) < 0) = false := by simp; omega
      simp (decide := true) (disch := first | omega | (simp only [List.length_map, List.length_cons, List.length_append, List.length_nil]; omega)) only [hlen, hg, mkB_dn, if_pos, go_sem, Nat.reduceAdd, Nat.reduceMul, Nat.reduceSub]
      refine Runs.call hmb ?_
      simp (decide := true) (disch := first | omega | (simp only [List.length_map, List.length_cons, List.length_append, List.length_nil]; omega)) only [hlen, hg, hd, mkB_dn, if_pos, go_sem, Nat.reduceAdd, Nat.reduceMul, Nat.reduceSub]
      refine ih (i + 1) _ (by omega) hlt ?_
      have e : k + ↑(cntI (List.take i L)) + 1 + L[i].body.length + 1 = k + ↑(cntI (List.take (i + 1) L)) := by omega
      simp [go_sem, miAnn, hiSt, e]
    · have hge : i = L.length := by simp at h; omega
      subst hge
      simp (decide := true) only [List.take_length, go_sem, Nat.reduceAdd, Nat.reduceMul, Nat.reduceSub]
      exact Runs.ret_v
set_option maxRecDepth 10000 in
include hm in
theorem eqItem (x : It) (h : x.body.length ≤ 9223372036854775807) : Holds Try.prog 24 [itemS x, itemS x] [] (.v (.bool true)) [] := by
  refine holds_ref (ann := []) tabOk hm (byL [] [1000002, 1000003]) Try.func24 (by kernel_rfl) rfl ?_
  simp (decide := true) only [Try.f24, itemS, go_sem, Nat.reduceAdd, Nat.reduceMul, Nat.reduceSub]
  refine Runs.call (eqByteS hm x.body h) ?_
  simp (decide := true) only [go_sem, Nat.reduceAdd, Nat.reduceMul, Nat.reduceSub]
  exact Runs.ret_v
def eiS : Sched := .take 0 (.take 1 (.take 2 (.take 4 (.take 5 (.take 6 (.alt 3 (.alt 7 (.alt 8 (.take 9 .fin) .nil) .nil) (.alt 7 (.alt 3 (.alt 8 (.take 9 .fin) .nil) .nil) .nil)))))))
attribute [local go_sem] eiS
def eiAnn : Ann := [(0, [0, 1, 5])]
def eisSt (L : List It) (i : Nat) : St := ⟨[.sl .sh (L.map itemS), .sl .sh (L.map itemS), .any, .any, .any, .v (.int .i64 i), .any, .any, .any, .any, .any, .any, .any, .any, .any, .any, .any, .any, .any, .any, .any, .any, .any, .any, .any, .any, .any], [], []⟩
set_option maxRecDepth 10000 in
include hm in
theorem eqItemS (L : List It) (h3 : L.length ≤ 9223372036854775807) (h4 : ∀ s ∈ L, s.body.length ≤ 9223372036854775807) : Holds Try.prog 8 [.sl .sh (L.map itemS), .sl .sh (L.map itemS)] [] (.v (.bool true)) [] := by
  refine holds_of (ann := eiAnn) tabOk hm Try.func8 (by kernel_rfl) rfl ?_
  simp (decide := true) only [Try.f8, go_sem, Nat.reduceAdd, Nat.reduceMul, Nat.reduceSub]
  refine Runs.while (α := Nat) (eisSt L) (fun i => L.length - i) (fun i => i ≤ L.length) 0 (by omega) ?_ ?_
  · simp [go_sem, eiAnn, eisSt]
  · intro i hi ih
    simp (decide := true) only [eisSt, go_sem, Nat.reduceAdd, Nat.reduceMul, Nat.reduceSub]
    refine Runs.split (fun h => ?_) (fun h => ?_)
    · have hlt : i < L.length := by simpa using h
      have hg : (L.map itemS).getD i .any = itemS L[i] := by simp [List.getD, hlt]
      have hce := eqItem hm L[i] (h4 _ (List.getElem_mem hlt))
      rw [itemS] at hg hce
      simp (decide := true) only [go_sem, Nat.reduceAdd, Nat.reduceMul, Nat.reduceSub]
      refine Runs.draw (st1 := ?s1) (draws_by (ann := eiAnn) tabOk eiS (by kernel_rfl) ?p1) ?q1
      case p1 =>
        intro K r X hK
        simp (decide := true) (maxSteps := 2000000) (disch := first | omega | (simp only [List.length_map, List.length_cons, List.length_append, List.length_nil]; omega)) only [hg, if_pos, go_sem, Nat.reduceAdd, Nat.reduceMul, Nat.reduceSub]
        repeat' apply And.intro
        all_goals
          refine Runs.call hce ?_
          simp (decide := true) (maxSteps := 2000000) (disch := first | omega | (simp only [List.length_map, List.length_cons, List.length_append, List.length_nil]; omega)) only [if_pos, go_sem, Nat.reduceAdd, Nat.reduceMul, Nat.reduceSub]
          exact hK
      case q1 =>
        simp (decide := true) (disch := first | omega | (simp only [List.length_map, List.length_cons, List.length_append, List.length_nil]; omega)) only [hg, if_pos, go_sem, Nat.reduceAdd, Nat.reduceMul, Nat.reduceSub]
        refine ih (i + 1) _ (by omega) hlt ?_
        simp [go_sem, eiAnn, eisSt]
    · simp (decide := true) only [go_sem, Nat.reduceAdd, Nat.reduceMul, Nat.reduceSub]
      exact Runs.ret_v
end Go.Proofs.W

namespace Go.Proofs.W
open Go Go.AM
set_option linter.unusedSimpArgs false
set_option linter.unusedVariables false
variable (hm : Try.prog.follows .mixedOrders = true)

def fillS {α : Type} (g : α → A) (L : List α) (z : A) (i : Nat) : List A := (L.take i).map g ++ List.replicate (L.length - i) z
theorem fillS_length {α : Type} (g : α → A) (L : List α) (z : A) (i : Nat) (h : i ≤ L.length) : (fillS g L z i).length = L.length := by simp [fillS]; omega
theorem fillS_zero {α : Type} (g : α → A) (L : List α) (z : A) : fillS g L z 0 = List.replicate L.length z := by simp [fillS]
theorem fillS_all {α : Type} (g : α → A) (L : List α) (z : A) : fillS g L z L.length = L.map g := by simp [fillS]
theorem fillS_set {α : Type} (g : α → A) (L : List α) (z : A) (i : Nat) (h : i < L.length) : (fillS g L z i).set i (g L[i]) = fillS g L z (i + 1) := by
  unfold fillS
  have e : L.length - i = (L.length - (i + 1)) + 1 := by omega
  rw [List.set_append_right _ _ (by simp; omega), e, List.replicate_succ]
  have hl : ((L.take i).map g).length = i := by simp; omega
  rw [hl, Nat.sub_self, List.set_cons_zero, List.take_succ_eq_append_getElem h, List.map_append, List.append_assoc]
  rfl
theorem fillS_get {α : Type} (g : α → A) (L : List α) (z : A) (i : Nat) (h : i < L.length) : (fillS g L z i).getD i .any = z := by
  unfold fillS
  have hl : ((L.take i).map g).length = i := by simp; omega
  rw [List.getD, List.getElem?_append_right (by omega), hl, Nat.sub_self]
  have e : L.length - i = (L.length - (i + 1)) + 1 := by omega
  rw [e, List.replicate_succ]
  rfl

def toAnn : Ann := [(0, [0, 3, 4])]
def toIntSt (L : List Int) (i : Nat) : St := ⟨[.sl .sh (L.map intA), .any, .any, .ms (.l 0) 0 L.length L.length, .v (.int .i64 i), .any, .any, .any, .any, .any, .any, .any, .any, .any, .any, .any, .any, .any, .any, .any, .any, .any], [(0, ⟨true, 1, false, fillS intA L (.v (.int .i64 0)) i⟩)], []⟩
set_option maxRecDepth 10000 in
include hm in
theorem toIntS (L : List Int) (h3 : L.length ≤ 1048576) : Holds Try.prog 16 [.sl .sh (L.map intA)] [] (.sl (.ow 1) (L.map intA)) [] := by
  refine holds_of (ann := toAnn) tabOk hm Try.func16 (by kernel_rfl) rfl ?_
  simp (decide := true) (disch := first | omega | (simp only [List.length_map, List.length_cons, List.length_append, List.length_nil]; omega)) only [Try.f16, if_pos, go_sem, Nat.reduceAdd, Nat.reduceMul, Nat.reduceSub]
  refine Runs.while (α := Nat) (toIntSt L) (fun i => L.length - i) (fun i => i ≤ L.length) 0 (by omega) ?_ ?_
  · simp [go_sem, toAnn, toIntSt, fillS_zero]
  · intro i hi ih
    have hlen := fillS_length intA L (.v (.int .i64 0)) i hi
    simp (decide := true) only [toIntSt, hlen, go_sem, Nat.reduceAdd, Nat.reduceMul, Nat.reduceSub]
    refine Runs.split (fun h => ?_) (fun h => ?_)
    · have hlt : i < L.length := by simpa using h
      have hg := fillS_get intA L (.v (.int .i64 0)) i hlt
      have hs : (fillS intA L (.v (.int .i64 0)) i).set i (intA L[i]) = _ := fillS_set intA L (.v (.int .i64 0)) i hlt
      simp only [intA] at hs
      simp (decide := true) (disch := first | omega | (simp only [List.length_map, List.length_cons, List.length_append, List.length_nil]; omega)) only [hlen, hg, hs, if_pos, go_sem, Nat.reduceAdd, Nat.reduceMul, Nat.reduceSub]
      refine ih (i + 1) _ (by omega) hlt ?_
      simp [go_sem, toAnn, toIntSt]
    · have hge : i = L.length := by simp at h; omega
      subst hge
      simp (decide := true) only [hlen, fillS_all, go_sem, Nat.reduceAdd, Nat.reduceMul, Nat.reduceSub]
      exact Runs.ret_refl
end Go.Proofs.W

namespace Go.Proofs.W
open Go Go.AM Go.Proofs.G
set_option linter.unusedSimpArgs false
set_option linter.unusedVariables false
variable (hm : Try.prog.follows .mixedOrders = true)
attribute [local go_sem] edA prA cvA ptA keyA

def keyO (k : GKey) : A := .agg [.v (.int .i64 k.kind), .sl (.ow 1) (k.N.map intA), .v (.int .i64 k.e), .v (.int .i64 k.cv.p), .v (.int .i64 k.cv.a), .v (.int .i64 k.cv.b), .v (.int .i64 k.cv.n), .v (.int .i64 k.cv.gx), .v (.int .i64 k.cv.gy),
  .v (.int .i64 k.q.x), .v (.int .i64 k.q.y), .v (.bool k.q.far), .v (.int .i64 k.ed.p), .v (.int .i64 k.ed.d), .v (.int .i64 k.ed.l), .v (.int .i64 k.ed.bx), .v (.int .i64 k.ed.by'), .v (.int .i64 k.a.1), .v (.int .i64 k.a.2)]
attribute [local go_sem] keyO
theorem bne_self (b : Bool) : (b != b) = false := by cases b <;> rfl
attribute [local go_sem] bne_self
set_option maxRecDepth 10000 in
include hm in
theorem toCurve (k : GCv) : Holds Try.prog 17 [cvA k] [] (cvA k) [] := by
  refine holds_ref (ann := []) tabOk hm (byL [] [1000001]) Try.func17 (by kernel_rfl) rfl ?_
  simp (decide := true) only [Try.f17, go_sem, Nat.reduceAdd, Nat.reduceMul, Nat.reduceSub]
  exact Runs.ret_refl
set_option maxRecDepth 10000 in
include hm in
theorem eqLCurve (k : GCv) : Holds Try.prog 26 [cvA k, cvA k] [] (.v (.bool true)) [] := by
  refine holds_ref (ann := []) tabOk hm (byL [] [1000002, 1000003]) Try.func26 (by kernel_rfl) rfl ?_
  simp (decide := true) only [Try.f26, go_sem, Nat.reduceAdd, Nat.reduceMul, Nat.reduceSub]
  exact Runs.ret_v
set_option maxRecDepth 10000 in
include hm in
theorem toPoint (k : GPt) : Holds Try.prog 18 [ptA k] [] (ptA k) [] := by
  refine holds_ref (ann := []) tabOk hm (byL [] [1000001]) Try.func18 (by kernel_rfl) rfl ?_
  simp (decide := true) only [Try.f18, go_sem, Nat.reduceAdd, Nat.reduceMul, Nat.reduceSub]
  exact Runs.ret_refl
set_option maxRecDepth 10000 in
include hm in
theorem eqLPoint (k : GPt) : Holds Try.prog 27 [ptA k, ptA k] [] (.v (.bool true)) [] := by
  refine holds_ref (ann := []) tabOk hm (byL [] [1000002, 1000003]) Try.func27 (by kernel_rfl) rfl ?_
  simp (decide := true) only [Try.f27, go_sem, Nat.reduceAdd, Nat.reduceMul, Nat.reduceSub]
  exact Runs.ret_v
set_option maxRecDepth 10000 in
include hm in
theorem toEd (k : GEd) : Holds Try.prog 19 [edA k] [] (edA k) [] := by
  refine holds_ref (ann := []) tabOk hm (byL [] [1000001]) Try.func19 (by kernel_rfl) rfl ?_
  simp (decide := true) only [Try.f19, go_sem, Nat.reduceAdd, Nat.reduceMul, Nat.reduceSub]
  exact Runs.ret_refl
set_option maxRecDepth 10000 in
include hm in
theorem eqLEd (k : GEd) : Holds Try.prog 28 [edA k, edA k] [] (.v (.bool true)) [] := by
  refine holds_ref (ann := []) tabOk hm (byL [] [1000002, 1000003]) Try.func28 (by kernel_rfl) rfl ?_
  simp (decide := true) only [Try.f28, go_sem, Nat.reduceAdd, Nat.reduceMul, Nat.reduceSub]
  exact Runs.ret_v
set_option maxRecDepth 10000 in
include hm in
theorem toPair (k : GPr) : Holds Try.prog 20 [prA k] [] (prA k) [] := by
  refine holds_ref (ann := []) tabOk hm (byL [] [1000001]) Try.func20 (by kernel_rfl) rfl ?_
  simp (decide := true) only [Try.f20, go_sem, Nat.reduceAdd, Nat.reduceMul, Nat.reduceSub]
  exact Runs.ret_refl
set_option maxRecDepth 10000 in
include hm in
theorem eqLPair (k : GPr) : Holds Try.prog 29 [prA k, prA k] [] (.v (.bool true)) [] := by
  refine holds_ref (ann := []) tabOk hm (byL [] [1000002, 1000003]) Try.func29 (by kernel_rfl) rfl ?_
  simp (decide := true) only [Try.f29, go_sem, Nat.reduceAdd, Nat.reduceMul, Nat.reduceSub]
  exact Runs.ret_v
set_option maxRecDepth 10000 in
include hm in
theorem szKey (k : GKey) (left : Int) (l1 : 0 ≤ left) (l2 : left ≤ 1048576) (h3 : k.N.length ≤ 9223372036854775807) : Holds Try.prog 4 [keyA k, .v (.int .i64 left)] [] (.v (.int .i64 (szI k.N.length left))) [] := by
  refine holds_ref (ann := []) tabOk hm (byL [] [1000002]) Try.func4 (by kernel_rfl) rfl ?_
  simp (decide := true) only [Try.f4, go_sem, Nat.reduceAdd, Nat.reduceMul, Nat.reduceSub]
  refine Runs.call (szIntS hm (k.N.map intA) left l1 l2 (by simpa using h3)) ?_
  simp (decide := true) only [List.length_map, go_sem, Nat.reduceAdd, Nat.reduceMul, Nat.reduceSub]
  have b := szI_le k.N.length left l1
  refine Runs.split (fun e => ?_) (fun e => ?_)
  · simp only [decide_eq_true_eq] at e
    have e3 : szI k.N.length left = -1 := by omega
    simp (decide := true) only [e3, go_sem, Nat.reduceAdd, Nat.reduceMul, Nat.reduceSub]
    exact Runs.ret_v
  · simp (decide := true) only [go_sem, Nat.reduceAdd, Nat.reduceMul, Nat.reduceSub]
    exact Runs.ret_v
set_option maxHeartbeats 4000000 in
set_option maxRecDepth 10000 in
include hm in
theorem toKey (k : GKey) (h3 : k.N.length ≤ 1048576) : Holds Try.prog 6 [keyA k] [] (keyO k) [] := by
  refine holds_ref (ann := []) tabOk hm (byL [] [1000001]) Try.func6 (by kernel_rfl) rfl ?_
  have c1 := toCurve hm k.cv
  have c2 := toPoint hm k.q
  have c3 := toEd hm k.ed
  have c4 := toPair hm k.a
  simp only [cvA, ptA, edA, prA] at c1 c2 c3 c4
  simp (decide := true) only [Try.f6, go_sem, Nat.reduceAdd, Nat.reduceMul, Nat.reduceSub]
  refine Runs.call (toIntS hm k.N h3) ?_
  simp (decide := true) only [go_sem, Nat.reduceAdd, Nat.reduceMul, Nat.reduceSub]
  refine Runs.call c1 ?_
  simp (decide := true) only [go_sem, Nat.reduceAdd, Nat.reduceMul, Nat.reduceSub]
  refine Runs.call c2 ?_
  simp (decide := true) only [go_sem, Nat.reduceAdd, Nat.reduceMul, Nat.reduceSub]
  refine Runs.call c3 ?_
  simp (decide := true) only [go_sem, Nat.reduceAdd, Nat.reduceMul, Nat.reduceSub]
  refine Runs.call c4 ?_
  simp (decide := true) only [go_sem, Nat.reduceAdd, Nat.reduceMul, Nat.reduceSub]
  exact Runs.ret_refl
set_option maxHeartbeats 4000000 in
set_option maxRecDepth 10000 in
include hm in
theorem eqKey (k : GKey) (h3 : k.N.length ≤ 1048576) : Holds Try.prog 9 [keyA k, keyA k] [] (.v (.bool true)) [] := by
  refine holds_ref (ann := []) tabOk hm (byL [] [1000002, 1000003]) Try.func9 (by kernel_rfl) rfl ?_
  have c1 := eqLCurve hm k.cv
  have c2 := eqLPoint hm k.q
  have c3 := eqLEd hm k.ed
  have c4 := eqLPair hm k.a
  simp only [cvA, ptA, edA, prA] at c1 c2 c3 c4
  simp (decide := true) only [Try.f9, go_sem, Nat.reduceAdd, Nat.reduceMul, Nat.reduceSub]
  refine Runs.call (eqIntS hm k.N (by omega)) ?_
  simp (decide := true) only [go_sem, Nat.reduceAdd, Nat.reduceMul, Nat.reduceSub]
  refine Runs.call c1 ?_
  simp (decide := true) only [go_sem, Nat.reduceAdd, Nat.reduceMul, Nat.reduceSub]
  refine Runs.call c2 ?_
  simp (decide := true) only [go_sem, Nat.reduceAdd, Nat.reduceMul, Nat.reduceSub]
  refine Runs.call c3 ?_
  simp (decide := true) only [go_sem, Nat.reduceAdd, Nat.reduceMul, Nat.reduceSub]
  refine Runs.call c4 ?_
  simp (decide := true) only [go_sem, Nat.reduceAdd, Nat.reduceMul, Nat.reduceSub]
  exact Runs.ret_v
end Go.Proofs.W

namespace Go.Proofs.W
open Go Go.AM Go.Proofs.G
set_option linter.unusedSimpArgs false
set_option linter.unusedVariables false
variable (hm : Try.prog.follows .mixedOrders = true)
attribute [local go_sem] keyA keyO edA prA cvA ptA bne_self

theorem itemsN_intN (n : Int) : itemsN (intN n) = [intI n] := by simp [intN, itemsN_mk, itemsNL, intI]
theorem itemsNL_ints (L : List Int) : itemsNL (L.map intN) = L.map intI := by
  induction L with
  | nil => simp [itemsNL]
  | cons a l ih => simp only [List.map_cons, itemsNL, itemsN_intN, ih, List.singleton_append]
theorem items_key (k : GKey) : itemsN (keyNd k) = keyT k := by
  unfold keyNd keyT
  split
  · rw [itemsN_mk]
    simp only [itemsNL, itemsN_intN, itemsN_mk, List.length_cons, List.length_nil, List.append_nil, List.singleton_append, List.cons_append, List.nil_append]
    rfl
  · rw [itemsN_mk, itemsNL_app, itemsNL_ints]
    simp only [itemsNL, itemsN_mk, List.length_append, List.length_map, List.length_cons, List.length_nil, List.append_nil]
    rfl
theorem keyT_len (k : GKey) : (keyT k).length ≤ 9 := by
  unfold keyT
  split
  · simp
  · have := keyInts_len k
    simp; omega
theorem intB_len (n : Int) : (intB n).length ≤ 8 := by
  have := kB_le n
  simp only [intB, tailB_length]
  omega
theorem keyB_rsa {k : GKey} (h : keyB k = true) (h1 : k.kind = 1) : (natBB k.N).length ≤ 65 := by
  unfold keyB at h
  rw [if_pos h1] at h
  simp only [Bool.and_eq_true] at h
  exact natBB_le h.2.2.2.1
theorem keyT_body {k : GKey} (h : keyB k = true) : ∀ x ∈ keyT k, x.body.length ≤ 100 := by
  intro x hx
  unfold keyT at hx
  split at hx
  · have hb := keyB_rsa h (by assumption)
    simp only [List.mem_cons, List.not_mem_nil, or_false] at hx
    have b1 := intB_len 1
    have b2 := intB_len k.e
    rcases hx with rfl | rfl | rfl | rfl
    · simp
    · simp only [intI]; omega
    · simp only; omega
    · simp only [intI]; omega
  · simp only [List.mem_cons, List.mem_append, List.mem_map, List.not_mem_nil, or_false] at hx
    rcases hx with rfl | ⟨n, _, rfl⟩ | rfl
    · simp
    · have := intB_len n
      simp only [intI]; omega
    · have := keyPt_len k
      simp only [List.length_cons]; omega
theorem bodies_ints (m : Nat) (h : 8 ≤ m) : ∀ L : List Int, bodiesLeL m (L.map intN)
  | [] => trivial
  | n :: L => ⟨⟨by have := intB_len n; omega, trivial⟩, bodies_ints m h L⟩
theorem bodies_app (m : Nat) : ∀ l n : List Nd, bodiesLeL m l → bodiesLeL m n → bodiesLeL m (l ++ n)
  | [], n, _, h => h
  | a :: l, n, h1, h2 => ⟨h1.1, bodies_app m l n h1.2 h2⟩
theorem kids_ints (m : Nat) : ∀ L : List Int, kidsLeL m (L.map intN)
  | [] => trivial
  | n :: L => ⟨⟨Nat.zero_le _, trivial⟩, kids_ints m L⟩
theorem kids_app (m : Nat) : ∀ l n : List Nd, kidsLeL m l → kidsLeL m n → kidsLeL m (l ++ n)
  | [], n, _, h => h
  | a :: l, n, h1, h2 => ⟨h1.1, kids_app m l n h1.2 h2⟩
theorem key_bodies {k : GKey} (h : keyB k = true) (m : Nat) (hm : 100 ≤ m) : bodiesLe m (keyNd k) := by
  unfold keyNd
  split
  · have hb := keyB_rsa h (by assumption)
    have b1 := intB_len 1
    have b2 := intB_len k.e
    exact ⟨Nat.zero_le _, ⟨by omega, trivial⟩, ⟨by omega, trivial⟩, ⟨by omega, trivial⟩, trivial⟩
  · have := keyPt_len k
    exact ⟨Nat.zero_le _, bodies_app m _ _ (bodies_ints m (by omega) _) ⟨⟨by simp only [List.length_cons]; omega, trivial⟩, trivial⟩⟩
theorem key_kids (k : GKey) (m : Nat) (hm : 100 ≤ m) : kidsLe m (keyNd k) := by
  unfold keyNd
  split
  · exact ⟨by simp; omega, ⟨Nat.zero_le _, trivial⟩, ⟨Nat.zero_le _, trivial⟩, ⟨Nat.zero_le _, trivial⟩, trivial⟩
  · have := keyInts_len k
    exact ⟨by simp; omega, kids_app m _ _ (kids_ints m _) ⟨⟨Nat.zero_le _, trivial⟩, trivial⟩⟩
noncomputable def treeK (k : GKey) : List It := if keyB k = true then keyT k else []
theorem treeK_len (k : GKey) : (treeK k).length ≤ 9 := by
  unfold treeK
  split
  · exact keyT_len k
  · simp
theorem treeK_body (k : GKey) : ∀ x ∈ treeK k, x.body.length ≤ 100 := by
  intro x hx
  unfold treeK at hx
  split at hx
  · exact keyT_body (by assumption) x hx
  · simp at hx
noncomputable def treeKA (k : GKey) : A := .tup [.sl (.ow 3) ((treeK k).map itemO), .v (.bool (keyB k))]
set_option maxHeartbeats 1000000 in
set_option maxRecDepth 10000 in
include hm in
theorem sKeyTree (k : GKey) (h3 : k.N.length ≤ 9223372036854775807) : Holds Try.prog 5 [keyA k] [] (treeKA k) [] := by
  refine holds_ref (ann := []) tabOk hm (byL [] [1000001]) Try.func5 (by kernel_rfl) rfl ?_
  have hc := sKeyOk hm k h3
  rw [keyA] at hc
  simp (decide := true) (maxSteps := 2000000) only [Try.f5, go_sem, Nat.reduceAdd, Nat.reduceMul, Nat.reduceSub]
  refine Runs.call hc ?_
  cases h : keyB k
  · simp (decide := true) (maxSteps := 2000000) only [go_sem, Nat.reduceAdd, Nat.reduceMul, Nat.reduceSub]
    exact Runs.ret_eq (by simp [treeKA, treeK, h])
  · have hl := l10Key hm k h
    rw [keyA] at hl
    simp (decide := true) (maxSteps := 2000000) only [go_sem, Nat.reduceAdd, Nat.reduceMul, Nat.reduceSub]
    refine Runs.call hl ?_
    have ht : List.take (keyT k).length ((keyT k).map itemO) = (keyT k).map itemO := take_map_len
    simp (decide := true) (maxSteps := 2000000) only [ht, List.length_map, go_sem, Nat.reduceAdd, Nat.reduceMul, Nat.reduceSub]
    exact Runs.ret_eq (by simp [treeKA, treeK, h])
set_option maxHeartbeats 1000000 in
set_option maxRecDepth 10000 in
include hm in
theorem iKeyTree (k : GKey) (h3 : k.N.length ≤ 9223372036854775807) : Holds Try.prog 7 [keyA k] [] (treeKA k) [] := by
  refine holds_ref (ann := []) tabOk hm (byL [] [1000001]) Try.func7 (by kernel_rfl) rfl ?_
  have hc := iKeyOk hm k h3
  rw [keyA] at hc
  simp (decide := true) (maxSteps := 2000000) only [Try.f7, go_sem, Nat.reduceAdd, Nat.reduceMul, Nat.reduceSub]
  refine Runs.call hc ?_
  cases h : keyB k
  · simp (decide := true) (maxSteps := 2000000) only [go_sem, Nat.reduceAdd, Nat.reduceMul, Nat.reduceSub]
    refine Runs.ret ?_ rfl
    simp only [treeKA, treeK, h]
    exact .tup (.nils _ (.same _ .nil)) .nil
  · have hl := keyNode hm k h
    have hi := items hm _ (keyNd k) (Nat.le_refl _) (by rw [items_key]; have := keyT_len k; omega) (key_bodies h _ (by omega)) (key_kids k _ (by omega))
    rw [items_key] at hi
    rw [keyA] at hl
    simp (decide := true) (maxSteps := 2000000) only [go_sem, Nat.reduceAdd, Nat.reduceMul, Nat.reduceSub]
    refine Runs.call hl ?_
    have ht : List.take (keyT k).length ((keyT k).map itemO) = (keyT k).map itemO := take_map_len
    rw [treeKA, treeK, if_pos h]
    generalize keyNd k = n at *
    cases n with
    | mk t b ks =>
    rw [nodeS] at hi
    have hk : List.take ks.length (nodesO ks) = nodesO ks := List.take_of_length_le (by simp [nodesO_length])
    have hn : (nodesO ks).length = ks.length := nodesO_length ks
    simp (decide := true) (maxSteps := 2000000) only [nodeO, hk, hn, List.length_map, go_sem, Nat.reduceAdd, Nat.reduceMul, Nat.reduceSub]
    refine Runs.call hi ?_
    simp (decide := true) (maxSteps := 2000000) only [ht, List.length_map, h, go_sem, Nat.reduceAdd, Nat.reduceMul, Nat.reduceSub]
    exact Runs.ret_refl
set_option maxRecDepth 10000 in
include hm in
theorem markKey (k : GKey) (m : Int) (h1 : 0 ≤ m) (h2 : m + k.N.length ≤ 4611686018427387904) :
    Holds Try.prog 10 [.agg [.v (.int .i64 k.kind), .ms (.x 0) 0 k.N.length k.N.length, .v (.int .i64 k.e), .v (.int .i64 k.cv.p), .v (.int .i64 k.cv.a), .v (.int .i64 k.cv.b), .v (.int .i64 k.cv.n), .v (.int .i64 k.cv.gx), .v (.int .i64 k.cv.gy), .v (.int .i64 k.q.x), .v (.int .i64 k.q.y), .v (.bool k.q.far), .v (.int .i64 k.ed.p), .v (.int .i64 k.ed.d), .v (.int .i64 k.ed.l), .v (.int .i64 k.ed.bx), .v (.int .i64 k.ed.by'), .v (.int .i64 k.a.1), .v (.int .i64 k.a.2)], .v (.int .i64 m)]
      [⟨true, 1, false, k.N.map intA⟩] (.v (.int .i64 (m + k.N.length))) [⟨true, 1, false, (List.range k.N.length).map (mkInt m)⟩] := by
  refine holds_ref (ann := []) tabOk hm (byL [30] []) Try.func10 (by kernel_rfl) rfl ?_
  simp (decide := true) only [Try.f10, go_sem, Nat.reduceAdd, Nat.reduceMul, Nat.reduceSub]
  refine Runs.call (markIntS hm k.N m h1 h2) ?_
  simp (decide := true) only [go_sem, Nat.reduceAdd, Nat.reduceMul, Nat.reduceSub]
  exact Runs.ret_refl
end Go.Proofs.W

namespace Go.Proofs.W
open Go Go.AM Go.Proofs.G
set_option linter.unusedSimpArgs false
set_option linter.unusedVariables false
variable (hm : Try.prog.follows .mixedOrders = true)
attribute [local go_sem] keyA keyO bne_self
theorem cntI_body : ∀ (L : List It) (b : Nat), (∀ x ∈ L, x.body.length ≤ b) → cntI L ≤ L.length * (b + 2)
  | [], b, _ => by simp [cntI]
  | x :: r, b, h => by
    have h1 := h x (List.mem_cons_self ..)
    have h2 := cntI_body r b fun y hy => h y (List.mem_cons_of_mem _ hy)
    simp only [cntI, List.length_cons, Nat.succ_mul]
    omega

def sLKT : Sched := .alt 0 (.alt 1 (.alt 2 (.alt 3 (.take 4 .fin) .nil) .nil) .nil) (.alt 1 (.alt 0 (.alt 2 (.alt 3 (.take 4 .fin) .nil) .nil) (.alt 2 (.alt 0 (.alt 3 (.take 4 .fin) .nil) .nil) .nil)) .nil)
attribute [local go_sem] sLKT
set_option maxRecDepth 10000 in
set_option maxHeartbeats 4000000 in
include hm in
theorem lawKeyTree (k : GKey) (h3 : k.N.length ≤ 9223372036854775807) : Holds Try.prog 3 [keyA k] [] (.v (.bool true)) [] := by
  refine holds_ref (ann := []) tabOk hm (byL [10, 11] [1000001]) Try.func3 (by kernel_rfl) rfl ?_
  have cz := szKey hm k 1048576 (by omega) (by omega) h3
  rw [keyA] at cz
  simp (decide := true) (maxSteps := 2000000) only [Try.f3, go_sem, Nat.reduceAdd, Nat.reduceMul, Nat.reduceSub]
  refine Runs.call cz ?_
  simp (decide := true) (maxSteps := 2000000) only [go_sem, Nat.reduceAdd, Nat.reduceMul, Nat.reduceSub]
  refine Runs.split (fun e => by simp (decide := true) (maxSteps := 2000000) only [go_sem, Nat.reduceAdd, Nat.reduceMul, Nat.reduceSub]; exact Runs.ret_v) (fun e => ?_)
  simp only [decide_eq_false_iff_not] at e
  have kn := szI_len k.N.length _ e (by omega)
  have ct := toKey hm k kn
  rw [keyA, keyO] at ct
  have ce := eqKey hm k kn
  have cs := sKeyTree hm k h3
  have ci := iKeyTree hm k h3
  rw [keyA] at ce cs ci
  rw [treeKA] at cs ci
  have tl := treeK_len k
  have tb := treeK_body k
  have hcn := cntI_body (treeK k) 100 tb
  generalize treeK k = T at *
  generalize keyB k = ok at *
  have hT : (T.map itemO).length = T.length := List.length_map _
  have htk : List.take T.length (T.map itemO) = T.map itemO := take_map_len
  have hrd := rd_items T
  have hm0 := markKey hm k 1 (by omega) (by omega)
  have hm1 := markItemS hm T 1 (by omega) (by omega)
  have hh := heldItemS hm T 1 (by omega) (by omega)
  have hq := eqItemS hm T (by omega) (fun x hx => by have := tb x hx; omega)
  have hd : decide ((1 : Int) + k.N.length < 0) = false := by simp; omega
  have hd2 : decide ((1 : Int) + cntI T < 0) = false := by simp; omega
  simp (decide := true) (maxSteps := 2000000) only [hT, htk, go_sem, Nat.reduceAdd, Nat.reduceMul, Nat.reduceSub]
  refine Runs.call ct ?_
  simp (decide := true) (maxSteps := 2000000) only [hT, htk, go_sem, Nat.reduceAdd, Nat.reduceMul, Nat.reduceSub]
  refine Runs.call cs ?_
  simp (decide := true) (maxSteps := 2000000) only [hT, htk, go_sem, Nat.reduceAdd, Nat.reduceMul, Nat.reduceSub]
  refine Runs.call ct ?_
  simp (decide := true) (maxSteps := 2000000) only [hT, htk, go_sem, Nat.reduceAdd, Nat.reduceMul, Nat.reduceSub]
  refine Runs.call ci ?_
  simp (decide := true) (maxSteps := 2000000) only [hT, htk, go_sem, Nat.reduceAdd, Nat.reduceMul, Nat.reduceSub]
  refine Runs.call hq ?_
  simp (decide := true) (maxSteps := 2000000) only [hT, htk, go_sem, Nat.reduceAdd, Nat.reduceMul, Nat.reduceSub]
  refine Runs.draw (st1 := ?s1) (draws_ref (ann := []) tabOk (byL [10, 11] [1000001]) sLKT (by kernel_rfl) ?p1) ?q1
  case p1 =>
    intro K r X hK
    simp (decide := true) (maxSteps := 2000000) only [go_sem, Nat.reduceAdd, Nat.reduceMul, Nat.reduceSub]
    repeat' apply And.intro
    all_goals
      refine Runs.call ct ?_
      simp (decide := true) (maxSteps := 2000000) only [go_sem, Nat.reduceAdd, Nat.reduceMul, Nat.reduceSub]
      refine Runs.call ce ?_
      simp (decide := true) (maxSteps := 2000000) only [go_sem, Nat.reduceAdd, Nat.reduceMul, Nat.reduceSub]
      exact hK
  case q1 =>
    have hT2 : ((mkIts 1 T).map itemO).length = T.length := by rw [List.length_map, mkIts_length]
    have htk2 : List.take T.length ((mkIts 1 T).map itemO) = (mkIts 1 T).map itemO := List.take_of_length_le (by rw [hT2]; exact Nat.le_refl _)
    simp (decide := true) (maxSteps := 2000000) only [go_sem, Nat.reduceAdd, Nat.reduceMul, Nat.reduceSub]
    refine Runs.call hm0 ?_
    simp (decide := true) (maxSteps := 2000000) only [hd, hT, htk, List.length_range, List.length_map, go_sem, Nat.reduceAdd, Nat.reduceMul, Nat.reduceSub]
    refine Runs.call hq ?_
    simp (decide := true) (maxSteps := 2000000) only [hd, hT, htk, hrd, go_sem, Nat.reduceAdd, Nat.reduceMul, Nat.reduceSub]
    refine Runs.call hm1 ?_
    simp (decide := true) (maxSteps := 2000000) only [hd, hd2, hT, hT2, htk2, go_sem, Nat.reduceAdd, Nat.reduceMul, Nat.reduceSub]
    refine Runs.call hh ?_
    simp (decide := true) (maxSteps := 2000000) only [hd, hd2, hT, hT2, htk2, go_sem, Nat.reduceAdd, Nat.reduceMul, Nat.reduceSub]
    refine Runs.call ct ?_
    simp (decide := true) (maxSteps := 2000000) only [hd, hd2, hT, hT2, htk2, go_sem, Nat.reduceAdd, Nat.reduceMul, Nat.reduceSub]
    refine Runs.call ci ?_
    simp (decide := true) (maxSteps := 2000000) only [hd, hd2, hT, hT2, htk, htk2, go_sem, Nat.reduceAdd, Nat.reduceMul, Nat.reduceSub]
    refine Runs.call hq ?_
    simp (decide := true) (maxSteps := 2000000) only [hd, hd2, hT, hT2, htk2, go_sem, Nat.reduceAdd, Nat.reduceMul, Nat.reduceSub]
    refine Runs.call hh ?_
    simp (decide := true) (maxSteps := 2000000) only [hd, hd2, hT, hT2, htk2, go_sem, Nat.reduceAdd, Nat.reduceMul, Nat.reduceSub]
    exact Runs.ret_v
end Go.Proofs.W
