import Derived.Test.YtedaabanlhbknabGreatWalk2
set_option linter.unusedVariables false
set_option linter.unusedSimpArgs false
namespace Go.Proofs.W
open Go Go.AM Go.Proofs.G
variable (hm : Tryz.prog.follows .mixedOrders = true)
theorem keyT_len3 {k : GKey} (h : keyB k = true) : (k.kind = 1 ∧ (keyT k).length = 4) ∨ (k.kind = 2 ∧ (keyT k).length = 9) ∨ (k.kind = 3 ∧ (keyT k).length = 8) := by
 rcases key_shape h with ⟨e, _⟩ | ⟨e, _⟩ | ⟨e, _⟩
 all_goals
  have hk := congrArg GKey.kind e
  simp only at hk
 ·left; exact ⟨hk, by rw [keyT, hk]; rfl⟩
 ·right; left; exact ⟨hk, by rw [keyT, if_neg (by rw [hk]; decide), keyInts, if_pos hk]; rfl⟩
 ·right; right; exact ⟨hk, by rw [keyT, if_neg (by rw [hk]; decide), keyInts, if_neg (by rw [hk]; decide)]; rfl⟩
def ksS7 : Sched := .take 0 (.take 1 (.take 4 (.take 5 (.take 8 (.take 9 (.take 12 (.take 13 (.take 16 (.take 17 (.take 20 (.take 21 (.ld 2 (.ld 6 (.ld 10 (.ld 14 (.ld 18 (.ld 22 (.alt 3 (.alt 7 (.alt 11 (.alt 15 (.alt 19 (.alt 23 (.alt 24 (.alt 25 (.alt 26 .fin .nil) .nil) (.alt 25 (.alt 24 (.alt 26 .fin .nil) .nil) .nil)) (.alt 25 (.alt 23 (.alt 24 (.alt 26 .fin .nil) .nil) .nil) .nil)) (.alt 25 (.alt 19 (.alt 23 (.alt 24 (.alt 26 .fin .nil) .nil) .nil) .nil) .nil)) (.alt 25 (.alt 15 (.alt 19 (.alt 23 (.alt 24 (.alt 26 .fin .nil) .nil) .nil) .nil) .nil) .nil)) (.alt 25 (.alt 11 (.alt 15 (.alt 19 (.alt 23 (.alt 24 (.alt 26 .fin .nil) .nil) .nil) .nil) .nil) .nil) .nil)) (.alt 25 (.alt 7 (.alt 11 (.alt 15 (.alt 19 (.alt 23 (.alt 24 (.alt 26 .fin .nil) .nil) .nil) .nil) .nil) .nil) .nil) .nil)) (.alt 25 (.alt 3 (.alt 7 (.alt 11 (.alt 15 (.alt 19 (.alt 23 (.alt 24 (.alt 26 .fin .nil) .nil) .nil) .nil) .nil) .nil) .nil) .nil) .nil)))))))))))))))))))
def ksS10 : Sched := .take 1 (.take 2 (.take 3 (.ld 4 (.alt 0 (.alt 5 (.alt 6 (.take 7 (.take 8 (.take 9 (.take 10 (.alt 11 .fin .nil))))) .nil) .nil) (.alt 5 (.alt 0 (.alt 6 (.take 7 (.take 8 (.take 9 (.take 10 (.alt 11 .fin .nil))))) .nil) .nil) .nil)))))
def ksS12 : Sched := .take 0 (.take 1 (.take 4 (.take 5 (.take 8 (.take 9 (.take 12 (.take 13 (.take 16 (.take 17 (.ld 2 (.ld 6 (.ld 10 (.ld 14 (.ld 18 (.alt 3 (.alt 7 (.alt 11 (.alt 15 (.alt 19 (.alt 20 (.alt 21 (.alt 22 .fin .nil) .nil) (.alt 21 (.alt 20 (.alt 22 .fin .nil) .nil) .nil)) (.alt 21 (.alt 19 (.alt 20 (.alt 22 .fin .nil) .nil) .nil) .nil)) (.alt 21 (.alt 15 (.alt 19 (.alt 20 (.alt 22 .fin .nil) .nil) .nil) .nil) .nil)) (.alt 21 (.alt 11 (.alt 15 (.alt 19 (.alt 20 (.alt 22 .fin .nil) .nil) .nil) .nil) .nil) .nil)) (.alt 21 (.alt 7 (.alt 11 (.alt 15 (.alt 19 (.alt 20 (.alt 22 .fin .nil) .nil) .nil) .nil) .nil) .nil) .nil)) (.alt 21 (.alt 3 (.alt 7 (.alt 11 (.alt 15 (.alt 19 (.alt 20 (.alt 22 .fin .nil) .nil) .nil) .nil) .nil) .nil) .nil) .nil))))))))))))))))
def ksS15 : Sched := .take 1 (.take 2 (.take 3 (.ld 4 (.alt 0 (.alt 5 (.alt 6 (.take 7 (.take 8 (.take 9 (.take 10 (.alt 11 .fin .nil))))) .nil) .nil) (.alt 5 (.alt 0 (.alt 6 (.take 7 (.take 8 (.take 9 (.take 10 (.alt 11 .fin .nil))))) .nil) .nil) .nil)))))
attribute [local go_sem] ksS7 ksS10 ksS12 ksS15
set_option maxRecDepth 10000 in
set_option maxHeartbeats 8000000 in
include hm in
theorem specReadKeyTree (L : List It) (hl : L.length ≤ 1048576) (hL : ∀ x ∈ L, BytesOk x.body ∧ x.body.length ≤ 1048576) : ∃ k, Holds Tryz.prog 5 [.sl .sh (L.map itemS)] [] (ansK (standK L k)) [] ∧ ∀ k', keyB k' = true → keyT k' = L → k = k' := by
 have t2 : Int.toNat 2 = 2 := rfl
 have t3 : Int.toNat 3 = 3 := rfl
 have t4 : Int.toNat 4 = 4 := rfl
 have t5 : Int.toNat 5 = 5 := rfl
 have t6 : Int.toNat 6 = 6 := rfl
 have t7 : Int.toNat 7 = 7 := rfl
 have t8 : Int.toNat 8 = 8 := rfl
 have cnum := fun x (hx : x ∈ L) => l10Num hm x (hL x hx).1 (by have := (hL x hx).2; omega)
 by_cases h4 : L.length = 4
 ·obtain ⟨x0, x1, x2, x3, hLe⟩ : ∃ x0 x1 x2 x3, L = [x0, x1, x2, x3] := by
   match L, h4 with
   | [a, b, c, d], _ => exact ⟨a, b, c, d, rfl⟩
  have h2m := hL x2 (by rw [hLe]; simp)
  have c3 := cnum x3 (by rw [hLe]; simp)
  have cN := snr hm x2.body h2m.1 (by have := h2m.2; omega)
  have hback : ∀ k', keyB k' = true → keyT k' = L → (⟨1, if x2.body.length ≤ 128 then natRd x2.body else [], numOf x3.body, cv0, pt0, ed0, pr0⟩ : GKey) = k' := by
   intro k' hB hT
   rcases keyT_len3 hB with ⟨hk, hn⟩ | ⟨_, hn⟩ | ⟨_, hn⟩
   rotate_left 1
   ·rw [hT] at hn; omega
   ·rw [hT] at hn; omega
   rcases key_shape hB with ⟨e, h1, h2, h3⟩ | ⟨e, _⟩ | ⟨e, _⟩
   rotate_left 1
   ·rw [e] at hk; simp at hk
   ·rw [e] at hk; simp at hk
   have h3 := inB_t h3
   have hl65 := keyB_rsa hB hk
   rw [keyT, if_pos hk, hLe] at hT
   simp only [List.cons.injEq, and_true] at hT
   obtain ⟨_, _, e2, e3⟩ := hT
   rw [← e2, ← e3]
   simp only [intI]
   rw [if_pos (by omega), natRd_back h1 h2, numOf_int (by omega) (by omega)]
   exact e.symm
  have hN64 : (if x2.body.length ≤ 128 then natRd x2.body else []).length ≤ 64 := by
   split
   ·have := natRd_len x2.body; omega
   ·simp
  refine ⟨_, ?_, hback⟩
  have eN : (if 128 < x2.body.length then A.tup [.sl (.ow 1) [], .v (.bool false)] else .tup [.sl (.ow 1) ((natRd x2.body).map intA), .v (.bool true)]) = .tup [.sl (.ow 1) ((if x2.body.length ≤ 128 then natRd x2.body else []).map intA), .v (.bool (!decide (128 < x2.body.length)))] := by
   by_cases h : 128 < x2.body.length
   ·rw [if_pos h, if_neg (by omega)]; simp [h]
   ·rw [if_neg h, if_pos (by omega)]; simp [h]
  rw [eN] at cN
  clear hback eN
  generalize (if x2.body.length ≤ 128 then natRd x2.body else []) = N at *
  have tkN : List.take N.length (N.map intA) = N.map intA := take_map_len
  have d4 : L.length = 4 := h4
  rw [itemS] at c3
  refine holds_of (ann := []) tabOk hm Tryz.func5 (by kernel_rfl) rfl ?_
  generalize numOf x3.body = e3 at *
  have hmap : L.map itemS = [itemS x0, itemS x1, itemS x2, itemS x3] := by rw [hLe]; rfl
  rw [hmap]
  simp only [itemS]
  simp +decide (maxSteps := 9^7) only [↓reduceIte, Tryz.f5, t2, t3, go_sem]
  refine Runs.call cN ?_
  simp +decide (maxSteps := 9^7) only [↓reduceIte, t2, t3, tkN, go_sem]
  refine Runs.call c3 ?_
  have ck := sKeyOk hm ⟨1, N, e3, cv0, pt0, ed0, pr0⟩ (by first | (simp only; omega) | simp)
  have cl := fun h => l10Key hm ⟨1, N, e3, cv0, pt0, ed0, pr0⟩ h
  have cs := fun h => l10SameTree hm (keyT ⟨1, N, e3, cv0, pt0, ed0, pr0⟩) L (by have := keyT_len ⟨1, N, e3, cv0, pt0, ed0, pr0⟩; omega) hl (keyT_bytes h) (fun x hx => (hL x hx).1)
  have tkT : List.take (keyT ⟨1, N, e3, cv0, pt0, ed0, pr0⟩).length ((keyT ⟨1, N, e3, cv0, pt0, ed0, pr0⟩).map itemO) = (keyT ⟨1, N, e3, cv0, pt0, ed0, pr0⟩).map itemO := take_map_len
  have hst : standK L ⟨1, N, e3, cv0, pt0, ed0, pr0⟩ = if (keyB ⟨1, N, e3, cv0, pt0, ed0, pr0⟩ && sameIs (keyT ⟨1, N, e3, cv0, pt0, ed0, pr0⟩) L) = true then some ⟨1, N, e3, cv0, pt0, ed0, pr0⟩ else none := rfl
  rw [hst]
  clear hst
  generalize keyB ⟨1, N, e3, cv0, pt0, ed0, pr0⟩ = kb at *
  generalize keyT ⟨1, N, e3, cv0, pt0, ed0, pr0⟩ = T at *
  rw [hmap] at cs
  simp only [itemS] at cs
  simp only [keyA, cv0, pt0, ed0, pr0, List.map_nil] at ck cl
  try simp +decide (maxSteps := 9^7) only [↓reduceIte, tkN, go_sem]
  refine Runs.call ck ?_
  cases kb with
  | false =>
   rw [if_neg (by simp), ansK]
   simp +decide (maxSteps := 9^7) only [↓reduceIte, keyO, k00, cv0, pt0, ed0, pr0, List.map_nil, go_sem]
   exact Runs.ret (.tup (.agg (.same _ (.nils _ (LeD.refl _))) (.same _ .nil)) .nil) rfl
  | true =>
   simp +decide (maxSteps := 9^7) only [↓reduceIte, tkN, go_sem]
   refine Runs.call (cl rfl) ?_
   simp +decide (maxSteps := 9^7) only [↓reduceIte, tkT, List.length_map, go_sem]
   refine Runs.call (cs rfl) ?_
   generalize sameIs T L = ss
   cases ss with
   | true =>
    rw [if_pos (by simp), ansK]
    simp +decide (maxSteps := 9^7) only [↓reduceIte, tkN, keyO, cv0, pt0, ed0, pr0, List.map_nil, go_sem]
    exact Runs.ret_refl
   | false =>
    rw [if_neg (by simp), ansK]
    simp +decide (maxSteps := 9^7) only [↓reduceIte, keyO, k00, cv0, pt0, ed0, pr0, List.map_nil, go_sem]
    exact Runs.ret (.tup (.agg (.same _ (.nils _ (LeD.refl _))) (.same _ .nil)) .nil) rfl
 by_cases h9 : L.length = 9
 ·obtain ⟨x0, x1, x2, x3, x4, x5, x6, x7, x8, hLe⟩ : ∃ x0 x1 x2 x3 x4 x5 x6 x7 x8, L = [x0, x1, x2, x3, x4, x5, x6, x7, x8] := by
   match L, h9 with
   | [y0, y1, y2, y3, y4, y5, y6, y7, y8], _ => exact ⟨y0, y1, y2, y3, y4, y5, y6, y7, y8, rfl⟩
  have hbm := hL x8 (by rw [hLe]; simp)
  have hmap : L.map itemS = [itemS x0, itemS x1, itemS x2, itemS x3, itemS x4, itemS x5, itemS x6, itemS x7, itemS x8] := by rw [hLe]; rfl
  have c2 := cnum x2 (by rw [hLe]; simp)
  have c3 := cnum x3 (by rw [hLe]; simp)
  have c4 := cnum x4 (by rw [hLe]; simp)
  have c5 := cnum x5 (by rw [hLe]; simp)
  have c6 := cnum x6 (by rw [hLe]; simp)
  have c7 := cnum x7 (by rw [hLe]; simp)
  have hkey : ∀ k', keyB k' = true → keyT k' = L → ∃ (cv : GCv) (q : GPt), (curveB cv = true ∧ onZ cv.p cv.a cv.b q = true ∧ q.far = false) ∧ k' = ⟨2, [], 0, cv, q, ed0, pr0⟩ ∧ numOf x2.body = cv.p ∧ numOf x3.body = cv.a ∧ numOf x4.body = cv.b ∧ numOf x5.body = cv.n ∧ numOf x6.body = cv.gx ∧ numOf x7.body = cv.gy ∧ x8.body = 0 :: ptBy q := by
   intro k' hB hT
   have hn : (keyT k').length = 9 := by rw [hT, h9]
   rcases keyT_len3 hB with ⟨hk, hn'⟩ | ⟨hk, hn'⟩ | ⟨hk, hn'⟩
   ·omega
   rotate_left 1
   ·omega
   rcases key_shape hB with ⟨e, _⟩ | ⟨e, h1, h2, h3⟩ | ⟨e, _⟩
   ·rw [e] at hk; simp at hk
   rotate_left 1
   ·rw [e] at hk; simp at hk
   have hin := keyInts_in hB (by rw [hk]; decide)
   obtain ⟨kind, N, ex, cv, q, ed, a⟩ := k'
   simp only at hk h1 h2 h3 e
   rw [hk] at hin hT
   rw [keyInts, if_pos rfl] at hin
   rw [keyT, if_neg (by simp), keyInts, if_pos rfl, keyPt, if_pos rfl, hLe] at hT
   simp only [List.map_cons, List.map_nil, List.cons_append, List.nil_append, List.cons.injEq, and_true] at hT
   obtain ⟨_, _, q2, q3, q4, q5, q6, q7, q8⟩ := hT
   have g := fun n hn => numOf_int (hin n hn).1 (hin n hn).2
   refine ⟨cv, q, ⟨h1, h2, h3⟩, e, by rw [← q2]; exact g _ (by simp), by rw [← q3]; exact g _ (by simp), by rw [← q4]; exact g _ (by simp), by rw [← q5]; exact g _ (by simp), by rw [← q6]; exact g _ (by simp), by rw [← q7]; exact g _ (by simp), by rw [← q8]⟩
  rw [itemS] at c2
  generalize numOf x2.body = e2 at *
  rw [itemS] at c3
  generalize numOf x3.body = e3 at *
  rw [itemS] at c4
  generalize numOf x4.body = e4 at *
  rw [itemS] at c5
  generalize numOf x5.body = e5 at *
  rw [itemS] at c6
  generalize numOf x6.body = e6 at *
  rw [itemS] at c7
  generalize numOf x7.body = e7 at *
  have tkN := hl
  have hbl : (x8.body.map u8A).length = x8.body.length := List.length_map _
  have eD : List.drop 1 (x8.body.map u8A) = (x8.body.drop 1).map u8A := List.map_drop.symm
  by_cases hb0 : x8.body = []
  ·refine ⟨⟨2, [], 0, ⟨e2, e3, e4, e5, e6, e7⟩, pt0, ed0, pr0⟩, ?_, fun k' hB hT => ?_⟩
   rotate_left 1
   ·obtain ⟨_, _, _, _, _, _, _, _, _, _, hh⟩ := hkey k' hB hT
    rw [hb0] at hh
    simp at hh
   have d0 : decide ((x8.body.length : Int) > 0) = false := by rw [hb0]; rfl
   refine holds_of (ann := []) tabOk hm Tryz.func5 (by kernel_rfl) rfl ?_
   rw [hmap]
   simp only [itemS]
   simp +decide (maxSteps := 9^7) only [↓reduceIte, Tryz.f5, go_sem]
   apply Runs.draw
   ·apply draws_ref (ann := []) tabOk noBy ksS7 (by kernel_rfl)
    intro K r X' hK
    simp +decide (maxSteps := 9^7) only [↓reduceIte, t2, t3, t4, t5, t6, t7, t8, go_sem]
    repeat' (first
     | apply And.intro
     | exact hK
     | (refine Runs.call c2 ?_; simp +decide (maxSteps := 9^7) only [↓reduceIte, t2, t3, t4, t5, t6, t7, t8, go_sem])
     | (refine Runs.call c3 ?_; simp +decide (maxSteps := 9^7) only [↓reduceIte, t2, t3, t4, t5, t6, t7, t8, go_sem])
     | (refine Runs.call c4 ?_; simp +decide (maxSteps := 9^7) only [↓reduceIte, t2, t3, t4, t5, t6, t7, t8, go_sem])
     | (refine Runs.call c5 ?_; simp +decide (maxSteps := 9^7) only [↓reduceIte, t2, t3, t4, t5, t6, t7, t8, go_sem])
     | (refine Runs.call c6 ?_; simp +decide (maxSteps := 9^7) only [↓reduceIte, t2, t3, t4, t5, t6, t7, t8, go_sem])
     | (refine Runs.call c7 ?_; simp +decide (maxSteps := 9^7) only [↓reduceIte, t2, t3, t4, t5, t6, t7, t8, go_sem])
     | fail)
   simp +decide (maxSteps := 9^7) only [↓reduceIte, t7, t8, hbl, d0, go_sem]
   have ck := sKeyOk hm ⟨2, [], 0, ⟨e2, e3, e4, e5, e6, e7⟩, pt0, ed0, pr0⟩ (by first | (simp only; omega) | simp)
   have cl := fun h => l10Key hm ⟨2, [], 0, ⟨e2, e3, e4, e5, e6, e7⟩, pt0, ed0, pr0⟩ h
   have cs := fun h => l10SameTree hm (keyT ⟨2, [], 0, ⟨e2, e3, e4, e5, e6, e7⟩, pt0, ed0, pr0⟩) L (by have := keyT_len ⟨2, [], 0, ⟨e2, e3, e4, e5, e6, e7⟩, pt0, ed0, pr0⟩; omega) hl (keyT_bytes h) (fun x hx => (hL x hx).1)
   have tkT : List.take (keyT ⟨2, [], 0, ⟨e2, e3, e4, e5, e6, e7⟩, pt0, ed0, pr0⟩).length ((keyT ⟨2, [], 0, ⟨e2, e3, e4, e5, e6, e7⟩, pt0, ed0, pr0⟩).map itemO) = (keyT ⟨2, [], 0, ⟨e2, e3, e4, e5, e6, e7⟩, pt0, ed0, pr0⟩).map itemO := take_map_len
   have hst : standK L ⟨2, [], 0, ⟨e2, e3, e4, e5, e6, e7⟩, pt0, ed0, pr0⟩ = if (keyB ⟨2, [], 0, ⟨e2, e3, e4, e5, e6, e7⟩, pt0, ed0, pr0⟩ && sameIs (keyT ⟨2, [], 0, ⟨e2, e3, e4, e5, e6, e7⟩, pt0, ed0, pr0⟩) L) = true then some ⟨2, [], 0, ⟨e2, e3, e4, e5, e6, e7⟩, pt0, ed0, pr0⟩ else none := rfl
   rw [hst]
   clear hst
   generalize keyB ⟨2, [], 0, ⟨e2, e3, e4, e5, e6, e7⟩, pt0, ed0, pr0⟩ = kb at *
   generalize keyT ⟨2, [], 0, ⟨e2, e3, e4, e5, e6, e7⟩, pt0, ed0, pr0⟩ = T at *
   rw [hmap] at cs
   simp only [itemS] at cs
   simp only [keyA, cv0, pt0, ed0, pr0, List.map_nil] at ck cl
   try simp +decide (maxSteps := 9^7) only [↓reduceIte, tkN, go_sem]
   refine Runs.call (Holds.le ck (.agg (.same _ (.nils _ (LeD.refl _))) .nil)) ?_
   cases kb with
   | false =>
    rw [if_neg (by simp), ansK]
    simp +decide (maxSteps := 9^7) only [↓reduceIte, keyO, k00, cv0, pt0, ed0, pr0, List.map_nil, go_sem]
    exact Runs.ret (.tup (.agg (.same _ (.nils _ (LeD.refl _))) (.same _ .nil)) .nil) rfl
   | true =>
    simp +decide (maxSteps := 9^7) only [↓reduceIte, tkN, go_sem]
    refine Runs.call (Holds.le (cl rfl) (.agg (.same _ (.nils _ (LeD.refl _))) .nil)) ?_
    simp +decide (maxSteps := 9^7) only [↓reduceIte, tkT, List.length_map, go_sem]
    refine Runs.call (cs rfl) ?_
    generalize sameIs T L = ss
    cases ss with
    | true =>
     rw [if_pos (by simp), ansK]
     simp +decide (maxSteps := 9^7) only [↓reduceIte, tkN, keyO, cv0, pt0, ed0, pr0, List.map_nil, go_sem]
     exact Runs.ret (.tup (.agg (.same _ (.nils _ (LeD.refl _))) (.same _ .nil)) .nil) rfl
    | false =>
     rw [if_neg (by simp), ansK]
     simp +decide (maxSteps := 9^7) only [↓reduceIte, keyO, k00, cv0, pt0, ed0, pr0, List.map_nil, go_sem]
     exact Runs.ret (.tup (.agg (.same _ (.nils _ (LeD.refl _))) (.same _ .nil)) .nil) rfl
  ·obtain ⟨P, ok, cP, hP⟩ := sPointRead hm ⟨e2, e3, e4, e5, e6, e7⟩ (x8.body.drop 1) (hbm.1.dr 1) (by have := hbm.2; simp; omega)
   refine ⟨⟨2, [], 0, ⟨e2, e3, e4, e5, e6, e7⟩, P, ed0, pr0⟩, ?_, fun k' hB hT => ?_⟩
   rotate_left 1
   ·obtain ⟨cv, q, ⟨h1, h2, h3⟩, e, q2, q3, q4, q5, q6, q7, hh⟩ := hkey k' hB hT
    obtain ⟨z1, z2, z3, z4, z5, z6⟩ := cv
    simp only at q2 q3 q4 q5 q6 q7
    subst q2 q3 q4 q5 q6 q7
    rw [e, hP q (by rw [hh]; rfl) h3 h1 h2]
   clear hP hkey
   rw [cvA, ptA] at cP
   have hpos : 0 < x8.body.length := List.length_pos_iff.mpr hb0
   have d0 : decide ((x8.body.length : Int) > 0) = true := decide_eq_true (by omega)
   have s1' : decide ((1 : Int) ≤ (x8.body.length : Int) ∧ (x8.body.length : Int) ≤ (x8.body.length : Int)) = true := decide_eq_true (by omega)
   have s2' : decide ((1 : Int) ≤ (x8.body.length : Int)) = true := decide_eq_true (by omega)
   refine holds_of (ann := []) tabOk hm Tryz.func5 (by kernel_rfl) rfl ?_
   rw [hmap]
   simp only [itemS]
   simp +decide (maxSteps := 9^7) only [↓reduceIte, Tryz.f5, go_sem]
   apply Runs.draw
   ·apply draws_ref (ann := []) tabOk noBy ksS7 (by kernel_rfl)
    intro K r X' hK
    simp +decide (maxSteps := 9^7) only [↓reduceIte, t2, t3, t4, t5, t6, t7, t8, go_sem]
    repeat' (first
     | apply And.intro
     | exact hK
     | (refine Runs.call c2 ?_; simp +decide (maxSteps := 9^7) only [↓reduceIte, t2, t3, t4, t5, t6, t7, t8, go_sem])
     | (refine Runs.call c3 ?_; simp +decide (maxSteps := 9^7) only [↓reduceIte, t2, t3, t4, t5, t6, t7, t8, go_sem])
     | (refine Runs.call c4 ?_; simp +decide (maxSteps := 9^7) only [↓reduceIte, t2, t3, t4, t5, t6, t7, t8, go_sem])
     | (refine Runs.call c5 ?_; simp +decide (maxSteps := 9^7) only [↓reduceIte, t2, t3, t4, t5, t6, t7, t8, go_sem])
     | (refine Runs.call c6 ?_; simp +decide (maxSteps := 9^7) only [↓reduceIte, t2, t3, t4, t5, t6, t7, t8, go_sem])
     | (refine Runs.call c7 ?_; simp +decide (maxSteps := 9^7) only [↓reduceIte, t2, t3, t4, t5, t6, t7, t8, go_sem])
     | fail)
   simp +decide (maxSteps := 9^7) only [↓reduceIte, t7, t8, hbl, d0, go_sem]
   apply Runs.draw
   ·apply draws_ref (ann := []) tabOk noBy ksS10 (by kernel_rfl)
    intro K r X' hK
    simp +decide (maxSteps := 9^7) only [↓reduceIte, t7, t8, hbl, eD, s1', s2', Int.toNat_one, go_sem]
    repeat' (first
     | apply And.intro
     | exact hK
     | (refine Runs.call cP ?_; simp +decide (maxSteps := 9^7) only [↓reduceIte, go_sem])
     | fail)
   have ck := sKeyOk hm ⟨2, [], 0, ⟨e2, e3, e4, e5, e6, e7⟩, P, ed0, pr0⟩ (by first | (simp only; omega) | simp)
   have cl := fun h => l10Key hm ⟨2, [], 0, ⟨e2, e3, e4, e5, e6, e7⟩, P, ed0, pr0⟩ h
   have cs := fun h => l10SameTree hm (keyT ⟨2, [], 0, ⟨e2, e3, e4, e5, e6, e7⟩, P, ed0, pr0⟩) L (by have := keyT_len ⟨2, [], 0, ⟨e2, e3, e4, e5, e6, e7⟩, P, ed0, pr0⟩; omega) hl (keyT_bytes h) (fun x hx => (hL x hx).1)
   have tkT : List.take (keyT ⟨2, [], 0, ⟨e2, e3, e4, e5, e6, e7⟩, P, ed0, pr0⟩).length ((keyT ⟨2, [], 0, ⟨e2, e3, e4, e5, e6, e7⟩, P, ed0, pr0⟩).map itemO) = (keyT ⟨2, [], 0, ⟨e2, e3, e4, e5, e6, e7⟩, P, ed0, pr0⟩).map itemO := take_map_len
   have hst : standK L ⟨2, [], 0, ⟨e2, e3, e4, e5, e6, e7⟩, P, ed0, pr0⟩ = if (keyB ⟨2, [], 0, ⟨e2, e3, e4, e5, e6, e7⟩, P, ed0, pr0⟩ && sameIs (keyT ⟨2, [], 0, ⟨e2, e3, e4, e5, e6, e7⟩, P, ed0, pr0⟩) L) = true then some ⟨2, [], 0, ⟨e2, e3, e4, e5, e6, e7⟩, P, ed0, pr0⟩ else none := rfl
   rw [hst]
   clear hst
   generalize keyB ⟨2, [], 0, ⟨e2, e3, e4, e5, e6, e7⟩, P, ed0, pr0⟩ = kb at *
   generalize keyT ⟨2, [], 0, ⟨e2, e3, e4, e5, e6, e7⟩, P, ed0, pr0⟩ = T at *
   rw [hmap] at cs
   simp only [itemS] at cs
   simp only [keyA, cv0, pt0, ed0, pr0, List.map_nil] at ck cl
   try simp +decide (maxSteps := 9^7) only [↓reduceIte, tkN, go_sem]
   refine Runs.call (Holds.le ck (.agg (.same _ (.nils _ (LeD.refl _))) .nil)) ?_
   cases kb with
   | false =>
    rw [if_neg (by simp), ansK]
    simp +decide (maxSteps := 9^7) only [↓reduceIte, keyO, k00, cv0, pt0, ed0, pr0, List.map_nil, go_sem]
    exact Runs.ret (.tup (.agg (.same _ (.nils _ (LeD.refl _))) (.same _ .nil)) .nil) rfl
   | true =>
    simp +decide (maxSteps := 9^7) only [↓reduceIte, tkN, go_sem]
    refine Runs.call (Holds.le (cl rfl) (.agg (.same _ (.nils _ (LeD.refl _))) .nil)) ?_
    simp +decide (maxSteps := 9^7) only [↓reduceIte, tkT, List.length_map, go_sem]
    refine Runs.call (cs rfl) ?_
    generalize sameIs T L = ss
    cases ss with
    | true =>
     rw [if_pos (by simp), ansK]
     simp +decide (maxSteps := 9^7) only [↓reduceIte, tkN, keyO, cv0, pt0, ed0, pr0, List.map_nil, go_sem]
     exact Runs.ret (.tup (.agg (.same _ (.nils _ (LeD.refl _))) (.same _ .nil)) .nil) rfl
    | false =>
     rw [if_neg (by simp), ansK]
     simp +decide (maxSteps := 9^7) only [↓reduceIte, keyO, k00, cv0, pt0, ed0, pr0, List.map_nil, go_sem]
     exact Runs.ret (.tup (.agg (.same _ (.nils _ (LeD.refl _))) (.same _ .nil)) .nil) rfl
 by_cases h8 : L.length = 8
 ·obtain ⟨x0, x1, x2, x3, x4, x5, x6, x7, hLe⟩ : ∃ x0 x1 x2 x3 x4 x5 x6 x7, L = [x0, x1, x2, x3, x4, x5, x6, x7] := by
   match L, h8 with
   | [y0, y1, y2, y3, y4, y5, y6, y7], _ => exact ⟨y0, y1, y2, y3, y4, y5, y6, y7, rfl⟩
  have hbm := hL x7 (by rw [hLe]; simp)
  have hmap : L.map itemS = [itemS x0, itemS x1, itemS x2, itemS x3, itemS x4, itemS x5, itemS x6, itemS x7] := by rw [hLe]; rfl
  have c2 := cnum x2 (by rw [hLe]; simp)
  have c3 := cnum x3 (by rw [hLe]; simp)
  have c4 := cnum x4 (by rw [hLe]; simp)
  have c5 := cnum x5 (by rw [hLe]; simp)
  have c6 := cnum x6 (by rw [hLe]; simp)
  have hkey : ∀ k', keyB k' = true → keyT k' = L → ∃ (ed : GEd) (q : GPr), (edB ed = true ∧ eonZ ed.p ed.d q = true) ∧ k' = ⟨3, [], 0, cv0, pt0, ed, q⟩ ∧ numOf x2.body = ed.p ∧ numOf x3.body = ed.d ∧ numOf x4.body = ed.l ∧ numOf x5.body = ed.bx ∧ numOf x6.body = ed.by' ∧ x7.body = 0 :: edBy q := by
   intro k' hB hT
   have hn : (keyT k').length = 8 := by rw [hT, h8]
   rcases keyT_len3 hB with ⟨hk, hn'⟩ | ⟨hk, hn'⟩ | ⟨hk, hn'⟩
   ·omega
   ·omega
   rcases key_shape hB with ⟨e, _⟩ | ⟨e, _⟩ | ⟨e, h1, h2⟩
   ·rw [e] at hk; simp at hk
   ·rw [e] at hk; simp at hk
   have hin := keyInts_in hB (by rw [hk]; decide)
   obtain ⟨kind, N, ex, cv, q, ed, a⟩ := k'
   simp only at hk h1 h2  e
   rw [hk] at hin hT
   rw [keyInts, if_neg (by simp)] at hin
   rw [keyT, if_neg (by simp), keyInts, if_neg (by simp), keyPt, if_neg (by simp), hLe] at hT
   simp only [List.map_cons, List.map_nil, List.cons_append, List.nil_append, List.cons.injEq, and_true] at hT
   obtain ⟨_, _, q2, q3, q4, q5, q6, q7⟩ := hT
   have g := fun n hn => numOf_int (hin n hn).1 (hin n hn).2
   refine ⟨ed, a, ⟨h1, h2⟩, e, by rw [← q2]; exact g _ (by simp), by rw [← q3]; exact g _ (by simp), by rw [← q4]; exact g _ (by simp), by rw [← q5]; exact g _ (by simp), by rw [← q6]; exact g _ (by simp), by rw [← q7]⟩
  rw [itemS] at c2
  generalize numOf x2.body = e2 at *
  rw [itemS] at c3
  generalize numOf x3.body = e3 at *
  rw [itemS] at c4
  generalize numOf x4.body = e4 at *
  rw [itemS] at c5
  generalize numOf x5.body = e5 at *
  rw [itemS] at c6
  generalize numOf x6.body = e6 at *
  have tkN := hl
  have hbl : (x7.body.map u8A).length = x7.body.length := List.length_map _
  have eD : List.drop 1 (x7.body.map u8A) = (x7.body.drop 1).map u8A := List.map_drop.symm
  by_cases hb0 : x7.body = []
  ·refine ⟨⟨3, [], 0, cv0, pt0, ⟨e2, e3, e4, e5, e6⟩, pr0⟩, ?_, fun k' hB hT => ?_⟩
   rotate_left 1
   ·obtain ⟨_, _, _, _, _, _, _, _, _, hh⟩ := hkey k' hB hT
    rw [hb0] at hh
    simp at hh
   have d0 : decide ((x7.body.length : Int) > 0) = false := by rw [hb0]; rfl
   refine holds_of (ann := []) tabOk hm Tryz.func5 (by kernel_rfl) rfl ?_
   rw [hmap]
   simp only [itemS]
   simp +decide (maxSteps := 9^7) only [↓reduceIte, Tryz.f5, go_sem]
   apply Runs.draw
   ·apply draws_ref (ann := []) tabOk noBy ksS12 (by kernel_rfl)
    intro K r X' hK
    simp +decide (maxSteps := 9^7) only [↓reduceIte, t2, t3, t4, t5, t6, t7, t8, go_sem]
    repeat' (first
     | apply And.intro
     | exact hK
     | (refine Runs.call c2 ?_; simp +decide (maxSteps := 9^7) only [↓reduceIte, t2, t3, t4, t5, t6, t7, t8, go_sem])
     | (refine Runs.call c3 ?_; simp +decide (maxSteps := 9^7) only [↓reduceIte, t2, t3, t4, t5, t6, t7, t8, go_sem])
     | (refine Runs.call c4 ?_; simp +decide (maxSteps := 9^7) only [↓reduceIte, t2, t3, t4, t5, t6, t7, t8, go_sem])
     | (refine Runs.call c5 ?_; simp +decide (maxSteps := 9^7) only [↓reduceIte, t2, t3, t4, t5, t6, t7, t8, go_sem])
     | (refine Runs.call c6 ?_; simp +decide (maxSteps := 9^7) only [↓reduceIte, t2, t3, t4, t5, t6, t7, t8, go_sem])
     | fail)
   simp +decide (maxSteps := 9^7) only [↓reduceIte, t7, t8, hbl, d0, go_sem]
   have ck := sKeyOk hm ⟨3, [], 0, cv0, pt0, ⟨e2, e3, e4, e5, e6⟩, pr0⟩ (by first | (simp only; omega) | simp)
   have cl := fun h => l10Key hm ⟨3, [], 0, cv0, pt0, ⟨e2, e3, e4, e5, e6⟩, pr0⟩ h
   have cs := fun h => l10SameTree hm (keyT ⟨3, [], 0, cv0, pt0, ⟨e2, e3, e4, e5, e6⟩, pr0⟩) L (by have := keyT_len ⟨3, [], 0, cv0, pt0, ⟨e2, e3, e4, e5, e6⟩, pr0⟩; omega) hl (keyT_bytes h) (fun x hx => (hL x hx).1)
   have tkT : List.take (keyT ⟨3, [], 0, cv0, pt0, ⟨e2, e3, e4, e5, e6⟩, pr0⟩).length ((keyT ⟨3, [], 0, cv0, pt0, ⟨e2, e3, e4, e5, e6⟩, pr0⟩).map itemO) = (keyT ⟨3, [], 0, cv0, pt0, ⟨e2, e3, e4, e5, e6⟩, pr0⟩).map itemO := take_map_len
   have hst : standK L ⟨3, [], 0, cv0, pt0, ⟨e2, e3, e4, e5, e6⟩, pr0⟩ = if (keyB ⟨3, [], 0, cv0, pt0, ⟨e2, e3, e4, e5, e6⟩, pr0⟩ && sameIs (keyT ⟨3, [], 0, cv0, pt0, ⟨e2, e3, e4, e5, e6⟩, pr0⟩) L) = true then some ⟨3, [], 0, cv0, pt0, ⟨e2, e3, e4, e5, e6⟩, pr0⟩ else none := rfl
   rw [hst]
   clear hst
   generalize keyB ⟨3, [], 0, cv0, pt0, ⟨e2, e3, e4, e5, e6⟩, pr0⟩ = kb at *
   generalize keyT ⟨3, [], 0, cv0, pt0, ⟨e2, e3, e4, e5, e6⟩, pr0⟩ = T at *
   rw [hmap] at cs
   simp only [itemS] at cs
   simp only [keyA, cv0, pt0, ed0, pr0, List.map_nil] at ck cl
   try simp +decide (maxSteps := 9^7) only [↓reduceIte, tkN, go_sem]
   refine Runs.call (Holds.le ck (.agg (.same _ (.nils _ (LeD.refl _))) .nil)) ?_
   cases kb with
   | false =>
    rw [if_neg (by simp), ansK]
    simp +decide (maxSteps := 9^7) only [↓reduceIte, keyO, k00, cv0, pt0, ed0, pr0, List.map_nil, go_sem]
    exact Runs.ret (.tup (.agg (.same _ (.nils _ (LeD.refl _))) (.same _ .nil)) .nil) rfl
   | true =>
    simp +decide (maxSteps := 9^7) only [↓reduceIte, tkN, go_sem]
    refine Runs.call (Holds.le (cl rfl) (.agg (.same _ (.nils _ (LeD.refl _))) .nil)) ?_
    simp +decide (maxSteps := 9^7) only [↓reduceIte, tkT, List.length_map, go_sem]
    refine Runs.call (cs rfl) ?_
    generalize sameIs T L = ss
    cases ss with
    | true =>
     rw [if_pos (by simp), ansK]
     simp +decide (maxSteps := 9^7) only [↓reduceIte, tkN, keyO, cv0, pt0, ed0, pr0, List.map_nil, go_sem]
     exact Runs.ret (.tup (.agg (.same _ (.nils _ (LeD.refl _))) (.same _ .nil)) .nil) rfl
    | false =>
     rw [if_neg (by simp), ansK]
     simp +decide (maxSteps := 9^7) only [↓reduceIte, keyO, k00, cv0, pt0, ed0, pr0, List.map_nil, go_sem]
     exact Runs.ret (.tup (.agg (.same _ (.nils _ (LeD.refl _))) (.same _ .nil)) .nil) rfl
  ·obtain ⟨R, hR⟩ : ∃ R, R = (if edB ⟨e2, e3, e4, e5, e6⟩ = true then edRdS e2.toNat e3 (x7.body.drop 1) else ((0, 0), false)) := ⟨_, rfl⟩
   have cP := sEdRead hm ⟨e2, e3, e4, e5, e6⟩ (x7.body.drop 1) (hbm.1.dr 1) (by have := hbm.2; simp; omega)
   simp only at cP
   rw [← hR] at cP
   obtain ⟨P, ok⟩ := R
   refine ⟨⟨3, [], 0, cv0, pt0, ⟨e2, e3, e4, e5, e6⟩, P⟩, ?_, fun k' hB hT => ?_⟩
   rotate_left 1
   ·obtain ⟨ed, q, ⟨h1, h2⟩, e, q2, q3, q4, q5, q6, hh⟩ := hkey k' hB hT
    obtain ⟨z1, z2, z3, z4, z5⟩ := ed
    simp only at q2 q3 q4 q5 q6
    subst q2 q3 q4 q5 q6
    rw [if_pos h1, hh] at hR
    have hb := (edRd_back h1 h2).2
    simp only at hb
    rw [List.drop_succ_cons, List.drop_zero, hb] at hR
    rw [e, (Prod.mk.inj hR).1]
   clear hR hkey
   rw [edA, prA] at cP
   have hpos : 0 < x7.body.length := List.length_pos_iff.mpr hb0
   have d0 : decide ((x7.body.length : Int) > 0) = true := decide_eq_true (by omega)
   have s1' : decide ((1 : Int) ≤ (x7.body.length : Int) ∧ (x7.body.length : Int) ≤ (x7.body.length : Int)) = true := decide_eq_true (by omega)
   have s2' : decide ((1 : Int) ≤ (x7.body.length : Int)) = true := decide_eq_true (by omega)
   refine holds_of (ann := []) tabOk hm Tryz.func5 (by kernel_rfl) rfl ?_
   rw [hmap]
   simp only [itemS]
   simp +decide (maxSteps := 9^7) only [↓reduceIte, Tryz.f5, go_sem]
   apply Runs.draw
   ·apply draws_ref (ann := []) tabOk noBy ksS12 (by kernel_rfl)
    intro K r X' hK
    simp +decide (maxSteps := 9^7) only [↓reduceIte, t2, t3, t4, t5, t6, t7, t8, go_sem]
    repeat' (first
     | apply And.intro
     | exact hK
     | (refine Runs.call c2 ?_; simp +decide (maxSteps := 9^7) only [↓reduceIte, t2, t3, t4, t5, t6, t7, t8, go_sem])
     | (refine Runs.call c3 ?_; simp +decide (maxSteps := 9^7) only [↓reduceIte, t2, t3, t4, t5, t6, t7, t8, go_sem])
     | (refine Runs.call c4 ?_; simp +decide (maxSteps := 9^7) only [↓reduceIte, t2, t3, t4, t5, t6, t7, t8, go_sem])
     | (refine Runs.call c5 ?_; simp +decide (maxSteps := 9^7) only [↓reduceIte, t2, t3, t4, t5, t6, t7, t8, go_sem])
     | (refine Runs.call c6 ?_; simp +decide (maxSteps := 9^7) only [↓reduceIte, t2, t3, t4, t5, t6, t7, t8, go_sem])
     | fail)
   simp +decide (maxSteps := 9^7) only [↓reduceIte, t7, t8, hbl, d0, go_sem]
   apply Runs.draw
   ·apply draws_ref (ann := []) tabOk noBy ksS15 (by kernel_rfl)
    intro K r X' hK
    simp +decide (maxSteps := 9^7) only [↓reduceIte, t7, t8, hbl, eD, s1', s2', Int.toNat_one, go_sem]
    repeat' (first
     | apply And.intro
     | exact hK
     | (refine Runs.call cP ?_; simp +decide (maxSteps := 9^7) only [↓reduceIte, go_sem])
     | fail)
   have ck := sKeyOk hm ⟨3, [], 0, cv0, pt0, ⟨e2, e3, e4, e5, e6⟩, P⟩ (by first | (simp only; omega) | simp)
   have cl := fun h => l10Key hm ⟨3, [], 0, cv0, pt0, ⟨e2, e3, e4, e5, e6⟩, P⟩ h
   have cs := fun h => l10SameTree hm (keyT ⟨3, [], 0, cv0, pt0, ⟨e2, e3, e4, e5, e6⟩, P⟩) L (by have := keyT_len ⟨3, [], 0, cv0, pt0, ⟨e2, e3, e4, e5, e6⟩, P⟩; omega) hl (keyT_bytes h) (fun x hx => (hL x hx).1)
   have tkT : List.take (keyT ⟨3, [], 0, cv0, pt0, ⟨e2, e3, e4, e5, e6⟩, P⟩).length ((keyT ⟨3, [], 0, cv0, pt0, ⟨e2, e3, e4, e5, e6⟩, P⟩).map itemO) = (keyT ⟨3, [], 0, cv0, pt0, ⟨e2, e3, e4, e5, e6⟩, P⟩).map itemO := take_map_len
   have hst : standK L ⟨3, [], 0, cv0, pt0, ⟨e2, e3, e4, e5, e6⟩, P⟩ = if (keyB ⟨3, [], 0, cv0, pt0, ⟨e2, e3, e4, e5, e6⟩, P⟩ && sameIs (keyT ⟨3, [], 0, cv0, pt0, ⟨e2, e3, e4, e5, e6⟩, P⟩) L) = true then some ⟨3, [], 0, cv0, pt0, ⟨e2, e3, e4, e5, e6⟩, P⟩ else none := rfl
   rw [hst]
   clear hst
   generalize keyB ⟨3, [], 0, cv0, pt0, ⟨e2, e3, e4, e5, e6⟩, P⟩ = kb at *
   generalize keyT ⟨3, [], 0, cv0, pt0, ⟨e2, e3, e4, e5, e6⟩, P⟩ = T at *
   rw [hmap] at cs
   simp only [itemS] at cs
   simp only [keyA, cv0, pt0, ed0, pr0, List.map_nil] at ck cl
   try simp +decide (maxSteps := 9^7) only [↓reduceIte, tkN, go_sem]
   refine Runs.call (Holds.le ck (.agg (.same _ (.nils _ (LeD.refl _))) .nil)) ?_
   cases kb with
   | false =>
    rw [if_neg (by simp), ansK]
    simp +decide (maxSteps := 9^7) only [↓reduceIte, keyO, k00, cv0, pt0, ed0, pr0, List.map_nil, go_sem]
    exact Runs.ret (.tup (.agg (.same _ (.nils _ (LeD.refl _))) (.same _ .nil)) .nil) rfl
   | true =>
    simp +decide (maxSteps := 9^7) only [↓reduceIte, tkN, go_sem]
    refine Runs.call (Holds.le (cl rfl) (.agg (.same _ (.nils _ (LeD.refl _))) .nil)) ?_
    simp +decide (maxSteps := 9^7) only [↓reduceIte, tkT, List.length_map, go_sem]
    refine Runs.call (cs rfl) ?_
    generalize sameIs T L = ss
    cases ss with
    | true =>
     rw [if_pos (by simp), ansK]
     simp +decide (maxSteps := 9^7) only [↓reduceIte, tkN, keyO, cv0, pt0, ed0, pr0, List.map_nil, go_sem]
     exact Runs.ret (.tup (.agg (.same _ (.nils _ (LeD.refl _))) (.same _ .nil)) .nil) rfl
    | false =>
     rw [if_neg (by simp), ansK]
     simp +decide (maxSteps := 9^7) only [↓reduceIte, keyO, k00, cv0, pt0, ed0, pr0, List.map_nil, go_sem]
     exact Runs.ret (.tup (.agg (.same _ (.nils _ (LeD.refl _))) (.same _ .nil)) .nil) rfl
 have d4 : decide ((L.length : Int) = 4) = false := decide_eq_false (by omega)
 have d9 : decide ((L.length : Int) = 9) = false := decide_eq_false (by omega)
 have d8 : decide ((L.length : Int) = 8) = false := decide_eq_false (by omega)
 have hlen : (L.map itemS).length = L.length := List.length_map _
 refine ⟨k00, ?_, fun k' hB hT => ?_⟩
 rotate_left 1
 ·have hn := keyT_len3 hB
  rw [hT] at hn
  omega
 have ck := sKeyOk hm k00 (by simp [k00])
 have hB : keyB k00 = false := by
  unfold keyB k00
  rw [if_neg (by decide), if_neg (by decide), if_neg (by decide)]
 have hs : standK L k00 = none := by rw [standK, if_neg (by rw [hB]; simp)]
 rw [hs, ansK]
 rw [hB] at ck
 simp only [keyA, k00, cv0, pt0, ed0, pr0, List.map_nil] at ck
 refine holds_of (ann := []) tabOk hm Tryz.func5 (by kernel_rfl) rfl ?_
 simp +decide (maxSteps := 9^7) only [↓reduceIte, Tryz.f5, hlen, d4, d9, d8, go_sem]
 refine Runs.call (Holds.le ck (.agg (.same _ (.nils _ (LeD.refl _))) .nil)) ?_
 simp +decide (maxSteps := 9^7) only [↓reduceIte, keyO, k00, cv0, pt0, ed0, pr0, List.map_nil, go_sem]
 exact Runs.ret (.tup (.agg (.same _ (.nils _ (LeD.refl _))) (.same _ .nil)) .nil) rfl
end Go.Proofs.W

namespace Go.Proofs.W
open Go Go.AM
set_option maxRecDepth 10000
variable (hm : Tryz.prog.follows .mixedOrders = true)
attribute [local go_sem] pl_u8A dn_u8A
def sumBd (L : List It) : Nat := (L.map fun x => x.body.length).sum
theorem sumBd_cons (x : It) (L : List It) : sumBd (x :: L) = x.body.length + sumBd L := by simp [sumBd]
def szIt : List It → Int → Int
 | [], l => l
 | r :: R, l => if szI r.body.length l < 0 then -1 else szIt R (szI r.body.length l)
def szIts (L : List It) (left : Int) : Int := if left - L.length < 0 then -1 else szIt L (left - L.length)
theorem szIt_le (L : List It) (l : Int) (h : 0 ≤ l) : szIt L l ≤ l ∧ -1 ≤ szIt L l ∧ (0 ≤ szIt L l → (sumBd L : Int) ≤ l ∧ ∀ r ∈ L, r.body.length ≤ l) := by
 induction L generalizing l with
 | nil => simp [szIt, sumBd]; omega
 | cons r R ih =>
  simp only [szIt]
  have hs := szI_le r.body.length l h
  split
  ·exact ⟨by omega, by omega, fun h => by omega⟩
  ·have := ih (szI r.body.length l) (by omega)
   have hv : szI r.body.length l = l - r.body.length := by unfold szI at *; split at * <;> omega
   refine ⟨by omega, by omega, fun h2 => ⟨?_, fun x hx => ?_⟩⟩
   ·have := (this.2.2 h2).1
    rw [sumBd_cons]; omega
   ·rcases List.mem_cons.mp hx with h3 | h3
    ·subst h3; omega
    ·have := (this.2.2 h2).2 x h3; omega
theorem szIts_le (L : List It) (l : Int) (h : 0 ≤ l) : szIts L l ≤ l ∧ -1 ≤ szIts L l ∧ (0 ≤ szIts L l → (L.length : Int) + sumBd L ≤ l ∧ ∀ r ∈ L, r.body.length ≤ l) := by
 unfold szIts
 split
 ·exact ⟨by omega, by omega, fun h => by omega⟩
 ·have := szIt_le L (l - L.length) (by omega)
  exact ⟨by omega, by omega, fun h2 => ⟨by have := (this.2.2 h2).1; omega, fun r hr => by have := (this.2.2 h2).2 r hr; omega⟩⟩
include hm in
theorem szItem (x : It) (left : Int) (h1 : 0 ≤ left) (h2 : left ≤ 1048576) (h3 : x.body.length ≤ 9223372036854775807) : Holds Tryz.prog 13 [itemS x, .v (.int .i64 left)] [] (.v (.int .i64 (szI x.body.length left))) [] := by
 have cb := szByteS hm (x.body.map u8A) left h1 h2 (by simpa using h3)
 rw [List.length_map] at cb
 have hb := szI_le x.body.length left h1
 rw [itemS]
 refine holds_of (ann := []) tabOk hm Tryz.func13 (by kernel_rfl) rfl ?_
 simp +decide (maxSteps := 9^7) only [↓reduceIte, Tryz.f13, go_sem]
 refine Runs.call cb ?_
 generalize szI x.body.length left = v at *
 by_cases h : v < 0
 ·have d : decide (v < 0) = true := decide_eq_true h
  have e : v = -1 := by omega
  rw [e]
  simp +decide (maxSteps := 9^7) only [↓reduceIte, d, go_sem]
  exact Runs.ret_v
 ·have d : decide (v < 0) = false := decide_eq_false h
  simp +decide (maxSteps := 9^7) only [↓reduceIte, d, go_sem]
  exact Runs.ret_v
def siAnn : Ann := [(0, [0, 1, 5])]
def siSt (L : List It) (p : Nat × Int) : St := ⟨[.sl .sh (L.map itemS), .v (.int .i64 p.2), .any, .any, .any, .v (.int .i64 p.1), .any, .any, .any, .any, .any, .any, .any, .any, .any, .any, .any, .any, .any, .any, .any, .any, .any, .any, .any, .any, .any], [], []⟩
include hm in
theorem szItemS (L : List It) (left : Int) (h1 : 0 ≤ left) (h2 : left ≤ 1048576) (h3 : L.length ≤ 9223372036854775807) (h4 : ∀ s ∈ L, s.body.length ≤ 9223372036854775807) :
  Holds Tryz.prog 4 [.sl .sh (L.map itemS), .v (.int .i64 left)] [] (.v (.int .i64 (szIts L left))) [] := by
 refine holds_of (ann := siAnn) tabOk hm Tryz.func4 (by kernel_rfl) rfl ?_
 simp +decide (disch := first | omega | (simp only [ll]; omega)) only [Tryz.f4, if_pos, go_sem]
 refine Runs.split (fun h => ?_) (fun h => ?_)
 ·simp only [decide_eq_true_eq] at h
  simp +decide only [szIts, if_pos h, go_sem]
  exact Runs.ret_v
 ·simp only [decide_eq_false_iff_not] at h
  simp +decide only [go_sem]
  refine Runs.while (α := Nat × Int) (siSt L) (fun p => L.length - p.1) (fun p => p.1 ≤ L.length ∧ 0 ≤ p.2 ∧ p.2 ≤ 1048576 ∧ szIt (L.drop p.1) p.2 = szIts L left) (0, left - L.length) ⟨by simp, by simp; omega, by simp; omega, by simp [szIts, h]⟩ ?_ ?_
  ·simp [go_sem, siAnn, siSt]
  ·rintro ⟨i, l⟩ ⟨hi, hl1, hl2, hr⟩ ih
   simp only at hi hl1 hl2 hr
   simp +decide only [siSt, go_sem]
   refine Runs.split (fun h => ?_) (fun h => ?_)
   ·have hlt : i < L.length := by simpa using h
    have hsz := h4 L[i] (List.getElem_mem hlt)
    have hg : (L.map itemS).getD i .any = .agg [.v (.int .i64 L[i].tag), .sl .sh (L[i].body.map u8A), .v (.int .i64 L[i].kids)] := by simp [List.getD, hlt, itemS]
    have cz := szItem hm L[i] l hl1 hl2 hsz
    rw [itemS] at cz
    rw [List.drop_eq_getElem_cons hlt] at hr
    simp only [szIt] at hr
    have hb := szI_le L[i].body.length l hl1
    simp +decide (disch := first | omega | (simp only [ll]; omega)) only [hg, if_pos, go_sem]
    refine Runs.call cz ?_
    simp +decide only [go_sem]
    refine Runs.split (fun h => ?_) (fun h => ?_)
    ·simp only [decide_eq_true_eq] at h
     rw [if_pos h] at hr
     simp +decide only [← hr, go_sem]
     exact Runs.ret_v
    ·simp only [decide_eq_false_iff_not] at h
     rw [if_neg h] at hr
     simp +decide (disch := first | omega | (simp only [ll]; omega)) only [if_pos, go_sem]
     refine ih (i + 1, szI L[i].body.length l) _ (by simp only; omega) ⟨hlt, by simp only; omega, by simp only; omega, hr⟩ ?_
     simp [go_sem, siAnn, siSt]
   ·have hge : i = L.length := by simp at h; omega
    subst hge
    simp only [List.drop_length, szIt] at hr
    simp +decide only [← hr, go_sem]
    exact Runs.ret_v
include hm in
theorem toItem (x : It) (h3 : x.body.length ≤ 1048576) : Holds Tryz.prog 21 [itemS x] [] (itemO x) [] := by
 have cb := toByteS hm x.body h3
 have tk : List.take x.body.length (x.body.map u8A) = x.body.map u8A := take_map_len
 rw [itemS, itemO]
 refine holds_ref (ann := []) tabOk hm (byL [] [1000001]) Tryz.func21 (by kernel_rfl) rfl ?_
 simp +decide (maxSteps := 9^7) only [↓reduceIte, Tryz.f21, go_sem]
 refine Runs.call cb ?_
 simp +decide (maxSteps := 9^7) only [↓reduceIte, tk, List.length_map, go_sem]
 exact Runs.ret_refl
def tiZ : A := .agg [.v (.int .i64 0), .v (.slice none 0 0), .v (.int .i64 0)]
def tiiSt (L : List It) (i : Nat) : St := ⟨[.sl .sh (L.map itemS), .any, .any, .ms (.l 0) 0 L.length L.length, .v (.int .i64 i), .any, .any, .any, .any, .any, .any, .any, .any, .any, .any, .any, .any, .any, .any, .any, .any, .any, .any], [(0, ⟨true, 3, false, fillS itemO L tiZ i⟩)], []⟩
include hm in
theorem toItemS (L : List It) (h3 : L.length ≤ 1048576) (h4 : ∀ s ∈ L, s.body.length ≤ 1048576) : Holds Tryz.prog 6 [.sl .sh (L.map itemS)] [] (.sl (.ow 3) (L.map itemO)) [] := by
 refine holds_of (ann := toAnn) tabOk hm Tryz.func6 (by kernel_rfl) rfl ?_
 simp +decide (disch := first | omega | (simp only [ll]; omega)) only [Tryz.f6, if_pos, go_sem]
 refine Runs.while (α := Nat) (tiiSt L) (fun i => L.length - i) (fun i => i ≤ L.length) 0 (by omega) ?_ ?_
 ·simp [go_sem, toAnn, tiiSt, fillS_zero, tiZ]
 ·intro i hi ih
  have hlen := fillS_length itemO L tiZ i hi
  simp +decide only [tiiSt, hlen, go_sem]
  refine Runs.split (fun h => ?_) (fun h => ?_)
  ·have hlt : i < L.length := by simpa using h
   have hg : (fillS itemO L tiZ i).getD i .any = .agg [.v (.int .i64 0), .v (.slice none 0 0), .v (.int .i64 0)] := fillS_get itemO L tiZ i hlt
   have hg2 : (L.map itemS).getD i .any = .agg [.v (.int .i64 L[i].tag), .sl .sh (L[i].body.map u8A), .v (.int .i64 L[i].kids)] := by simp [List.getD, hlt, itemS]
   have cz := toItem hm L[i] (h4 _ (List.getElem_mem hlt))
   rw [itemS, itemO] at cz
   have hs : (fillS itemO L tiZ i).set i (itemO L[i]) = _ := fillS_set itemO L tiZ i hlt
   simp only [itemO] at hs
   simp +decide (disch := first | omega | (simp only [ll]; omega)) only [hlen, hg, hg2, if_pos, go_sem]
   refine Runs.call cz ?_
   simp +decide (disch := first | omega | (simp only [ll]; omega)) only [hlen, hg, hs, Nat.mul_one, Nat.zero_add, Nat.add_zero, if_pos, go_sem]
   refine ih (i + 1) _ (by omega) hlt ?_
   simp [go_sem, toAnn, tiiSt]
  ·have hge : i = L.length := by simp at h; omega
   subst hge
   simp +decide only [hlen, fillS_all, go_sem]
   exact Runs.ret_refl
end Go.Proofs.W

namespace Go.Proofs.W
open Go Go.AM Go.Proofs.G
variable (hm : Tryz.prog.follows .mixedOrders = true)
attribute [local go_sem] keyA keyO
theorem cntI_sum : ∀ L : List It, cntI L = 2 * L.length + sumBd L
 | [] => rfl
 | x :: r => by rw [cntI, cntI_sum r, sumBd_cons, List.length_cons]; omega
theorem mkI_plK (k : Int) (n : Nat) : dnL ((List.range n).map (mkInt k)) = (List.range n).map (mkInt k) := by rw [dnL_map]; rfl
theorem tk_mkK (k : Int) (n : Nat) : List.take n ((List.range n).map (mkInt k)) = (List.range n).map (mkInt k) := List.take_of_length_le (by simp)
theorem standK_eq {L : List It} {k : GKey} : standK L k = none ∨ (standK L k = some k ∧ keyB k = true ∧ keyT k = L) := by
 unfold standK
 split
 ·rename_i h
  simp only [Bool.and_eq_true] at h
  exact .inr ⟨rfl, h.1, sameIs_iff.mp h.2⟩
 ·exact .inl rfl
theorem rk_same {L : List It} {k : GKey} (h : ∀ k', keyB k' = true → keyT k' = L → k = k') : standK L k = rkI L := by
 by_cases hx : ∃ k', keyB k' = true ∧ keyT k' = L
 ·obtain ⟨k', h1, h2⟩ := hx
  have hk := h k' h1 h2
  subst hk
  have ht := keyT_ok h1
  have hd := keyT_der k
  rw [h2] at ht hd
  rw [rkI, if_pos ht, hd, readI_back h1]
 ·have e1 : standK L k = none := by
   rcases standK_eq (L := L) (k := k) with h | ⟨_, h1, h2⟩
   ·exact h
   ·exact absurd ⟨k, h1, h2⟩ hx
  rw [e1, rkI]
  split
  ·rcases standK_eq (L := L) (k := readI (nestP L 13 0).1) with h | ⟨_, h1, h2⟩
   ·exact h.symm
   ·exact absurd ⟨_, h1, h2⟩ hx
  ·rfl
theorem rkI_len (L : List It) : ∃ k ok, ansK (rkI L) = .tup [keyO k, .v (.bool ok)] ∧ k.N.length ≤ 64 := by
 cases h : rkI L with
 | none => exact ⟨k00, false, rfl, by simp [k00]⟩
 | some k =>
  refine ⟨k, true, rfl, ?_⟩
  rw [rkI] at h
  split at h
  ·rcases standK_eq (L := L) (k := readI (nestP L 13 0).1) with h' | ⟨h', _⟩
   ·rw [h'] at h; simp at h
   ·rw [h'] at h
    simp only [Option.some.injEq] at h
    rw [← h]; exact readI_len _
  ·simp at h
set_option maxRecDepth 10000 in
include hm in
theorem heldKey (k : GKey) (n : Nat) (m : Int) (h1 : 0 ≤ m) (h2 : m + n ≤ 4611686018427387904) :
  Holds Tryz.prog 12 [.agg [.v (.int .i64 k.kind), .sl .sh ((List.range n).map (mkInt m)), .v (.int .i64 k.e), .v (.int .i64 k.cv.p), .v (.int .i64 k.cv.a), .v (.int .i64 k.cv.b), .v (.int .i64 k.cv.n), .v (.int .i64 k.cv.gx), .v (.int .i64 k.cv.gy), .v (.int .i64 k.q.x), .v (.int .i64 k.q.y), .v (.bool k.q.far), .v (.int .i64 k.ed.p), .v (.int .i64 k.ed.d), .v (.int .i64 k.ed.l), .v (.int .i64 k.ed.bx), .v (.int .i64 k.ed.by'), .v (.int .i64 k.a.1), .v (.int .i64 k.a.2)], .v (.int .i64 m)] [] (.v (.int .i64 (m + n))) [] := by
 have d1 : decide (m + (n : Int) < 0) = false := by simp; omega
 refine holds_of (ann := []) tabOk hm Tryz.func12 (by kernel_rfl) rfl ?_
 simp +decide (maxSteps := 9^7) only [↓reduceIte, Tryz.f12, mkI_plK, go_sem]
 refine Runs.call (heldIntS hm n m h1 h2) ?_
 simp +decide (maxSteps := 9^7) only [↓reduceIte, d1, go_sem]
 exact Runs.ret_v
set_option maxRecDepth 10000 in
set_option maxHeartbeats 4000000 in
include hm in
theorem lawReadKeyTree (L : List It) (hLn : L.length ≤ 9223372036854775807) (hb : ∀ x ∈ L, BytesOk x.body ∧ x.body.length ≤ 9223372036854775807) : Holds Tryz.prog 3 [.sl .sh (L.map itemS)] [] (.v (.bool true)) [] := by
 have cz := szItemS hm L 1048576 (by omega) (by omega) hLn (fun x hx => (hb x hx).2)
 have hz := szIts_le L 1048576 (by omega)
 refine holds_ref (ann := []) tabOk hm (byL [11, 10] []) Tryz.func3 (by kernel_rfl) rfl ?_
 simp +decide (maxSteps := 9^7) only [↓reduceIte, Tryz.f3, go_sem]
 refine Runs.call cz ?_
 simp +decide (maxSteps := 9^7) only [↓reduceIte, go_sem]
 refine Runs.split (fun e => by simp +decide (maxSteps := 9^7) only [↓reduceIte, go_sem]; exact Runs.ret_v) (fun e => ?_)
 simp only [decide_eq_false_iff_not] at e
 obtain ⟨z1, z2⟩ := hz.2.2 (by omega)
 have hl : L.length ≤ 1048576 := by omega
 have hL : ∀ x ∈ L, BytesOk x.body ∧ x.body.length ≤ 1048576 := fun x hx => ⟨(hb x hx).1, by have := z2 x hx; omega⟩
 have hcnt : (cntI L : Int) ≤ 2097152 := by rw [cntI_sum]; omega
 have ct := toItemS hm L hl (fun x hx => (hL x hx).2)
 obtain ⟨ks, cs, hks⟩ := specReadKeyTree hm L hl hL
 have ci := implReadKeyTree hm L hl hL
 rw [rk_same hks] at cs
 obtain ⟨k, ok, ek, kn⟩ := rkI_len L
 rw [ek] at cs ci
 clear ek hks
 have ce := eqKey hm k (by omega)
 have hq := eqItemS hm L (by omega) (fun x hx => (hb x hx).2)
 have hm0 := markKey hm k 1 (by omega) (by omega)
 have hh0 := heldKey hm k k.N.length 1 (by omega) (by omega)
 have hm1 := markItemS hm L 1 (by omega) (by omega)
 have hd : decide ((1 : Int) + k.N.length < 0) = false := by simp; omega
 have hd2 : decide ((1 : Int) + cntI L < 0) = false := by simp; omega
 have hT : (L.map itemO).length = L.length := List.length_map _
 have htk : List.take L.length (L.map itemO) = L.map itemO := take_map_len
 have hN : (k.N.map intA).length = k.N.length := List.length_map _
 have hNk : List.take k.N.length (k.N.map intA) = k.N.map intA := take_map_len
 have hrd := rd_items L
 have hbb : (ok != ok) = false := by cases ok <;> rfl
 have hT2 : ((mkIts 1 L).map itemO).length = L.length := by rw [List.length_map, mkIts_length]
 have htk2 : List.take L.length ((mkIts 1 L).map itemO) = (mkIts 1 L).map itemO := List.take_of_length_le (by rw [hT2]; exact Nat.le_refl _)
 rw [keyA] at ce
 rw [keyO] at cs ci
 simp +decide (maxSteps := 9^7) only [↓reduceIte, hT, htk, go_sem]
 refine Runs.call ct ?_
 simp +decide (maxSteps := 9^7) only [↓reduceIte, hT, htk, go_sem]
 refine Runs.call cs ?_
 simp +decide (maxSteps := 9^7) only [↓reduceIte, hT, htk, hN, hNk, go_sem]
 refine Runs.call ct ?_
 simp +decide (maxSteps := 9^7) only [↓reduceIte, hT, htk, hN, hNk, go_sem]
 refine Runs.call ci ?_
 simp +decide (maxSteps := 9^7) only [↓reduceIte, hT, htk, hN, hNk, go_sem]
 refine Runs.call ce ?_
 simp +decide (maxSteps := 9^7) only [↓reduceIte, hT, htk, hN, hNk, hbb, go_sem]
 refine Runs.call ct ?_
 simp +decide (maxSteps := 9^7) only [↓reduceIte, hT, htk, hN, hNk, go_sem]
 refine Runs.call hq ?_
 simp +decide (maxSteps := 9^7) only [↓reduceIte, hT, htk, hN, hNk, hrd, go_sem]
 refine Runs.call hm1 ?_
 simp +decide (maxSteps := 9^7) only [↓reduceIte, hT2, htk2, hN, hNk, hd2, go_sem]
 refine Runs.call ce ?_
 simp +decide (maxSteps := 9^7) only [↓reduceIte, hT2, htk2, hN, hNk, hbb, go_sem]
 refine Runs.call hm0 ?_
 simp +decide (maxSteps := 9^7) only [↓reduceIte, hT2, htk2, List.length_range, mkI_plK, tk_mkK, go_sem]
 refine Runs.call hh0 ?_
 simp +decide (maxSteps := 9^7) only [↓reduceIte, hT2, htk2, hd, List.length_range, mkI_plK, tk_mkK, go_sem]
 refine Runs.call ct ?_
 simp +decide (maxSteps := 9^7) only [↓reduceIte, hT, htk, hT2, htk2, List.length_range, mkI_plK, tk_mkK, go_sem]
 refine Runs.call ci ?_
 simp +decide (maxSteps := 9^7) only [↓reduceIte, hT, htk, hT2, htk2, hN, hNk, List.length_range, mkI_plK, tk_mkK, go_sem]
 refine Runs.call ce ?_
 simp +decide (maxSteps := 9^7) only [↓reduceIte, hT2, htk2, hN, hNk, hbb, List.length_range, mkI_plK, tk_mkK, go_sem]
 refine Runs.call hh0 ?_
 simp +decide (maxSteps := 9^7) only [↓reduceIte, hd, go_sem]
 exact Runs.ret_v
end Go.Proofs.W
