import Derived.Test.YtnbhfmhlpncjmaaWalk1
set_option linter.unusedVariables false
set_option linter.unusedSimpArgs false
namespace Go.Proofs.W
open Go Go.AM
set_option linter.unusedSimpArgs false
set_option linter.unusedVariables false
variable (hm : Try.prog.follows .mixedOrders = true)
attribute [local go_sem] crlA

theorem itemsN_int (n : Int) : itemsN (intN n) = [intI n] := by simp [intN, itemsN_mk, itemsNL, intI]
theorem itemsN_txt (t : Int) (s : ByteArray) : itemsN (txtN t s) = [txtI t s] := by simp [txtN, itemsN_mk, itemsNL, txtI]
theorem itemsN_time (t : Int) : itemsN (timeN t) = [timeI t] := by
  unfold timeN timeI timeG timeB
  split <;> simp [itemsN_mk, itemsNL]
theorem itemsNL_map {α : Type} (f : α → Nd) (g : α → It) (h : ∀ a, itemsN (f a) = [g a]) (L : List α) : itemsNL (L.map f) = L.map g := by
  induction L with
  | nil => rfl
  | cons a l ih => simp [itemsNL, h, ih]
def crlKs (I : List ByteArray) (f t a : Int) (S : List Int) : List Nd := [intN a, .mk 48 [] (I.map (txtN 12)), .mk 48 [] [timeN f, timeN t], .mk 48 [] (S.map intN)]
theorem items_crl (I : List ByteArray) (f t a : Int) (S : List Int) : itemsN (.mk 48 [] (crlKs I f t a S)) = tree13 I f t a S := by
  simp only [crlKs, itemsN_mk, itemsNL, itemsN_int, itemsN_time, itemsNL_map _ _ (itemsN_txt 12), itemsNL_map _ _ itemsN_int, tree13, tail13, List.length_map, List.length_cons, List.length_nil, List.append_nil, List.cons_append, List.nil_append]
  rfl
theorem intB_le (n : Int) : (intB n).length ≤ 8 := by
  rw [intB, tailB_length]
  have := firstK_le n 7 0
  show firstK n 7 0 + 1 ≤ 8
  omega
theorem bodiesLeL_map {α : Type} {m : Nat} (f : α → Nd) : ∀ (L : List α) (_ : ∀ a ∈ L, bodiesLe m (f a)), bodiesLeL m (L.map f)
  | [], _ => trivial
  | a :: L, h => ⟨h a (by simp), bodiesLeL_map f L fun b hb => h b (by simp [hb])⟩
theorem kidsLeL_map {α : Type} {m : Nat} (f : α → Nd) : ∀ (L : List α) (_ : ∀ a ∈ L, kidsLe m (f a)), kidsLeL m (L.map f)
  | [], _ => trivial
  | a :: L, h => ⟨h a (by simp), kidsLeL_map f L fun b hb => h b (by simp [hb])⟩
theorem timeB_le (t : Int) : (timeB t).length ≤ 100 := by
  have s1 := shortT_size t
  have s2 := longT_size t
  unfold timeB
  split <;> simpa [bytesI] using by assumption
theorem crl_bodies (I : List ByteArray) (f t a : Int) (S : List Int) (h2 : ∀ s ∈ I, s.size ≤ 1073741824) : bodiesLe 1073741824 (.mk 48 [] (crlKs I f t a S)) := by
  have i1 : ∀ n, bodiesLe 1073741824 (intN n) := fun n => ⟨by have := intB_le n; omega, trivial⟩
  have t1 : ∀ n, bodiesLe 1073741824 (timeN n) := fun n => ⟨by have := timeB_le n; omega, trivial⟩
  exact ⟨by simp, i1 a, ⟨by simp, bodiesLeL_map _ _ fun s hs => ⟨by have := h2 s hs; simpa [bytesI] using this, trivial⟩⟩, ⟨by simp, t1 f, t1 t, trivial⟩, ⟨by simp, bodiesLeL_map _ _ fun n _ => i1 n⟩, trivial⟩
theorem crl_kids (I : List ByteArray) (f t a : Int) (S : List Int) (h1 : I.length ≤ 1000) (h3 : S.length ≤ 1000) : kidsLe 1000000 (.mk 48 [] (crlKs I f t a S)) := by
  have i1 : ∀ n, kidsLe 1000000 (intN n) := fun n => ⟨by simp, trivial⟩
  have t1 : ∀ n, kidsLe 1000000 (timeN n) := fun n => ⟨by simp, trivial⟩
  exact ⟨by simp [crlKs], i1 a, ⟨by simp; omega, kidsLeL_map _ _ fun s hs => ⟨by simp, trivial⟩⟩, ⟨by simp, t1 f, t1 t, trivial⟩, ⟨by simp; omega, kidsLeL_map _ _ fun n _ => i1 n⟩, trivial⟩
theorem tree13_len (I : List ByteArray) (f t a : Int) (S : List Int) : (tree13 I f t a S).length = I.length + S.length + 7 := by
  simp [tree13, tail13]; omega
theorem tree13_body (I : List ByteArray) (f t a : Int) (S : List Int) (h2 : ∀ s ∈ I, s.size ≤ 1073741824) : ∀ x ∈ tree13 I f t a S, x.body.length ≤ 1073741824 := by
  have hi : ∀ n, (intI n).body.length ≤ 1073741824 := fun n => by have := intB_le n; show (intB n).length ≤ _; omega
  have ht : ∀ n, (timeI n).body.length ≤ 1073741824 := fun n => by
    have := timeB_le n
    have e : (timeI n).body = timeB n := by unfold timeI timeB; split <;> rfl
    rw [e]; omega
  intro x hx
  simp only [tree13, tail13, List.mem_cons, List.mem_append, List.mem_map] at hx
  rcases hx with rfl | rfl | rfl | ⟨s, hs, rfl⟩ | rfl | rfl | rfl | rfl | ⟨n, hn, rfl⟩
  · simp
  · exact hi a
  · simp
  · have := h2 s hs; simpa [txtI, bytesI] using this
  · simp
  · exact ht f
  · exact ht t
  · simp
  · exact hi n
def tbsOk (I : List ByteArray) (f t a : Int) (S G : List Int) : Bool := crlOk I f t a S G && derOk (tree13 I f t a S)
def tbsB (I : List ByteArray) (f t a : Int) (S G : List Int) : List Int := if crlOk I f t a S G = true then derB (tree13 I f t a S) else []
def tbsA (I : List ByteArray) (f t a : Int) (S G : List Int) : A := .tup [.sl (.ow 1) ((tbsB I f t a S G).map u8A), .v (.bool (tbsOk I f t a S G))]
theorem crl_len {I : List ByteArray} {f t a : Int} {S G : List Int} (h : crlOk I f t a S G = true) : I.length ≤ 4 ∧ S.length ≤ 20 ∧ 1 ≤ a ∧ a ≤ 4 ∧ (∀ n ∈ S, 1 ≤ n ∧ n ≤ 1000000000000000) ∧ ∀ s ∈ I, s.size ≤ 1073741824 := by
  simp [crlOk, nameOk, inB] at h
  obtain ⟨⟨⟨⟨⟨⟨⟨⟨h0, h1⟩, _⟩, _⟩, _⟩, h2⟩, h3⟩, ⟨_, h4⟩⟩, _⟩ := h
  exact ⟨by omega, by omega, by omega, by omega, h4, fun s hs => by
    have := h0 s hs
    simp [textOk, inB] at this
    omega⟩
end Go.Proofs.W

namespace Go.Proofs.W
open Go Go.AM
set_option linter.unusedSimpArgs false
set_option linter.unusedVariables false
variable (hm : Try.prog.follows .mixedOrders = true)
attribute [local go_sem] crlA

def sigI (G : List Int) : It := ⟨3, 0 :: G, 0⟩
def sigN (G : List Int) : Nd := .mk 3 (0 :: G) []
/-- The items of a list of what is void. -/
def treeW (I : List ByteArray) (f t a : Int) (S G : List Int) : List It := ⟨48, [], 2⟩ :: (tree13 I f t a S ++ [sigI G])
def crlW (I : List ByteArray) (f t a : Int) (S G : List Int) : List Nd := [.mk 48 [] (crlKs I f t a S), sigN G]
theorem items_W (I : List ByteArray) (f t a : Int) (S G : List Int) : itemsN (.mk 48 [] (crlW I f t a S G)) = treeW I f t a S G := by
  rw [crlW, itemsN_mk]
  rw [itemsNL, items_crl]
  simp only [itemsNL, sigN, itemsN_mk, treeW, sigI, List.length_cons, List.length_nil, List.append_nil]
  rfl
theorem treeW_len (I : List ByteArray) (f t a : Int) (S G : List Int) : (treeW I f t a S G).length = I.length + S.length + 9 := by
  simp [treeW, tree13_len]
theorem treeW_body (I : List ByteArray) (f t a : Int) (S G : List Int) (h2 : ∀ s ∈ I, s.size ≤ 1073741824) (h3 : G.length ≤ 1073741823) : ∀ x ∈ treeW I f t a S G, x.body.length ≤ 1073741824 := by
  intro x hx
  simp only [treeW, List.mem_cons, List.mem_append, List.not_mem_nil, or_false] at hx
  rcases hx with rfl | hx | rfl
  · simp
  · exact tree13_body I f t a S h2 x hx
  · simp [sigI]; omega
theorem wW_bodies (I : List ByteArray) (f t a : Int) (S G : List Int) (h2 : ∀ s ∈ I, s.size ≤ 1073741824) (h3 : G.length ≤ 1073741823) : bodiesLe 1073741824 (.mk 48 [] (crlW I f t a S G)) :=
  ⟨by simp, crl_bodies I f t a S h2, ⟨by simp; omega, trivial⟩, trivial⟩
theorem wW_kids (I : List ByteArray) (f t a : Int) (S G : List Int) (h1 : I.length ≤ 1000) (h3 : S.length ≤ 1000) : kidsLe 1000000 (.mk 48 [] (crlW I f t a S G)) :=
  ⟨by simp [crlW], crl_kids I f t a S h1 h3, ⟨by simp, trivial⟩, trivial⟩
def wOk (I : List ByteArray) (f t a : Int) (S G : List Int) : Bool := crlOk I f t a S G && derOk (treeW I f t a S G)
def wB (I : List ByteArray) (f t a : Int) (S G : List Int) : List Int := if crlOk I f t a S G = true then derB (treeW I f t a S G) else []
def wA (I : List ByteArray) (f t a : Int) (S G : List Int) : A := .tup [.sl (.ow 1) ((wB I f t a S G).map u8A), .v (.bool (wOk I f t a S G))]
theorem crl_sig {I : List ByteArray} {f t a : Int} {S G : List Int} (h : crlOk I f t a S G = true) : G.length ≤ 64 := by
  simp [crlOk, nameOk, inB] at h
  omega
theorem wB_le (I : List ByteArray) (f t a : Int) (S G : List Int) : (wB I f t a S G).length ≤ 4000 := by
  unfold wB
  split
  · unfold derB
    split
    · rename_i h
      simp [derOk] at h
      omega
    · simp
  · simp
def sWs : Sched := .take 3 (.ld 0 (.ld 4 (.alt 1 (.alt 2 (.alt 5 (.alt 6 (.alt 7 (.alt 8 (.alt 9 (.take 10 (.take 11 (.take 12 (.take 13 .fin)))) .nil) .nil) .nil) .nil) .nil) .nil) (.alt 2 (.alt 1 (.alt 5 (.alt 6 (.alt 7 (.alt 8 (.alt 9 (.take 10 (.take 11 (.take 12 (.take 13 .fin)))) .nil) .nil) .nil) .nil) .nil) .nil) .nil))))
attribute [local go_sem] sWs
set_option maxRecDepth 10000 in
include hm in
theorem specWriteCrl (I : List ByteArray) (f t a : Int) (S G : List Int) (h1 : I.length ≤ 1048576) (h2 : ∀ s ∈ I, s.size ≤ 9223372036854775807) (h3 : S.length ≤ 1048576) :
    Holds Try.prog 5 [crlA I f t a S G] [] (wA I f t a S G) [] := by
  refine holds_ref (ann := []) tabOk hm (byL [] [20, 18, 1000001]) Try.func5 (by kernel_rfl) rfl ?_
  simp (decide := true) only [Try.f5, go_sem, Nat.reduceAdd, Nat.reduceMul, Nat.reduceSub]
  refine Runs.call (crlOkS hm I f t a S G (by omega) h2 (by omega)) ?_
  simp (decide := true) only [go_sem, Nat.reduceAdd, Nat.reduceMul, Nat.reduceSub]
  refine Runs.split (fun h => ?_) (fun h => ?_)
  · have h' : crlOk I f t a S G = false := by simpa using h
    simp (decide := true) only [go_sem, Nat.reduceAdd, Nat.reduceMul, Nat.reduceSub]
    exact Runs.ret_eq (by simp [wA, wB, wOk, h'])
  · have h' : crlOk I f t a S G = true := by simpa using h
    obtain ⟨l1, l2, l3, l4, l5, l6⟩ := crl_len h'
    have l7 := crl_sig h'
    have hlen := tree13_len I f t a S
    have hT := l13Tree hm I f t a S G (by omega) l6 (by omega) (fun n hn => by have := l5 n hn; omega) (by omega)
    have hM := l10Made hm 48 2 (tree13 I f t a S ++ [sigI G]) (by simp; omega)
    have hI := l10Item hm 3 (0 :: G)
    have hD := specWriteDer hm (treeW I f t a S G) (by rw [treeW_len]; omega)
    simp only [List.map_append, List.map_cons, List.map_nil] at hM hI
    simp only [treeW, List.map_append, List.map_cons, List.map_nil] at hD
    simp only [sigI] at hM hD
    simp only [u8A] at hI
    have eB : wA I f t a S G = derA (treeW I f t a S G) := by simp [wA, wB, wOk, h', derA]
    rw [eB]
    simp only [treeW, sigI, derA] at hD ⊢
    generalize tree13 I f t a S = T at *
    generalize derB _ = B at hD ⊢
    generalize derOk _ = ok at hD ⊢
    simp (decide := true) only [go_sem, Nat.reduceAdd, Nat.reduceMul, Nat.reduceSub]
    refine Runs.draw (st1 := ?s1) (draws_ref (ann := []) tabOk (byL [] [20, 18, 1000001]) sWs (by kernel_rfl) ?p1) ?q1
    case p1 =>
      intro K r X hK
      simp (decide := true) only [go_sem, Nat.reduceAdd, Nat.reduceMul, Nat.reduceSub]
      repeat' apply And.intro
      all_goals
        refine Runs.call hT ?_
        simp (decide := true) (disch := first | omega | (simp only [List.length_map, List.length_cons, List.length_append, List.length_nil]; omega)) only [if_pos, go_sem, Nat.reduceAdd, Nat.reduceMul, Nat.reduceSub]
        refine Runs.call hI ?_
        simp (decide := true) (disch := first | omega | (simp only [List.length_map, List.length_cons, List.length_append, List.length_nil]; omega)) only [List.length_append, mdL_append, dnL_append, freeL_app, mdL, dnL, freeL, if_pos, go_sem, Nat.reduceAdd, Nat.reduceMul, Nat.reduceSub]
        refine Runs.call hM ?_

        simp (decide := true) (disch := first | omega | (simp only [List.length_map, List.length_cons, List.length_append, List.length_nil]; omega)) only [List.length_append, mdL_append, dnL_append, freeL_app, mdL, dnL, freeL, if_pos, go_sem, Nat.reduceAdd, Nat.reduceMul, Nat.reduceSub]
        refine Runs.call hD ?_
        simp (decide := true) (disch := first | omega | (simp only [List.length_map, List.length_cons, List.length_append, List.length_nil]; omega)) only [if_pos, go_sem, Nat.reduceAdd, Nat.reduceMul, Nat.reduceSub]
        exact hK
    case q1 =>
      simp (decide := true) (disch := first | omega | (simp only [List.length_map, List.length_cons, List.length_append, List.length_nil]; omega)) only [if_pos, go_sem, Nat.reduceAdd, Nat.reduceMul, Nat.reduceSub]
      exact Runs.ret_refl
set_option maxRecDepth 10000 in
include hm in
theorem bitsOf (B : List Int) (h : B.length ≤ 1073741823) : Holds Try.prog 28 [.sl .sh (B.map u8A)] [] (nodeO (.mk 3 (0 :: B) [])) [] := by
  refine holds_ref (ann := []) tabOk hm (byL [] [55]) Try.func28 (by kernel_rfl) rfl ?_
  simp (decide := true) (disch := first | omega | (simp only [List.length_map, List.length_cons, List.length_append, List.length_nil]; omega)) only [Try.f28, if_pos, go_sem, Nat.reduceAdd, Nat.reduceMul, Nat.reduceSub]
  refine Runs.call' (as' := [.v (.int .i64 3), .sl (.ow 1) ((0 :: B).map u8A)]) (by simp [u8A]) (leaf hm 3 (0 :: B)) ?_
  simp (decide := true) only [nodeO, nodesO, go_sem, Nat.reduceAdd, Nat.reduceMul, Nat.reduceSub]
  exact Runs.ret_refl
def iWs : Sched := .take 2 (.ld 0 (.ld 3 (.alt 1 (.alt 4 (.alt 5 (.alt 6 (.alt 7 (.alt 8 (.take 9 (.take 10 (.take 11 (.take 12 .fin)))) .nil) .nil) .nil) .nil) .nil) .nil)))
attribute [local go_sem] iWs
set_option maxRecDepth 10000 in
include hm in
theorem implWriteCrl (I : List ByteArray) (f t a : Int) (S G : List Int) (h1 : I.length ≤ 1048576) (h2 : ∀ s ∈ I, s.size ≤ 9223372036854775807) (h3 : S.length ≤ 1048576) :
    Holds Try.prog 7 [crlA I f t a S G] [] (wA I f t a S G) [] := by
  refine holds_ref (ann := []) tabOk hm (byL [] [26, 1000001]) Try.func7 (by kernel_rfl) rfl ?_
  simp (decide := true) only [Try.f7, go_sem, Nat.reduceAdd, Nat.reduceMul, Nat.reduceSub]
  refine Runs.call (crlOkI hm I f t a S G (by omega) h2 (by omega)) ?_
  simp (decide := true) only [go_sem, Nat.reduceAdd, Nat.reduceMul, Nat.reduceSub]
  refine Runs.split (fun h => ?_) (fun h => ?_)
  · have h' : crlOk I f t a S G = false := by simpa using h
    simp (decide := true) only [go_sem, Nat.reduceAdd, Nat.reduceMul, Nat.reduceSub]
    refine Runs.ret ?_ rfl
    simp only [wA, wB, wOk, h']
    exact .tup (.nils _ (.same _ .nil)) .nil
  · have h' : crlOk I f t a S G = true := by simpa using h
    obtain ⟨l1, l2, l3, l4, l5, l6⟩ := crl_len h'
    have l7 := crl_sig h'
    have eB : wA I f t a S G = derA (treeW I f t a S G) := by simp [wA, wB, wOk, h', derA]
    have hc := crlNode hm I f t a S G (by omega) l6 (by omega) (fun n hn => by have := l5 n hn; omega) (by omega)
    have hb := bitsOf hm G (by omega)
    have hi := items hm _ (.mk 48 [] (crlW I f t a S G)) (Nat.le_refl _) (by rw [items_W, treeW_len]; omega) (wW_bodies I f t a S G l6 (by omega)) (wW_kids I f t a S G (by omega) (by omega))
    have hd := implWriteDer hm (treeW I f t a S G) (by rw [treeW_len]; omega) (treeW_body I f t a S G l6 (by omega))
    have hl := listN hm 48 (crlW I f t a S G)
    rw [eB]
    rw [items_W] at hi
    rw [derA] at hd ⊢
    generalize treeW I f t a S G = T at *
    rw [show crlN I f t a S = .mk 48 [] (crlKs I f t a S) from rfl] at hc
    rw [crlW] at hi hl
    generalize crlKs I f t a S = ks at hc hi hl
    simp only [nodeO, nodesO, sigN, List.map_nil, List.map_cons, u8A] at hc hb hl
    rw [nodeS] at hi
    have hk : List.take ks.length (nodesO ks) = nodesO ks := List.take_of_length_le (by simp [nodesO_length])
    generalize derB _ = B at hd ⊢
    generalize derOk _ = ok at hd ⊢
    simp (decide := true) only [go_sem, Nat.reduceAdd, Nat.reduceMul, Nat.reduceSub]
    refine Runs.draw (st1 := ?s1) (draws_ref (ann := []) tabOk (byL [] [26, 1000001]) iWs (by kernel_rfl) ?p1) ?q1
    case p1 =>
      intro K r X hK
      simp (decide := true) only [go_sem, Nat.reduceAdd, Nat.reduceMul, Nat.reduceSub]
      repeat' apply And.intro
      all_goals
        refine Runs.call hc ?_
        simp (decide := true) (disch := first | omega | (simp only [List.length_map, List.length_cons, List.length_append, List.length_nil]; omega)) only [if_pos, go_sem, Nat.reduceAdd, Nat.reduceMul, Nat.reduceSub]
        refine Runs.call hb ?_
        simp (decide := true) (disch := first | omega | (simp only [List.length_map, List.length_cons, List.length_append, List.length_nil]; omega)) only [hk, if_pos, go_sem, Nat.reduceAdd, Nat.reduceMul, Nat.reduceSub]
        refine Runs.call hl ?_
        simp (decide := true) (disch := first | omega | (simp only [List.length_map, List.length_cons, List.length_append, List.length_nil]; omega)) only [if_pos, go_sem, Nat.reduceAdd, Nat.reduceMul, Nat.reduceSub]
        refine Runs.call hi ?_
        simp (decide := true) (disch := first | omega | (simp only [List.length_map, List.length_cons, List.length_append, List.length_nil]; omega)) only [if_pos, go_sem, Nat.reduceAdd, Nat.reduceMul, Nat.reduceSub]
        refine Runs.call hd ?_
        simp (decide := true) (disch := first | omega | (simp only [List.length_map, List.length_cons, List.length_append, List.length_nil]; omega)) only [if_pos, go_sem, Nat.reduceAdd, Nat.reduceMul, Nat.reduceSub]
        exact hK
    case q1 =>
      simp (decide := true) (disch := first | omega | (simp only [List.length_map, List.length_cons, List.length_append, List.length_nil]; omega)) only [if_pos, go_sem, Nat.reduceAdd, Nat.reduceMul, Nat.reduceSub]
      exact Runs.ret_refl
end Go.Proofs.W

namespace Go.Proofs.W
open Go Go.AM
set_option linter.unusedSimpArgs false
set_option linter.unusedVariables false
variable (hm : Try.prog.follows .mixedOrders = true)

/-- A row that is marked up to a place. -/
def mkFill (v : Nat → A) (es : List A) (i : Nat) : List A := (List.range i).map v ++ es.drop i
theorem mkFill_length (v : Nat → A) (es : List A) (i : Nat) (h : i ≤ es.length) : (mkFill v es i).length = es.length := by simp [mkFill]; omega
theorem mkFill_zero (v : Nat → A) (es : List A) : mkFill v es 0 = es := by simp [mkFill]
theorem mkFill_all (v : Nat → A) (es : List A) {n : Nat} (h : es.length = n) : mkFill v es n = (List.range n).map v := by subst h; simp [mkFill]
theorem mkFill_get (v : Nat → A) (es : List A) (i : Nat) (h : i < es.length) : (mkFill v es i).getD i .any = es[i] := by
  unfold mkFill
  rw [List.getD, List.getElem?_append_right (by simp)]
  simp [h]
theorem mkFill_set (v : Nat → A) (es : List A) (i : Nat) (h : i < es.length) : (mkFill v es i).set i (v i) = mkFill v es (i + 1) := by
  unfold mkFill
  rw [List.set_append_right _ _ (by simp), List.length_map, List.length_range, Nat.sub_self, List.drop_eq_getElem_cons h, List.set_cons_zero, List.range_succ, List.map_append, List.append_assoc]
  rfl
def mkAnn : Ann := [(0, [0, 1, 5])]
def mkInt (k : Int) (i : Nat) : A := intA (k + i)
def mkByte (k : Int) (i : Nat) : A := u8A (IntKind.u8.wrap (k + i))
attribute [local go_sem] mkInt mkByte

/-- What a marked text is. -/
def markGo : Nat → Nat → ByteArray → ByteArray
  | 0, _, out => out
  | f + 1, n, out => if n = 0 then out else markGo f (n / 10) (⟨#[UInt8.ofNat (48 + n % 10)]⟩ ++ out)
def markT (k : Int) : ByteArray := if k ≤ 0 then ⟨#[109, 48]⟩ else ⟨#[109]⟩ ++ markGo (k.toNat + 1) k.toNat ⟨#[]⟩
def mkStr (k : Int) (i : Nat) : A := strA (markT (k + i))
attribute [local go_sem] mkStr
def markIntSt (L : List Int) (k : Int) (i : Nat) : St := ⟨[.ms (.x 0) 0 L.length L.length, .v (.int .i64 (k + i)), .any, .any, .any, .v (.int .i64 i), .any, .any, .any, .any, .any, .any, .any, .any, .any, .any, .any, .any, .any], [], [⟨true, 1, false, mkFill (mkInt k) (L.map intA) i⟩]⟩
set_option maxRecDepth 10000 in
include hm in
theorem markIntS (L : List Int) (k : Int) (h1 : 0 ≤ k) (h2 : k + L.length ≤ 4611686018427387904) :
    Holds Try.prog 33 [.ms (.x 0) 0 L.length L.length, .v (.int .i64 k)] [⟨true, 1, false, L.map intA⟩] (.v (.int .i64 (k + L.length))) [⟨true, 1, false, (List.range L.length).map (mkInt k)⟩] := by
  refine holds_of (ann := mkAnn) tabOk hm Try.func33 (by kernel_rfl) rfl ?_
  simp (decide := true) only [Try.f33, go_sem, Nat.reduceAdd, Nat.reduceMul, Nat.reduceSub]
  refine Runs.while (α := Nat) (markIntSt L k) (fun i => L.length - i) (fun i => i ≤ L.length) 0 (by omega) ?_ ?_
  · simp [go_sem, mkAnn, markIntSt, mkFill_zero]
  · intro i hi ih
    have hlen := mkFill_length (mkInt k) (L.map intA) i (by simpa using hi)
    rw [List.length_map] at hlen
    simp (decide := true) only [markIntSt, hlen, go_sem, Nat.reduceAdd, Nat.reduceMul, Nat.reduceSub]
    refine Runs.split (fun h => ?_) (fun h => ?_)
    · have hlt : i < L.length := by simpa using h
      have hg := mkFill_get (mkInt k) (L.map intA) i (by simpa using hlt)
      have hs := mkFill_set (mkInt k) (L.map intA) i (by simpa using hlt)
      simp only [List.getElem_map, intA] at hg
      simp only [mkInt, intA] at hs
      simp (decide := true) (disch := first | omega | (simp only [List.length_map, List.length_cons, List.length_append, List.length_nil]; omega)) only [hlen, hg, hs, if_pos, go_sem, Nat.reduceAdd, Nat.reduceMul, Nat.reduceSub]
      refine ih (i + 1) _ (by omega) (by omega) ?_
      simp [go_sem, mkAnn, markIntSt, Int.add_assoc]
    · have hge : i = L.length := by simp at h; omega
      subst hge
      simp (decide := true) only [hlen, mkFill_all _ _ (List.length_map _), go_sem, Nat.reduceAdd, Nat.reduceMul, Nat.reduceSub]
      exact Runs.ret_refl
def markByteSt (L : List Int) (k : Int) (i : Nat) : St := ⟨[.ms (.x 0) 0 L.length L.length, .v (.int .i64 (k + i)), .any, .any, .any, .v (.int .i64 i), .any, .any, .any, .any, .any, .any, .any, .any, .any, .any, .any, .any, .any, .any], [], [⟨true, 1, false, mkFill (mkByte k) (L.map u8A) i⟩]⟩
set_option maxRecDepth 10000 in
include hm in
theorem markByteS (L : List Int) (k : Int) (h1 : 0 ≤ k) (h2 : k + L.length ≤ 4611686018427387904) :
    Holds Try.prog 11 [.ms (.x 0) 0 L.length L.length, .v (.int .i64 k)] [⟨true, 1, false, L.map u8A⟩] (.v (.int .i64 (k + L.length))) [⟨true, 1, false, (List.range L.length).map (mkByte k)⟩] := by
  refine holds_of (ann := mkAnn) tabOk hm Try.func11 (by kernel_rfl) rfl ?_
  simp (decide := true) only [Try.f11, go_sem, Nat.reduceAdd, Nat.reduceMul, Nat.reduceSub]
  refine Runs.while (α := Nat) (markByteSt L k) (fun i => L.length - i) (fun i => i ≤ L.length) 0 (by omega) ?_ ?_
  · simp [go_sem, mkAnn, markByteSt, mkFill_zero]
  · intro i hi ih
    have hlen := mkFill_length (mkByte k) (L.map u8A) i (by simpa using hi)
    rw [List.length_map] at hlen
    simp (decide := true) only [markByteSt, hlen, go_sem, Nat.reduceAdd, Nat.reduceMul, Nat.reduceSub]
    refine Runs.split (fun h => ?_) (fun h => ?_)
    · have hlt : i < L.length := by simpa using h
      have hg := mkFill_get (mkByte k) (L.map u8A) i (by simpa using hlt)
      have hs := mkFill_set (mkByte k) (L.map u8A) i (by simpa using hlt)
      simp only [List.getElem_map, u8A] at hg
      simp only [mkByte, u8A] at hs
      simp (decide := true) (disch := first | omega | (simp only [List.length_map, List.length_cons, List.length_append, List.length_nil]; omega)) only [hlen, hg, hs, if_pos, go_sem, Nat.reduceAdd, Nat.reduceMul, Nat.reduceSub]
      refine ih (i + 1) _ (by omega) (by omega) ?_
      simp [go_sem, mkAnn, markByteSt, Int.add_assoc]
    · have hge : i = L.length := by simp at h; omega
      subst hge
      simp (decide := true) only [hlen, mkFill_all _ _ (List.length_map _), go_sem, Nat.reduceAdd, Nat.reduceMul, Nat.reduceSub]
      exact Runs.ret_refl
def heldByteSt (n : Nat) (k : Int) (i : Nat) : St := ⟨[.sl .sh ((List.range n).map (mkByte k)), .v (.int .i64 (k + i)), .any, .any, .any, .v (.int .i64 i), .any, .any, .any, .any, .any, .any, .any, .any, .any, .any, .any, .any, .any, .any, .any, .any], [], []⟩
set_option maxRecDepth 10000 in
include hm in
theorem heldByteS (n : Nat) (k : Int) (h1 : 0 ≤ k) (h2 : k + n ≤ 4611686018427387904) :
    Holds Try.prog 12 [.sl .sh ((List.range n).map (mkByte k)), .v (.int .i64 k)] [] (.v (.int .i64 (k + n))) [] := by
  refine holds_of (ann := mkAnn) tabOk hm Try.func12 (by kernel_rfl) rfl ?_
  simp (decide := true) only [Try.f12, go_sem, Nat.reduceAdd, Nat.reduceMul, Nat.reduceSub]
  refine Runs.while (α := Nat) (heldByteSt n k) (fun i => n - i) (fun i => i ≤ n) 0 (by omega) ?_ ?_
  · simp [go_sem, mkAnn, heldByteSt]
  · intro i hi ih
    simp (decide := true) only [heldByteSt, List.length_range, go_sem, Nat.reduceAdd, Nat.reduceMul, Nat.reduceSub]
    refine Runs.split (fun h => ?_) (fun h => ?_)
    · have hlt : i < n := by simpa using h
      have hg : ((List.range n).map (mkByte k)).getD i .any = mkByte k i := by simp [List.getD, hlt]
      simp (decide := true) (disch := first | omega | (simp only [List.length_map, List.length_cons, List.length_append, List.length_nil]; omega)) only [hg, List.length_range, if_pos, go_sem, Nat.reduceAdd, Nat.reduceMul, Nat.reduceSub]
      refine ih (i + 1) _ (by omega) (by omega) ?_
      simp [go_sem, mkAnn, heldByteSt, Int.add_assoc]
    · have hge : i = n := by simp at h; omega
      subst hge
      simp (decide := true) only [go_sem, Nat.reduceAdd, Nat.reduceMul, Nat.reduceSub]
      exact Runs.ret_refl
def markTxAnn : Ann := [(0, [0, 3])]
def markTxSt (p : Nat × ByteArray) : St := ⟨[.v (.int .i64 p.1), .any, .any, .v (.string p.2), .any, .any, .any, .any, .any, .any, .any, .any, .any, .any, .any, .any, .any, .any, .any, .any], [], []⟩
theorem markGo_fuel : ∀ (f g n : Nat) (out : ByteArray), n < f → n < g → markGo f n out = markGo g n out
  | f + 1, g + 1, n, out, h1, h2 => by
    simp only [markGo]
    split
    · rfl
    · rename_i hn
      exact markGo_fuel f g (n / 10) _ (by omega) (by omega)
theorem markGo_size {n s n0 : Nat} (h : n * 10 ^ s ≤ n0) (hn : 0 < n) (h0 : n0 ≤ 4611686018427387904) : s ≤ 30 := by
  rcases Nat.lt_or_ge 30 s with h1 | h1
  · have h2 : 10 ^ 31 ≤ 10 ^ s := Nat.pow_le_pow_right (by omega) h1
    have h3 : 1 * 10 ^ s ≤ n * 10 ^ s := Nat.mul_le_mul_right _ hn
    have h4 : (10 : Nat) ^ 31 = 10000000000000000000000000000000 := rfl
    omega
  · exact h1
set_option maxRecDepth 10000 in
include hm in
theorem markText (k : Int) (h1 : 0 ≤ k) (h2 : k ≤ 4611686018427387904) : Holds Try.prog 57 [.v (.int .i64 k)] [] (.v (.string (markT k))) [] := by
  refine holds_of (ann := markTxAnn) tabOk hm Try.func57 (by kernel_rfl) rfl ?_
  simp (decide := true) only [Try.f57, go_sem, Nat.reduceAdd, Nat.reduceMul, Nat.reduceSub]
  refine Runs.split (fun h => ?_) (fun h => ?_)
  · simp only [decide_eq_true_eq] at h
    simp (decide := true) only [markT, if_pos h, go_sem, Nat.reduceAdd, Nat.reduceMul, Nat.reduceSub]
    exact Runs.ret_v
  · simp only [decide_eq_false_iff_not] at h
    simp (decide := true) only [go_sem, Nat.reduceAdd, Nat.reduceMul, Nat.reduceSub]
    obtain ⟨n0, rfl⟩ : ∃ n0 : Nat, k = n0 := ⟨k.toNat, by omega⟩
    refine Runs.while (α := Nat × ByteArray) markTxSt (fun p => p.1) (fun p => p.1 ≤ n0 ∧ p.1 * 10 ^ p.2.size ≤ n0 ∧ p.2.size ≤ 31 ∧ markGo (p.1 + 1) p.1 p.2 = markGo (n0 + 1) n0 ⟨#[]⟩) (n0, ⟨#[]⟩) ⟨by simp, Nat.le_of_eq (by show n0 * 10 ^ 0 = n0; omega), by show 0 ≤ 31; omega, rfl⟩ ?_ ?_
    · simp [go_sem, markTxAnn, markTxSt]
    · rintro ⟨n, out⟩ ⟨hn, hp, hs, hr⟩ ih
      simp only at hn hp hs hr
      simp (decide := true) only [markTxSt, go_sem, Nat.reduceAdd, Nat.reduceMul, Nat.reduceSub]
      refine Runs.split (fun h => ?_) (fun h => ?_)
      · have hn0 : 0 < n := by simp at h; omega
        have hs' := markGo_size hp hn0 (by omega)
        have ht : (n : Int).tmod 10 = ((n % 10 : Nat) : Int) := by rw [Int.tmod_eq_emod_of_nonneg (by omega)]; omega
        have hq : (n : Int).tdiv 10 = ((n / 10 : Nat) : Int) := by rw [Int.tdiv_eq_ediv_of_nonneg (by omega)]; omega
        have hw : IntKind.i64.wrap (48 + ((n % 10 : Nat) : Int)) = ((48 + n % 10 : Nat) : Int) := by rw [wrap_i64 (by omega) (by omega)]; omega
        have hw2 : IntKind.u8.wrap ((48 + n % 10 : Nat) : Int) = ((48 + n % 10 : Nat) : Int) := wrap_u8 (by omega) (by omega)
        have hw3 : IntKind.i64.wrap ((n / 10 : Nat) : Int) = ((n / 10 : Nat) : Int) := wrap_i64 (by omega) (by omega)
        have hb : (0 ≤ ((48 + n % 10 : Nat) : Int) ∧ ((48 + n % 10 : Nat) : Int) < 256) := by omega
        simp (decide := true) only [ht, hq, hw, hw2, hw3, hb, go_sem, Nat.reduceAdd, Nat.reduceMul, Nat.reduceSub]
        refine Runs.chk (by simp; show 1 + out.size ≤ _; omega) ?_
        simp (decide := true) only [go_sem, Nat.reduceAdd, Nat.reduceMul, Nat.reduceSub]
        refine ih (n / 10, ⟨#[UInt8.ofNat (48 + n % 10)]⟩ ++ out) _ (by simp only; omega) ⟨by simp only; omega, ?_, ?_, ?_⟩ ?_
        · simp only
          rw [ByteArray.size_append]
          show n / 10 * 10 ^ (1 + out.size) ≤ n0
          rw [Nat.pow_add, ← Nat.mul_assoc]
          exact Nat.le_trans (Nat.mul_le_mul_right _ (by omega)) hp
        · simp only
          rw [ByteArray.size_append]
          show 1 + out.size ≤ 31
          omega
        · simp only
          rw [← hr]
          conv => rhs; unfold markGo
          rw [if_neg (by omega)]
          exact markGo_fuel _ _ _ _ (by omega) (by omega)
        · simp [go_sem, markTxAnn, markTxSt]
      · have hn0 : n = 0 := by simp at h; omega
        subst hn0
        simp only [markGo, if_true] at hr
        simp (decide := true) only [go_sem, Nat.reduceAdd, Nat.reduceMul, Nat.reduceSub]
        refine Runs.chk (by simp; show 1 + out.size ≤ _; omega) ?_
        refine Runs.ret_eq ?_
        rw [markT, if_neg ‹¬ ((n0 : Int) ≤ 0)›, hr]
        rfl
def markStringSt (L : List ByteArray) (k : Int) (i : Nat) : St := ⟨[.ms (.x 0) 0 L.length L.length, .v (.int .i64 (k + i)), .any, .any, .any, .v (.int .i64 i), .any, .any, .any, .any, .any, .any, .any, .any, .any, .any, .any, .any, .any, .any], [], [⟨true, 1, false, mkFill (mkStr k) (L.map strA) i⟩]⟩
set_option maxRecDepth 10000 in
include hm in
theorem markStringS (L : List ByteArray) (k : Int) (h1 : 0 ≤ k) (h2 : k + L.length ≤ 4611686018427387904) :
    Holds Try.prog 32 [.ms (.x 0) 0 L.length L.length, .v (.int .i64 k)] [⟨true, 1, false, L.map strA⟩] (.v (.int .i64 (k + L.length))) [⟨true, 1, false, (List.range L.length).map (mkStr k)⟩] := by
  refine holds_of (ann := mkAnn) tabOk hm Try.func32 (by kernel_rfl) rfl ?_
  simp (decide := true) only [Try.f32, go_sem, Nat.reduceAdd, Nat.reduceMul, Nat.reduceSub]
  refine Runs.while (α := Nat) (markStringSt L k) (fun i => L.length - i) (fun i => i ≤ L.length) 0 (by omega) ?_ ?_
  · simp [go_sem, mkAnn, markStringSt, mkFill_zero]
  · intro i hi ih
    have hlen := mkFill_length (mkStr k) (L.map strA) i (by simpa using hi)
    rw [List.length_map] at hlen
    simp (decide := true) only [markStringSt, hlen, go_sem, Nat.reduceAdd, Nat.reduceMul, Nat.reduceSub]
    refine Runs.split (fun h => ?_) (fun h => ?_)
    · have hlt : i < L.length := by simpa using h
      have hg := mkFill_get (mkStr k) (L.map strA) i (by simpa using hlt)
      have hs := mkFill_set (mkStr k) (L.map strA) i (by simpa using hlt)
      simp only [List.getElem_map, strA] at hg
      simp only [mkStr, strA] at hs
      simp (decide := true) (disch := first | omega | (simp only [List.length_map, List.length_cons, List.length_append, List.length_nil]; omega)) only [hlen, hg, if_pos, go_sem, Nat.reduceAdd, Nat.reduceMul, Nat.reduceSub]
      refine Runs.call (markText hm (k + i) (by omega) (by omega)) ?_
      simp (decide := true) (disch := first | omega | (simp only [List.length_map, List.length_cons, List.length_append, List.length_nil]; omega)) only [hlen, hg, hs, if_pos, go_sem, Nat.reduceAdd, Nat.reduceMul, Nat.reduceSub]
      refine ih (i + 1) _ (by omega) (by omega) ?_
      simp [go_sem, mkAnn, markStringSt, Int.add_assoc]
    · have hge : i = L.length := by simp at h; omega
      subst hge
      simp (decide := true) only [hlen, mkFill_all _ _ (List.length_map _), go_sem, Nat.reduceAdd, Nat.reduceMul, Nat.reduceSub]
      exact Runs.ret_refl
end Go.Proofs.W

namespace Go.Proofs.W
open Go Go.AM
set_option linter.unusedSimpArgs false
set_option linter.unusedVariables false
variable (hm : Try.prog.follows .mixedOrders = true)
attribute [local go_sem] crlA crlO

theorem mk_plain (k : Int) (n : Nat) : dnL ((List.range n).map (mkByte k)) = (List.range n).map (mkByte k) := by rw [dnL_map]; rfl
theorem tk_mk (k : Int) (n : Nat) : List.take n ((List.range n).map (mkByte k)) = (List.range n).map (mkByte k) := List.take_of_length_le (by simp)
set_option maxRecDepth 10000 in
include hm in
theorem markCrl (I : List ByteArray) (f t a : Int) (S G : List Int) (k : Int) (h1 : 0 ≤ k) (h2 : k + I.length + S.length + G.length ≤ 4611686018427387904) :
    Holds Try.prog 10 [.agg [.ms (.x 0) 0 I.length I.length, .v (.int .i64 f), .v (.int .i64 t), .v (.int .i64 a), .ms (.x 1) 0 S.length S.length, .ms (.x 2) 0 G.length G.length], .v (.int .i64 k)]
      [⟨true, 1, false, I.map strA⟩, ⟨true, 1, false, S.map intA⟩, ⟨true, 1, false, G.map u8A⟩] (.v (.int .i64 (k + I.length + S.length + G.length)))
      [⟨true, 1, false, (List.range I.length).map (mkStr k)⟩, ⟨true, 1, false, (List.range S.length).map (mkInt (k + I.length))⟩, ⟨true, 1, false, (List.range G.length).map (mkByte (k + I.length + S.length))⟩] := by
  refine holds_ref (ann := []) tabOk hm (byL [32, 33, 11] []) Try.func10 (by kernel_rfl) rfl ?_
  simp (decide := true) only [Try.f10, go_sem, Nat.reduceAdd, Nat.reduceMul, Nat.reduceSub]
  refine Runs.call (markStringS hm I k h1 (by omega)) ?_
  simp (decide := true) only [go_sem, Nat.reduceAdd, Nat.reduceMul, Nat.reduceSub]
  refine Runs.call (markIntS hm S (k + I.length) (by omega) (by omega)) ?_
  simp (decide := true) only [go_sem, Nat.reduceAdd, Nat.reduceMul, Nat.reduceSub]
  refine Runs.call (markByteS hm G (k + I.length + S.length) (by omega) (by omega)) ?_
  simp (decide := true) only [go_sem, Nat.reduceAdd, Nat.reduceMul, Nat.reduceSub]
  exact Runs.ret_refl
end Go.Proofs.W

namespace Go.Proofs.W
open Go Go.AM
set_option linter.unusedSimpArgs false
set_option linter.unusedVariables false
variable (hm : Try.prog.follows .mixedOrders = true)
attribute [local go_sem] crlA crlO

def sLW : Sched := .alt 0 (.alt 1 (.alt 2 (.alt 3 (.take 4 .fin) .nil) .nil) .nil) (.alt 1 (.alt 0 (.alt 2 (.alt 3 (.take 4 .fin) .nil) .nil) (.alt 2 (.alt 0 (.alt 3 (.take 4 .fin) .nil) .nil) .nil)) .nil)
attribute [local go_sem] sLW
set_option maxRecDepth 10000 in
set_option maxHeartbeats 2000000 in
include hm in
theorem lawWriteCrl (I : List ByteArray) (f t a : Int) (S G : List Int) (h1 : I.length ≤ 9223372036854775807) (h2 : ∀ s ∈ I, s.size ≤ 9223372036854775807) (h3 : S.length ≤ 9223372036854775807) (h4 : G.length ≤ 9223372036854775807) :
    Holds Try.prog 3 [crlA I f t a S G] [] (.v (.bool true)) [] := by
  refine holds_ref (ann := []) tabOk hm (byL [10, 11] []) Try.func3 (by kernel_rfl) rfl ?_
  simp (decide := true) only [Try.f3, go_sem, Nat.reduceAdd, Nat.reduceMul, Nat.reduceSub]
  refine Runs.call (szCrl hm I f t a S G 1048576 (by omega) (by omega) h1 h2 h3 h4) ?_
  simp (decide := true) only [go_sem, Nat.reduceAdd, Nat.reduceMul, Nat.reduceSub]
  refine Runs.split (fun e => by simp (decide := true) only [go_sem, Nat.reduceAdd, Nat.reduceMul, Nat.reduceSub]; exact Runs.ret_v) (fun e => ?_)
  simp only [decide_eq_false_iff_not] at e
  have b1 := szS_le I 1048576 (by omega)
  obtain ⟨e1, e2, e3⟩ : ¬ szS I 1048576 < 0 ∧ ¬ szI S.length (szS I 1048576) < 0 ∧ ¬ szI G.length (szI S.length (szS I 1048576)) < 0 := by
    unfold szCrlV at e
    split at e
    · exact absurd (by omega) e
    · split at e
      · exact absurd (by omega) e
      · exact ⟨by assumption, by assumption, e⟩
  have b2 := szI_le S.length (szS I 1048576) (by omega)
  have k1 := szS_len I _ e1 (by omega)
  have k2 := szI_len S.length _ e2 (by omega)
  have k3 := szI_len G.length _ e3 (by omega)
  have hto := toCrl hm I f t a S G k1 k2 k3
  have hT := implWriteCrl hm I f t a S G k1 h2 k2
  have hT' := specWriteCrl hm I f t a S G k1 h2 k2
  have hle := wB_le I f t a S G
  rw [wA] at hT hT'
  generalize wB I f t a S G = B at hT hT' hle
  generalize wOk I f t a S G = ok at hT hT'
  simp (decide := true) only [go_sem, Nat.reduceAdd, Nat.reduceMul, Nat.reduceSub]
  refine Runs.call hto ?_
  simp (decide := true) only [go_sem, Nat.reduceAdd, Nat.reduceMul, Nat.reduceSub]
  refine Runs.call hT' ?_
  simp (decide := true) only [go_sem, Nat.reduceAdd, Nat.reduceMul, Nat.reduceSub]
  refine Runs.call hto ?_
  simp (decide := true) only [go_sem, Nat.reduceAdd, Nat.reduceMul, Nat.reduceSub]
  refine Runs.call hT ?_
  simp (decide := true) only [go_sem, Nat.reduceAdd, Nat.reduceMul, Nat.reduceSub]
  refine Runs.call (eqByteS hm B (by omega)) ?_
  simp (decide := true) (disch := first | omega | (simp only [List.length_map, List.length_cons, List.length_append, List.length_nil]; omega)) only [if_pos, go_sem, Nat.reduceAdd, Nat.reduceMul, Nat.reduceSub]
  have hmk := markCrl hm I f t a S G 1 (by omega) (by omega)
  have hB := markByteS hm B 1 (by omega) (by omega)
  have hH := heldByteS hm B.length 1 (by omega) (by omega)
  have hd : decide ((1 : Int) + I.length + S.length + G.length < 0) = false := by simp; omega
  have hd2 : decide ((1 : Int) + B.length < 0) = false := by simp; omega
  have heq := eqCrl hm I f t a S G h1 h3 h4
  refine Runs.draw (st1 := ?s1) (draws_ref (ann := []) tabOk (byL [10, 11] []) sLW (by kernel_rfl) ?p1) ?q1
  case p1 =>
    intro K r X hK
    simp (decide := true) only [go_sem, Nat.reduceAdd, Nat.reduceMul, Nat.reduceSub]
    repeat' apply And.intro
    all_goals
      refine Runs.call hto ?_
      simp (decide := true) only [go_sem, Nat.reduceAdd, Nat.reduceMul, Nat.reduceSub]
      refine Runs.call heq ?_
      simp (decide := true) only [go_sem, Nat.reduceAdd, Nat.reduceMul, Nat.reduceSub]
      exact hK
  case q1 =>
    simp (decide := true) only [go_sem, Nat.reduceAdd, Nat.reduceMul, Nat.reduceSub]
    refine Runs.call hmk ?_
    simp (decide := true) (disch := first | omega | (simp only [List.length_map, List.length_cons, List.length_append, List.length_nil]; omega)) only [hd, hd2, List.length_range, mk_plain, tk_mk, if_pos, go_sem, Nat.reduceAdd, Nat.reduceMul, Nat.reduceSub]
    refine Runs.call (eqByteS hm B (by omega)) ?_
    simp (decide := true) (disch := first | omega | (simp only [List.length_map, List.length_cons, List.length_append, List.length_nil]; omega)) only [hd, hd2, List.length_range, mk_plain, tk_mk, if_pos, go_sem, Nat.reduceAdd, Nat.reduceMul, Nat.reduceSub]
    refine Runs.call hB ?_
    simp (decide := true) (disch := first | omega | (simp only [List.length_map, List.length_cons, List.length_append, List.length_nil]; omega)) only [hd, hd2, List.length_range, mk_plain, tk_mk, if_pos, go_sem, Nat.reduceAdd, Nat.reduceMul, Nat.reduceSub]
    refine Runs.call hH ?_
    simp (decide := true) (disch := first | omega | (simp only [List.length_map, List.length_cons, List.length_append, List.length_nil]; omega)) only [hd, hd2, List.length_range, mk_plain, tk_mk, if_pos, go_sem, Nat.reduceAdd, Nat.reduceMul, Nat.reduceSub]
    refine Runs.call hto ?_
    simp (decide := true) only [go_sem, Nat.reduceAdd, Nat.reduceMul, Nat.reduceSub]
    refine Runs.call hT ?_
    simp (decide := true) only [go_sem, Nat.reduceAdd, Nat.reduceMul, Nat.reduceSub]
    refine Runs.call (eqByteS hm B (by omega)) ?_
    simp (decide := true) (disch := first | omega | (simp only [List.length_map, List.length_cons, List.length_append, List.length_nil]; omega)) only [hd, hd2, List.length_range, mk_plain, tk_mk, if_pos, go_sem, Nat.reduceAdd, Nat.reduceMul, Nat.reduceSub]
    refine Runs.call hH ?_
    simp (decide := true) (disch := first | omega | (simp only [List.length_map, List.length_cons, List.length_append, List.length_nil]; omega)) only [hd, hd2, List.length_range, mk_plain, tk_mk, if_pos, go_sem, Nat.reduceAdd, Nat.reduceMul, Nat.reduceSub]
    exact Runs.ret_v
end Go.Proofs.W
