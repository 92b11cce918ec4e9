import Derived.Shelf.Lays
import Derived.Shelf.Strings.FieldsFuncAny
import Derived.Shelf.Strings.OnBuilder
import Derived.Test.YtbodkdhlncdhpadGreatDoorWalk2
set_option linter.unusedVariables false
set_option linter.unusedSimpArgs false
namespace Go.Proofs.W
open Go Go.AM Go.RowKit Go.Shelf
set_option linter.unusedSimpArgs false
set_option linter.unusedVariables false
variable (hm : Tryz.prog.follows .mixedOrders = true)

theorem repL_of_vs {C : Ctx} {w : World} (vs : List Value) : RepL C w (vs.map A.v) vs fun _ => 0 := by
  induction vs with
  | nil => exact .nil fun _ => rfl
  | cons v l ih => exact .v ih
theorem flat_strA (ss : List ByteArray) : flat (ss.map strA) = (ss.map Value.string).map A.v := by
  induction ss with
  | nil => rfl
  | cons a l ih => rw [List.map_cons, List.map_cons, List.map_cons, ← ih]; rfl
/-- A function of Go's library that returns a new row of strings. -/
theorem holds_row {P : Program} {f : Nat} {vs : List Value} {ss : List ByteArray} {t : TypeId} (hf : ∃ fn c, P.funcs[f]? = some fn ∧ (fn.name == "runtime.NumGoroutine") = false ∧ fn.body = some c)
    (h : ∀ w, Calls P f vs.toArray w fun e w' => ∃ A, e = .returned (.slice (some ⟨A, 0, none⟩) ss.length ss.length) ∧ w.heap.size ≤ A ∧
      w'.ownsRow w.heap.size t 1 (.slice (some ⟨A, 0, none⟩) ss.length ss.length) ss.length (ss.map Value.string) ∧ Below w.heap.size w w') : Holds P f (vs.map .v) [] (.sl (.ow 1) (ss.map strA)) [] where
  fn := hf
  calls := by
    intro C w xs fx fa hF hB hI hX hM hle hno hR
    obtain ⟨rfl, h0⟩ := repL_vs hR
    have hx : ∀ b, fx b = 0 := by
      have hM : MemR C w [] fx := hM
      cases hM with | nil h => exact h
    refine (h w).mono ?_
    rintro e w' ⟨A, rfl, hA, ⟨hl, ho⟩, hb⟩
    rcases ho with ⟨ho, _⟩ | ⟨g, cap, cur, hv, hg, hrow, hn, hcm, hsz, htk⟩
    · cases ho
    · have e1 : g = A := by injection hv with a1; injection a1 with a2; injection a2 with a3; exact a3.symm
      have e2 : cap = ss.length := by injection hv with _ _ a3; exact a3.symm
      subst e1 e2
      have hfl := flat_strA ss
      have hrep : Rep1 C w' (.sl (.ow 1) (ss.map strA)) (.slice (some ⟨g, 0, none⟩) ss.length ss.length) fun b => if b = g then 1 else 0 := by
        have := RepL.ow (C := C) (w := w') (k := 1) (es := ss.map strA) (a := ⟨g, 0, none⟩) (cap := ss.length) (c := cur) (e := t) (fz := (0, 0)) (r := []) (xs := []) (f := fun b => if b = g then 1 else 0) (f1 := fun _ => 0) (f2 := fun _ => 0)
          hrow rfl (by intro x hx; obtain ⟨s, _, rfl⟩ := List.mem_map.mp hx; rfl) (by simp) (by simp; omega) trivial (by intro o ho; simp)
          (by
            rw [List.length_map, List.drop_zero, htk]
            intro v hv; obtain ⟨s, _, rfl⟩ := List.mem_map.mp hv; rfl)
          (by intro b; simp) (by rw [List.length_map, List.drop_zero, htk, hfl]; exact repL_of_vs _) (.nil fun _ => rfl)
        rw [List.length_map] at this
        exact this
      refine ⟨C, _, fun _ => 0, Ctx.ToX.refl C, rfl, hB, fun _ h => h, fun _ h => .inl h, fun b h => Nat.lt_of_lt_of_le (hI b h) hb.size, hX, ⟨hb.os, hb.tape, hb.output, hb.size, fun b h _ => hb.block b h⟩, .nil fun _ => rfl, hrep, fun b => ?_, fun b hb1 => ?_⟩
      · simp only; split <;> omega
      · have e3 : b = g := by
          simp only [Nat.zero_add] at hb1
          split at hb1
          · assumption
          · omega
        subst e3
        refine ⟨fun hc => ?_, .inr hA, ?_⟩
        · have := hI b hc; omega
        · exact (Array.getElem?_eq_some_iff.mp hrow).1
def lay229_ren : Go.Shelf.Ren :=
  {
  f := fun x =>
    match x with
    | 229 => 114
    | n => n,
  t := fun x =>
    match x with
    | 9 => 9
    | 40 => 125
    | 31 => 30
    | 152 => 151
    | 3 => 3
    | 0 => 0
    | 4 => 4
    | 21 => 21
    | 154 => 153
    | n => n,
  g := fun n => n }
set_option maxRecDepth 100000 in
theorem lay229 : Lays.n229 Tryz.prog lay229_ren :=
  { mixed := by kernel_rfl
    f229 := Eq.trans Tryz.func114 (congrArg some (by kernel_rfl))
    t0 := Tryz.underlying0
    a0 := Tryz.isAgg0
    z0 := Tryz.sizeOf0
    v0 := Tryz.zeroValue0
    t3 := Tryz.underlying3
    a3 := Tryz.isAgg3
    z3 := Tryz.sizeOf3
    v3 := Tryz.zeroValue3
    t4 := Tryz.underlying4
    a4 := Tryz.isAgg4
    z4 := Tryz.sizeOf4
    v4 := Tryz.zeroValue4
    t9 := Tryz.underlying9
    a9 := Tryz.isAgg9
    z9 := Tryz.sizeOf9
    v9 := Tryz.zeroValue9
    t21 := Tryz.underlying21
    a21 := Tryz.isAgg21
    z21 := Tryz.sizeOf21
    v21 := Tryz.zeroValue21
    t31 := Tryz.underlying30
    a31 := Tryz.isAgg30
    z31 := Tryz.sizeOf30
    v31 := Tryz.zeroValue30
    t40 := Tryz.underlying125
    a40 := Tryz.isAgg125
    z40 := Tryz.sizeOf125
    v40 := Tryz.zeroValue125
    t152 := Tryz.underlying151
    a152 := Tryz.isAgg151
    z152 := Tryz.sizeOf151
    v152 := Tryz.zeroValue151
    t154 := Tryz.underlying153
    a154 := Tryz.isAgg153
    z154 := Tryz.sizeOf153
    v154 := Tryz.zeroValue153 }

def lay156_ren : Go.Shelf.Ren :=
  {
  f := fun x =>
    match x with
    | 156 => 117
    | 165 => 148
    | 166 => 149
    | 169 => 150
    | 240 => 161
    | 241 => 162
    | 276 => 172
    | 277 => 173
    | n => n,
  t := fun x =>
    match x with
    | 31 => 30
    | 9 => 9
    | 3 => 3
    | 4 => 4
    | 0 => 0
    | 20 => 20
    | 72 => 156
    | 76 => 160
    | 70 => 154
    | 37 => 45
    | 75 => 159
    | 127 => 169
    | 164 => 174
    | 5 => 5
    | 80 => 162
    | n => n,
  g := fun n => n }
set_option maxRecDepth 100000 in
theorem lay156 : Lays.n156 Tryz.prog lay156_ren :=
  { mixed := by kernel_rfl
    f156 := Eq.trans Tryz.func117 (congrArg some (by kernel_rfl))
    f165 := Eq.trans Tryz.func148 (congrArg some (by kernel_rfl))
    f166 := Eq.trans Tryz.func149 (congrArg some (by kernel_rfl))
    f169 := Eq.trans Tryz.func150 (congrArg some (by kernel_rfl))
    f240 := Eq.trans Tryz.func161 (congrArg some (by kernel_rfl))
    f241 := Eq.trans Tryz.func162 (congrArg some (by kernel_rfl))
    f276 := Eq.trans Tryz.func172 (congrArg some (by kernel_rfl))
    f277 := Eq.trans Tryz.func173 (congrArg some (by kernel_rfl))
    t0 := Tryz.underlying0
    a0 := Tryz.isAgg0
    z0 := Tryz.sizeOf0
    v0 := Tryz.zeroValue0
    t3 := Tryz.underlying3
    a3 := Tryz.isAgg3
    z3 := Tryz.sizeOf3
    v3 := Tryz.zeroValue3
    t4 := Tryz.underlying4
    a4 := Tryz.isAgg4
    z4 := Tryz.sizeOf4
    v4 := Tryz.zeroValue4
    t9 := Tryz.underlying9
    a9 := Tryz.isAgg9
    z9 := Tryz.sizeOf9
    v9 := Tryz.zeroValue9
    t20 := Tryz.underlying20
    a20 := Tryz.isAgg20
    z20 := Tryz.sizeOf20
    v20 := Tryz.zeroValue20
    t31 := Tryz.underlying30
    a31 := Tryz.isAgg30
    z31 := Tryz.sizeOf30
    v31 := Tryz.zeroValue30
    t37 := Tryz.underlying45
    a37 := Tryz.isAgg45
    z37 := Tryz.sizeOf45
    v37 := Tryz.zeroValue45
    t70 := Tryz.underlying154
    a70 := Tryz.isAgg154
    z70 := Tryz.sizeOf154
    v70 := Tryz.zeroValue154
    t72 := Tryz.underlying156
    a72 := Tryz.isAgg156
    z72 := Tryz.sizeOf156
    v72 := Tryz.zeroValue156
    t75 := Tryz.underlying159
    a75 := Tryz.isAgg159
    z75 := Tryz.sizeOf159
    v75 := Tryz.zeroValue159
    t76 := Tryz.underlying160
    a76 := Tryz.isAgg160
    z76 := Tryz.sizeOf160
    v76 := Tryz.zeroValue160
    t127 := Tryz.underlying169
    a127 := Tryz.isAgg169
    z127 := Tryz.sizeOf169
    v127 := Tryz.zeroValue169
    t164 := Tryz.underlying174
    a164 := Tryz.isAgg174
    z164 := Tryz.sizeOf174
    v164 := Tryz.zeroValue174 }

def spP (x : Nat) : Bool := decide (x = 32)
set_option maxRecDepth 10000 in
theorem spaceC (x : Nat) (hx : x ≤ 1114111) (w : World) : Calls Tryz.prog 116 #[.int .i32 x] w fun e w' => e = .returned (.bool (spP x)) ∧ w' = w := by
  go_enter Tryz.func116, Tryz.ntmps116
  go_wp2
  go_ret
  exact ⟨by simp [spP]; omega, rfl⟩
theorem fieldsH (s : ByteArray) (h : s.size ≤ 1048576) : Holds Tryz.prog 114 [.v (.string s), .v (.func (.func 116) #[] #[])] [] (.sl (.ow 1) ((Lib.goFieldsP spP s).map strA)) [] := by
  refine holds_row (vs := [.string s, .func (.func 116) #[] #[]]) (t := lay229_ren.t 9) ⟨_, _, Tryz.func114, by kernel_rfl, rfl⟩ fun w => ?_
  exact Any.strings_FieldsFunc_runes lay229 116 #[] (enters_of Tryz.func116 (by kernel_rfl) rfl) spP s w (by omega)
    (fun W x hx hb => (spaceC x hx W).mono fun e w' ⟨he, hw⟩ => ⟨he, 0, hw⟩) (by kernel_rfl) (by kernel_rfl)
end Go.Proofs.W

namespace Go.Proofs.W
open Go Go.AM Go.RowKit Go.Shelf
set_option linter.unusedSimpArgs false
set_option linter.unusedVariables false
variable (hm : Tryz.prog.follows .mixedOrders = true)

def joinB (ss : List ByteArray) (sep : ByteArray) : ByteArray := ⟨(Lib.join (ss.map (·.data.toList)) sep.data.toList).toArray⟩
set_option maxRecDepth 100000 in
theorem lay156X : Builder.Extra Tryz.prog lay156_ren where
  sizeBuilder := by kernel_rfl
  liesBuilder := by kernel_rfl
  t5 := Tryz.underlying5
  a5 := Tryz.isAgg5
  z5 := Tryz.sizeOf5
  v5 := Tryz.zeroValue5
  infoByte := by kernel_rfl
  cellsByte := by kernel_rfl
  sizeByte := by kernel_rfl
  neB5 := by decide
theorem joinH (ss : List ByteArray) (sep : ByteArray) (hN : ss.length ≤ 140737488355328) (hlen : (Lib.join (ss.map (·.data.toList)) sep.data.toList).length ≤ 140737488355328) :
    Holds Tryz.prog 117 [.sl .sh (ss.map strA), .v (.string sep)] [] (.v (.string (joinB ss sep))) [] where
  fn := ⟨_, _, Tryz.func117, by kernel_rfl, rfl⟩
  calls := by
    intro C w xs fx fa hF hB hI hX hM hle hno hR
    have hx : ∀ b, fx b = 0 := by
      have hM : MemR C w [] fx := hM
      cases hM with | nil h => exact h
    have main : Calls Tryz.prog 117 xs.toArray w fun e w' => e = .returned (.string (joinB ss sep)) ∧ Below w.heap.size w w' := by
      generalize hes : ss.map strA = es at hR
      cases hR with
      | nils h =>
        cases h with
        | v h =>
          cases h with
          | nil h =>
            have : ss = [] := List.map_eq_nil_iff.mp hes
            subst this
            exact (Any.strings_Join_none lay156 lay156X _ _ sep w).mono fun e w' ⟨he, hw⟩ => ⟨he, hw ▸ Below.refl _ _⟩
      | sl hrow hsp hk hcap hsz hI' hs ho hf h1 h =>
        rename_i a cap k c e fz r1 f1
        cases h with
        | v h =>
          cases h with
          | nil h =>
            subst hes
            rw [flat_strA] at h1
            have hk1 : (ss.map strA).length * k = ss.length := by
              rw [List.length_map]
              cases ss with
              | nil => simp
              | cons s l =>
                have := hk (strA s) (by simp)
                have : k = 1 := by rw [← this]; rfl
                rw [this, Nat.mul_one]
            rw [hk1] at h1
            obtain ⟨e1, _⟩ := repL_vs h1
            have hcells : ∀ (j : Nat) x, ss[j]? = some x → w.cell? ⟨a.block, a.off + j, none⟩ = some (.string x) := by
              intro j x hj
              have e2 : ((c.toList.drop a.off).take ss.length)[j]? = some (.string x) := by rw [e1, List.getElem?_map, hj]; rfl
              have hjl := (List.getElem?_eq_some_iff.mp hj).1
              rw [List.getElem?_take_of_lt hjl, List.getElem?_drop, Array.getElem?_toList] at e2
              simp only [World.cell?, hrow]
              exact e2
            have ha : a = ⟨a.block, a.off, none⟩ := by cases a; simp at hsp; rw [hsp]
            have hbk : a.block < w.heap.size := (Array.getElem?_eq_some_iff.mp hrow).1
            rw [ha, List.length_map]
            rw [List.length_map] at hcap
            exact Any.strings_Join lay156 lay156X a.block a.off cap ss sep w hcells hbk hN hcap hlen
    refine main.mono ?_
    rintro e w' ⟨rfl, hb⟩
    exact ⟨C, fun _ => 0, fun _ => 0, Ctx.ToX.refl C, rfl, hB, fun _ h => h, fun _ h => .inl h, fun b h => Nat.lt_of_lt_of_le (hI b h) hb.size, hX, ⟨hb.os, hb.tape, hb.output, hb.size, fun b h _ => hb.block b h⟩, .nil fun _ => rfl, .v (.nil fun _ => rfl), fun _ => Nat.zero_le _, fun b hb => absurd hb (by simp)⟩
end Go.Proofs.W

namespace Go.Proofs.W
open Go Go.AM
set_option linter.unusedSimpArgs false
set_option linter.unusedVariables false
variable (hm : Tryz.prog.follows .mixedOrders = true)

/-- A text with its runs of blanks made one, none ahead of it and none behind it: one more byte. -/
def colStep (out : List UInt8) (prev b : UInt8) : List UInt8 := if b = 32 then out else (if out ≠ [] ∧ prev = 32 then out ++ [32] else out) ++ [b]
def colG : List UInt8 → UInt8 → List UInt8 → List UInt8
  | out, _, [] => out
  | out, prev, b :: r => colG (colStep out prev b) b r
theorem colStep_nil (p q b : UInt8) : colStep [] p b = colStep [] q b := by simp [colStep]
theorem colG_nil (p q : UInt8) (l : List UInt8) : colG [] p l = colG [] q l := by
  cases l with
  | nil => rfl
  | cons b r => rw [colG, colG, colStep_nil p q]
def plainB (s : ByteArray) : ByteArray := lowerB (mkS (colG [] 0 s.data.toList))
def lplAnn : Ann := [(0, [0, 3, 4])]
def lplSt (s : ByteArray) (p : Nat × List UInt8) : St := ⟨[.v (.string s), .any, .any, .ms (.l 0) 0 p.2.length p.2.length, .v (.int .i64 p.1), .any, .any, .any, .any, .any, .any, .any, .any, .any, .any, .any, .any, .any, .any, .any, .any, .any, .any, .any, .any, .any, .any, .any, .any, .any, .any, .any, .any, .any, .any, .any, .any, .any], [(0, ⟨true, 1, false, p.2.map byteA⟩)], []⟩
set_option maxHeartbeats 1000000 in
set_option maxRecDepth 10000 in
include hm in
theorem l10Plain (s : ByteArray) (h : s.size ≤ 1048576) : Holds Tryz.prog 72 [.v (.string s)] [] (.v (.string (plainB s))) [] := by
  refine holds_of (ann := lplAnn) tabOk hm Tryz.func72 (by kernel_rfl) rfl ?_
  simp (decide := true) only [Tryz.f72, go_sem, Nat.reduceAdd, Nat.reduceMul, Nat.reduceSub]
  have hz := list_size s
  refine Runs.while (α := Nat × List UInt8) (lplSt s) (fun p => s.size - p.1) (fun p => p.1 ≤ s.size ∧ p.2.length ≤ 2 * p.1 ∧ (p.1 = 0 → p.2 = []) ∧ colG p.2 (s.data.toList.getD (p.1 - 1) 0) (s.data.toList.drop p.1) = colG [] 0 s.data.toList) (0, []) ⟨Nat.zero_le _, Nat.zero_le _, fun _ => rfl, by simp only [List.drop_zero]; exact colG_nil _ _ _⟩ ?_ ?_
  · simp [go_sem, lplAnn, lplSt]
  · rintro ⟨i, out⟩ ⟨hi, ho, h0, hr⟩ ih
    simp only at hi ho h0 hr
    have hlen : (out.map byteA).length = out.length := List.length_map _
    simp (decide := true) only [lplSt, hlen, go_sem, Nat.reduceAdd, Nat.reduceMul, Nat.reduceSub]
    refine Runs.split (fun h => ?_) (fun h => ?_)
    · have hlt : i < s.data.toList.length := by simp at h; omega
      obtain ⟨c, hc⟩ : ∃ c, s.data.toList[i] = c := ⟨_, rfl⟩
      have hg : s.data.toList.getD i 0 = c := (getD_lt hlt).trans hc
      rw [List.drop_eq_getElem_cons hlt, hc, colG] at hr
      have hb := UInt8.toNat_lt c
      have hprev : s.data.toList.getD (i + 1 - 1) 0 = c := by rw [Nat.add_sub_cancel]; exact hg
      have go : ∀ out2 : List UInt8, colStep out (s.data.toList.getD (i - 1) 0) c = out2 → colG out2 (s.data.toList.getD (i + 1 - 1) 0) (s.data.toList.drop (i + 1)) = colG [] 0 s.data.toList := by
        intro out2 e; rw [hprev, ← e]; exact hr
      simp (decide := true) (disch := first | omega | (simp only [List.length_map, List.length_cons, List.length_append, List.length_nil]; omega)) only [hg, hlen, if_pos, go_sem, Nat.reduceAdd, Nat.reduceMul, Nat.reduceSub]
      cases h1 : decide ((c.toNat : Int) = 32)
      · have hc32 : c ≠ 32 := by intro e; subst e; simp at h1
        simp (decide := true) (disch := first | omega | (simp only [List.length_map, List.length_cons, List.length_append, List.length_nil]; omega)) only [hlen, if_pos, go_sem, Nat.reduceAdd, Nat.reduceMul, Nat.reduceSub]
        cases h2 : decide ((out.length : Int) > 0)
        · have hnil : out = [] := by
            have : out.length = 0 := by simp only [decide_eq_false_iff_not] at h2; omega
            exact List.length_eq_zero_iff.mp this
          subst hnil
          simp (decide := true) (disch := first | omega | (simp only [List.length_map, List.length_cons, List.length_append, List.length_nil]; omega)) only [hg, hlen, List.length_nil, List.map_nil, if_pos, go_sem, Nat.reduceAdd, Nat.reduceMul, Nat.reduceSub]
          refine ih (i + 1, [c]) _ (by simp only; omega) ⟨by simp only; omega, by simp only [List.length_cons, List.length_nil]; omega, by simp, go [c] (by simp [colStep, hc32])⟩ ?_
          simp [go_sem, lplAnn, lplSt, byteA]
        · have hne : out ≠ [] := by intro e; subst e; simp at h2
          have hi1 : 1 ≤ i := by
            rcases Nat.eq_zero_or_pos i with e | e
            · exact absurd (h0 e) hne
            · exact e
          have ht : ((i : Int) - 1).toNat = i - 1 := by omega
          have hb1 : decide (0 ≤ (i : Int) - 1 ∧ (i : Int) - 1 < s.size) = true := by simp; omega
          obtain ⟨p, hp⟩ : ∃ p, s.data.toList.getD (i - 1) 0 = p := ⟨_, rfl⟩
          rw [hp] at go
          simp (decide := true) (disch := first | omega | (simp only [List.length_map, List.length_cons, List.length_append, List.length_nil]; omega)) only [ht, hb1, hp, if_pos, go_sem, Nat.reduceAdd, Nat.reduceMul, Nat.reduceSub]
          cases h3 : decide ((p.toNat : Int) = 32)
          · have hp32 : p ≠ 32 := by intro e; subst e; simp at h3
            simp (decide := true) (disch := first | omega | (simp only [List.length_map, List.length_cons, List.length_append, List.length_nil]; omega)) only [hg, hlen, if_pos, go_sem, Nat.reduceAdd, Nat.reduceMul, Nat.reduceSub]
            refine ih (i + 1, out ++ [c]) _ (by simp only; omega) ⟨by simp only; omega, by simp only [List.length_append, List.length_cons, List.length_nil]; omega, by simp, go _ (by simp [colStep, hc32, hp32])⟩ ?_
            simp [go_sem, lplAnn, lplSt, byteA]
          · have hp32 : p = 32 := by
              simp only [decide_eq_true_eq] at h3
              exact UInt8.toNat_inj.mp (Int.ofNat.inj h3)
            have hl2 : (out.map byteA ++ [A.v (.int .u8 32)]).length = out.length + 1 := by simp
            simp (decide := true) (disch := first | omega | (simp only [List.length_map, List.length_cons, List.length_append, List.length_nil]; omega)) only [hg, hlen, hl2, if_pos, go_sem, Nat.reduceAdd, Nat.reduceMul, Nat.reduceSub]
            refine ih (i + 1, out ++ [32] ++ [c]) _ (by simp only; omega) ⟨by simp only; omega, by simp only [List.length_append, List.length_cons, List.length_nil]; omega, by simp, go _ (by simp [colStep, hc32, hp32, hne])⟩ ?_
            simp [go_sem, lplAnn, lplSt, byteA]
      · have hc32 : c = 32 := by
          simp only [decide_eq_true_eq] at h1
          exact UInt8.toNat_inj.mp (Int.ofNat.inj h1)
        simp (decide := true) (disch := first | omega | (simp only [List.length_map, List.length_cons, List.length_append, List.length_nil]; omega)) only [hlen, if_pos, go_sem, Nat.reduceAdd, Nat.reduceMul, Nat.reduceSub]
        refine ih (i + 1, out) _ (by simp only; omega) ⟨by simp only; omega, by simp only; omega, by simp, go out (by simp [colStep, hc32])⟩ ?_
        simp [go_sem, lplAnn, lplSt]
    · have hge : i = s.size := by simp at h; omega
      rw [hge, List.drop_of_length_le (by omega), colG] at hr
      have htk : List.take out.length (out.map byteA) = out.map byteA := List.take_of_length_le (by rw [hlen]; exact Nat.le_refl _)
      have ha := bytes_all out
      have hbk := bytes_back out
      simp (decide := true) (disch := first | omega | (simp only [List.length_map, List.length_cons, List.length_append, List.length_nil]; omega)) only [hlen, htk, ha, hbk, List.drop_zero, if_pos, go_sem, Nat.reduceAdd, Nat.reduceMul, Nat.reduceSub]
      have c := sLower hm (mkS out) (by rw [mkS_size]; omega)
      rw [mkS] at c
      refine Runs.call c ?_
      simp (decide := true) only [go_sem, Nat.reduceAdd, Nat.reduceMul, Nat.reduceSub]
      exact Runs.ret_eq (by rw [plainB, ← hr]; rfl)
end Go.Proofs.W

namespace Go.Proofs.W
open Go Go.AM
set_option linter.unusedSimpArgs false
set_option linter.unusedVariables false
variable (hm : Tryz.prog.follows .mixedOrders = true)

theorem lowerB_size (s : ByteArray) : (lowerB s).size = s.size := by rw [lowerB, mkS_size, List.length_map, list_size]
theorem colG_len : ∀ (l out : List UInt8) (p : UInt8), (colG out p l).length ≤ out.length + 2 * l.length
  | [], out, p => by simp [colG]
  | b :: r, out, p => by
    have := colG_len r (colStep out p b) b
    rw [colG]
    have h2 : (colStep out p b).length ≤ out.length + 2 := by
      unfold colStep
      split
      · omega
      · split <;> simp
    simp only [List.length_cons]; omega
theorem plainB_size (s : ByteArray) : (plainB s).size ≤ 2 * s.size := by
  rw [plainB, lowerB_size, mkS_size]
  have := colG_len s.data.toList [] 0
  rw [list_size] at this
  simpa using this
/-- What the library's fields, joined, are: the law that is still owed. -/
def PlainLaw : Prop := ∀ s : ByteArray, joinB (Lib.goFieldsP spP (lowerB s)) ⟨#[32]⟩ = plainB s
theorem fields_len (s : ByteArray) (hl : PlainLaw) : (Lib.join ((Lib.goFieldsP spP (lowerB s)).map (·.data.toList)) [32]).length = (plainB s).size := by
  rw [← hl s, joinB]; simp [ByteArray.size]
set_option maxRecDepth 10000 in
include hm in
theorem iPlain (hl : PlainLaw) (s : ByteArray) (h : s.size ≤ 1048576) (hf : (Lib.goFieldsP spP (lowerB s)).length ≤ 140737488355328) : Holds Tryz.prog 88 [.v (.string s)] [] (.v (.string (plainB s))) [] := by
  refine holds_of (ann := []) tabOk hm Tryz.func88 (by kernel_rfl) rfl ?_
  simp (decide := true) only [Tryz.f88, go_sem, Nat.reduceAdd, Nat.reduceMul, Nat.reduceSub]
  refine Runs.call (iLower hm s (by omega)) ?_
  simp (decide := true) only [go_sem, Nat.reduceAdd, Nat.reduceMul, Nat.reduceSub]
  refine Runs.call (fieldsH (lowerB s) (by rw [lowerB_size]; exact h)) ?_
  simp (decide := true) only [go_sem, Nat.reduceAdd, Nat.reduceMul, Nat.reduceSub]
  have hp := plainB_size s
  refine Runs.call (joinH (Lib.goFieldsP spP (lowerB s)) ⟨#[32]⟩ hf (by have := fields_len s hl; show (Lib.join _ [32]).length ≤ _; rw [this]; omega)) ?_
  simp (decide := true) only [go_sem, Nat.reduceAdd, Nat.reduceMul, Nat.reduceSub]
  exact Runs.ret_eq (by rw [hl s])
end Go.Proofs.W

namespace Go.Proofs.W
open Go Go.AM
set_option linter.unusedSimpArgs false
set_option linter.unusedVariables false

theorem get_list {s : ByteArray} {i : Nat} (hi : i < s.size) : s.get! i = s.data.toList.getD i 0 := by
  have h2 : i < s.data.toList.length := by rw [list_size]; exact hi
  rw [getD_lt h2, Array.getElem_toList]
  show s.data[i]! = _
  rw [getElem!_pos s.data i (by simpa using h2)]
/-- A rune that is read steps over no blank but itself. -/
theorem dec_space {s : ByteArray} {i : Nat} (hi : i < s.size) (h : (s.data.toList.getD i 0).toNat = 32) : Utf8.decode s i = (32, 1) := by
  have e : (s.get! i).toNat = 32 := by rw [get_list hi]; exact h
  unfold Utf8.decode
  simp [e]
theorem dec_other {s : ByteArray} {i : Nat} (hi : i < s.size) (h : (s.data.toList.getD i 0).toNat ≠ 32) :
    (Utf8.decode s i).1 ≠ 32 ∧ 1 ≤ (Utf8.decode s i).2 ∧ i + (Utf8.decode s i).2 ≤ s.size ∧ ∀ k, k < (Utf8.decode s i).2 → (s.data.toList.getD (i + k) 0).toNat ≠ 32 := by
  have e : (s.get! (i + 0)).toNat ≠ 32 := by rw [Nat.add_zero, get_list hi]; exact h
  have one : ∀ k, k < 1 → (s.data.toList.getD (i + k) 0).toNat ≠ 32 := fun k hk => by
    have : k = 0 := by omega
    subst this; exact h
  have more : ∀ k, (decide (i + k < s.size) && (s.get! (i + k)).toNat / 64 == 2) = true → i + k < s.size ∧ (s.data.toList.getD (i + k) 0).toNat ≠ 32 := by
    intro k hk
    simp only [Bool.and_eq_true, decide_eq_true_eq, beq_iff_eq] at hk
    refine ⟨hk.1, ?_⟩
    rw [← get_list hk.1]; omega
  unfold Utf8.decode
  simp only
  split
  · exact ⟨e, Nat.le_refl _, by omega, one⟩
  split
  · rename_i h2
    rw [Bool.and_eq_true] at h2
    have m1 := more 1 h2.2
    split
    · refine ⟨by simp only; omega, by simp, by simp only; omega, fun k hk => ?_⟩
      simp only at hk
      rcases (show k = 0 ∨ k = 1 by omega) with rfl | rfl
      · exact h
      · exact m1.2
    · exact ⟨by decide, Nat.le_refl _, by simp only; omega, one⟩
  split
  · rename_i h2
    simp only [Bool.and_eq_true] at h2
    have m1 := more 1 (by simp only [Bool.and_eq_true]; exact h2.1.2)
    have m2 := more 2 (by simp only [Bool.and_eq_true]; exact h2.2)
    split
    · rename_i h3
      simp only [Bool.and_eq_true, decide_eq_true_eq] at h3
      refine ⟨by simp only; omega, by simp, by simp only; omega, fun k hk => ?_⟩
      simp only at hk
      rcases (show k = 0 ∨ k = 1 ∨ k = 2 by omega) with rfl | rfl | rfl
      · exact h
      · exact m1.2
      · exact m2.2
    · exact ⟨by decide, Nat.le_refl _, by simp only; omega, one⟩
  split
  · rename_i h2
    simp only [Bool.and_eq_true] at h2
    have m1 := more 1 (by simp only [Bool.and_eq_true]; exact h2.1.1.2)
    have m2 := more 2 (by simp only [Bool.and_eq_true]; exact h2.1.2)
    have m3 := more 3 (by simp only [Bool.and_eq_true]; exact h2.2)
    split
    · rename_i h3
      simp only [Bool.and_eq_true, decide_eq_true_eq] at h3
      refine ⟨by simp only; omega, by simp, by simp only; omega, fun k hk => ?_⟩
      simp only at hk
      rcases (show k = 0 ∨ k = 1 ∨ k = 2 ∨ k = 3 by omega) with rfl | rfl | rfl | rfl
      · exact h
      · exact m1.2
      · exact m2.2
      · exact m3.2
    · exact ⟨by decide, Nat.le_refl _, by simp only; omega, one⟩
  · exact ⟨by decide, Nat.le_refl _, by simp only; omega, one⟩
theorem lowU_32 (b : UInt8) : lowU b = 32 ↔ b = 32 := by
  have h := lowU_nat b
  constructor
  · intro e
    rw [e] at h
    have h2 : (b.toNat : Int) = 32 := by
      split at h
      · have : ((32 : UInt8).toNat : Int) = 32 := rfl
        omega
      · exact h.symm
    exact UInt8.toNat_inj.mp (Int.ofNat.inj h2)
  · intro e; subst e; rfl
theorem colG_low : ∀ (l out : List UInt8) (p : UInt8), (colG out p l).map lowU = colG (out.map lowU) (lowU p) (l.map lowU)
  | [], out, p => rfl
  | b :: r, out, p => by
    rw [colG, List.map_cons, colG, colG_low r]
    congr 1
    unfold colStep
    by_cases hb : b = 32
    · rw [if_pos hb, if_pos ((lowU_32 b).mpr hb)]
    · rw [if_neg hb, if_neg (fun e => hb ((lowU_32 b).mp e))]
      by_cases hp : out ≠ [] ∧ p = 32
      · rw [if_pos hp, if_pos ⟨by simpa using hp.1, (lowU_32 p).mpr hp.2⟩]
        simp; rfl
      · rw [if_neg hp, if_neg (fun e => hp ⟨by simpa using e.1, (lowU_32 p).mp e.2⟩)]
        simp
theorem colG_run : ∀ (r out rest : List UInt8) (p : UInt8), out ≠ [] → p ≠ 32 → (∀ b ∈ r, b ≠ 32) → colG out p (r ++ rest) = colG (out ++ r) ((p :: r).getLast (by simp)) rest
  | [], out, rest, p, _, _, _ => by simp
  | b :: r, out, rest, p, h1, h2, h3 => by
    have hb := h3 b (by simp)
    rw [List.cons_append, colG]
    have e : colStep out p b = out ++ [b] := by simp [colStep, hb, h2]
    rw [e, colG_run r (out ++ [b]) rest b (by simp) hb (fun x hx => h3 x (by simp [hx]))]
    simp
def joinL (A : List (List UInt8)) : List UInt8 := Lib.join A [32]
theorem joinL_snoc (A : List (List UInt8)) (x : List UInt8) : joinL (A ++ [x]) = if A = [] then x else joinL A ++ [32] ++ x := by
  induction A with
  | nil => simp [joinL, Lib.join, List.intercalate]
  | cons a A ih =>
    rw [if_neg (by simp)]
    cases A with
    | nil => simp [joinL, Lib.join, List.intercalate]
    | cons b B =>
      rw [if_neg (by simp)] at ih
      have e : ∀ C : List (List UInt8), joinL (a :: b :: C) = a ++ [32] ++ joinL (b :: C) := by intro C; simp [joinL, Lib.join, List.intercalate]
      rw [List.cons_append, List.cons_append, e, ← List.cons_append, ih, e]
      simp
def pcs (s : ByteArray) (acc : List (Nat × Nat)) : List (List UInt8) := acc.map fun x => (s.extract x.1 x.2).data.toList
theorem pcs_snoc (s : ByteArray) (acc : List (Nat × Nat)) (a b : Nat) : pcs s (acc ++ [(a, b)]) = pcs s acc ++ [(s.data.toList.drop a).take (b - a)] := by
  simp only [pcs, List.map_append, List.map_cons, List.map_nil, ext_list]
/-- What stands when so much of the text has been gone through. -/
def Stand (s : ByteArray) (pos : Nat) (st : Option Nat) (acc : List (Nat × Nat)) (out : List UInt8) (prev : UInt8) : Prop :=
  match st with
  | none => out = joinL (pcs s acc) ∧ (pcs s acc ≠ [] → out ≠ [] ∧ prev = 32)
  | some a => a < pos ∧ out = joinL (pcs s acc ++ [(s.data.toList.drop a).take (pos - a)]) ∧ out ≠ [] ∧ prev ≠ 32
theorem sp_succ (p : Nat → Bool) (s : ByteArray) (f pos : Nat) (st : Option Nat) (acc : List (Nat × Nat)) : Lib.spansFromP p s (f + 1) pos st acc =
    if pos < s.size then (if p (Utf8.decode s pos).1 = true then Lib.spansFromP p s f (pos + (Utf8.decode s pos).2) none (match st with | some a => acc ++ [(a, pos)] | none => acc)
      else Lib.spansFromP p s f (pos + (Utf8.decode s pos).2) (match st with | some a => some a | none => some pos) acc) else (acc, st) := by
  cases st <;> rfl
theorem colStep_32 (out : List UInt8) (p : UInt8) : colStep out p 32 = out := by simp [colStep]
theorem fields_go (s : ByteArray) : ∀ (f pos : Nat) (st : Option Nat) (acc : List (Nat × Nat)) (out : List UInt8) (prev : UInt8), s.size - pos ≤ f → pos ≤ s.size → Stand s pos st acc out prev →
    joinL (pcs s (Lib.closeSpans s (Lib.spansFromP spP s f pos st acc))) = colG out prev (s.data.toList.drop pos) := by
  have hz := list_size s
  have fin : ∀ (pos : Nat) (st : Option Nat) (acc : List (Nat × Nat)) (out : List UInt8) (prev : UInt8), pos = s.size → Stand s pos st acc out prev → joinL (pcs s (Lib.closeSpans s (acc, st))) = colG out prev (s.data.toList.drop pos) := by
    intro pos st acc out prev hp h
    rw [List.drop_of_length_le (by omega), colG]
    cases st with
    | none => exact h.1.symm
    | some a => simp only [Lib.closeSpans]; rw [pcs_snoc, ← hp]; exact h.2.1.symm
  intro f
  induction f with
  | zero =>
    intro pos st acc out prev hf hp h
    show joinL (pcs s (Lib.closeSpans s (acc, st))) = _
    exact fin pos st acc out prev (by omega) h
  | succ f ih =>
    intro pos st acc out prev hf hp h
    rw [sp_succ]
    by_cases hlt : pos < s.size
    · rw [if_pos hlt]
      have hl : pos < s.data.toList.length := by omega
      have hg := getD_lt hl
      by_cases h32 : (s.data.toList.getD pos 0).toNat = 32
      · rw [dec_space hlt h32, if_pos (by simp [spP])]
        have hb : s.data.toList[pos] = 32 := by rw [← hg]; exact UInt8.toNat_inj.mp h32
        rw [List.drop_eq_getElem_cons hl, hb, colG, colStep_32]
        cases st with
        | none => exact ih (pos + 1) none acc out 32 (by omega) (by omega) ⟨h.1, fun hne => ⟨(h.2 hne).1, rfl⟩⟩
        | some a => exact ih (pos + 1) none (acc ++ [(a, pos)]) out 32 (by omega) (by omega) ⟨by rw [pcs_snoc]; exact h.2.1, fun _ => ⟨h.2.2.1, rfl⟩⟩
      · obtain ⟨d1, d2, d3, d4⟩ := dec_other hlt h32
        generalize hw : (Utf8.decode s pos).2 = w at *
        rw [if_neg (by simpa [spP] using d1)]
        have hsplit : s.data.toList.drop pos = (s.data.toList.drop pos).take w ++ s.data.toList.drop (pos + w) := by
          rw [← List.drop_drop, List.take_append_drop]
        have hr : ∀ b ∈ (s.data.toList.drop pos).take w, b ≠ 32 := by
          intro b hb e
          obtain ⟨k, hk, e2⟩ := List.getElem_of_mem hb
          simp only [List.length_take, List.length_drop] at hk
          have := d4 k (by omega)
          rw [getD_lt (by omega)] at this
          rw [List.getElem_take, List.getElem_drop] at e2
          rw [e2, e] at this
          exact this rfl
        have hlast : ∀ p : UInt8, p ≠ 32 → (p :: (s.data.toList.drop pos).take w).getLast (by simp) ≠ 32 := by
          intro p hp e
          rcases List.mem_cons.mp (List.getLast_mem (l := p :: (s.data.toList.drop pos).take w) (by simp)) with h1 | h1
          · exact hp (h1.symm.trans e)
          · exact hr _ h1 e
        cases st with
        | some a =>
          obtain ⟨h1, h2, h3, h4⟩ := h
          rw [hsplit, colG_run _ out _ prev h3 h4 hr]
          refine ih (pos + w) (some a) acc _ _ (by omega) (by omega) ⟨by omega, ?_, by simp [h3], hlast prev h4⟩
          have e : (s.data.toList.drop a).take (pos + w - a) = (s.data.toList.drop a).take (pos - a) ++ (s.data.toList.drop pos).take w := by
            rw [show pos + w - a = (pos - a) + w by omega, List.take_add, List.drop_drop, show a + (pos - a) = pos by omega]
          rw [h2, e, joinL_snoc, joinL_snoc]
          split <;> simp
        | none =>
          obtain ⟨h1, h2⟩ := h
          have hc : s.data.toList[pos] ≠ 32 := by rw [← hg]; intro e; exact h32 (by rw [e]; rfl)
          obtain ⟨r, hr2⟩ : ∃ r, (s.data.toList.drop pos).take w = s.data.toList[pos] :: r := by
            rw [List.drop_eq_getElem_cons hl]
            obtain ⟨w', rfl⟩ : ∃ w', w = w' + 1 := ⟨w - 1, by omega⟩
            exact ⟨_, rfl⟩
          have key : colStep out prev s.data.toList[pos] = (if pcs s acc = [] then [] else joinL (pcs s acc) ++ [32]) ++ [s.data.toList[pos]] := by
            unfold colStep
            rw [if_neg hc]
            by_cases hA : pcs s acc = []
            · have ho : out = [] := by rw [h1, hA]; rfl
              rw [if_pos hA, if_neg (by simp [ho]), ho]
            · obtain ⟨q1, q2⟩ := h2 hA
              rw [if_neg hA, if_pos ⟨q1, q2⟩, h1]
          rw [hsplit, hr2, List.cons_append, colG, key]
          rw [colG_run r _ _ _ (by simp) hc (fun b hb => hr b (by rw [hr2]; simp [hb]))]
          refine ih (pos + w) (some pos) acc _ _ (by omega) (by omega) ⟨by omega, ?_, by simp, ?_⟩
          · rw [show pos + w - pos = w by omega, hr2, joinL_snoc]
            split <;> simp
          · intro e
            rcases List.mem_cons.mp (List.getLast_mem (l := s.data.toList[pos] :: r) (by simp)) with h1 | h1
            · exact hc (h1.symm.trans e)
            · exact hr _ (by rw [hr2]; simp [h1]) e
    · rw [if_neg hlt]
      exact fin pos st acc out prev (by omega) h
theorem plainLaw : PlainLaw := by
  intro s
  have h := fields_go (lowerB s) (lowerB s).size 0 none [] [] 0 (by omega) (Nat.zero_le _) ⟨rfl, fun h => absurd rfl h⟩
  have e : joinB (Lib.goFieldsP spP (lowerB s)) ⟨#[32]⟩ = mkS (joinL (pcs (lowerB s) (Lib.closeSpans (lowerB s) (Lib.spansFromP spP (lowerB s) (lowerB s).size 0 none [])))) := by
    unfold joinB Lib.goFieldsP Lib.spansOfP pcs joinL mkS
    rw [List.map_map]; rfl
  have e2 : (lowerB s).data.toList = s.data.toList.map lowU := by rw [lowerB, mkS_data]
  have e3 : plainB s = mkS ((colG [] 0 s.data.toList).map lowU) := by rw [plainB]; conv => lhs; rw [lowerB, mkS_data]
  rw [List.drop_zero, e2] at h
  rw [e, h, e3, colG_low]
  first | done | (congr 1; exact colG_nil _ _ _) | rfl
end Go.Proofs.W

namespace Go.Proofs.W
open Go Go.AM
set_option linter.unusedSimpArgs false
set_option linter.unusedVariables false
variable (hm : Tryz.prog.follows .mixedOrders = true)

theorem sp_len (p : Nat → Bool) (s : ByteArray) : ∀ (f pos : Nat) (st : Option Nat) (acc : List (Nat × Nat)), (Lib.closeSpans s (Lib.spansFromP p s f pos st acc)).length ≤ acc.length + f + 1 := by
  have fin : ∀ (st : Option Nat) (acc : List (Nat × Nat)), (Lib.closeSpans s (acc, st)).length ≤ acc.length + 1 := by
    intro st acc; cases st <;> simp [Lib.closeSpans]
  intro f
  induction f with
  | zero => intro pos st acc; exact fin st acc
  | succ f ih =>
    intro pos st acc
    rw [sp_succ]
    split
    · split
      · refine Nat.le_trans (ih _ _ _) ?_
        cases st <;> simp <;> omega
      · refine Nat.le_trans (ih _ _ _) ?_
        omega
    · have := fin st acc; omega
theorem fields_le (s : ByteArray) : (Lib.goFieldsP spP s).length ≤ s.size + 1 := by
  rw [Lib.goFieldsP, List.length_map, Lib.spansOfP]
  have := sp_len spP s s.size 0 none []
  simpa using this
include hm in
theorem iPlain' (s : ByteArray) (h : s.size ≤ 1048576) : Holds Tryz.prog 88 [.v (.string s)] [] (.v (.string (plainB s))) [] :=
  iPlain hm plainLaw s h (by have := fields_le (lowerB s); rw [lowerB_size] at this; omega)
set_option maxRecDepth 10000 in
include hm in
theorem nameSame1 (a b : ByteArray) (ha : a.size ≤ 1048576) (hb : b.size ≤ 1048576) : Holds Tryz.prog 87 [.v (.string a), .v (.string b)] [] (.v (.bool ((plainB a).toList == (plainB b).toList))) [] := by
  refine holds_of (ann := []) tabOk hm Tryz.func87 (by kernel_rfl) rfl ?_
  simp (decide := true) only [Tryz.f87, go_sem, Nat.reduceAdd, Nat.reduceMul, Nat.reduceSub]
  refine Runs.call (iPlain' hm a ha) ?_
  simp (decide := true) only [go_sem, Nat.reduceAdd, Nat.reduceMul, Nat.reduceSub]
  refine Runs.call (iPlain' hm b hb) ?_
  simp (decide := true) only [go_sem, Nat.reduceAdd, Nat.reduceMul, Nat.reduceSub]
  exact Runs.ret_v
def sameB (a b : List ByteArray) : Bool := decide (a.length = b.length) && (List.range a.length).all fun i => (plainB (a.getD i ⟨#[]⟩)).toList == (plainB (b.getD i ⟨#[]⟩)).toList
def sameFrom (a b : List ByteArray) (i : Nat) : Bool := (List.range' i (a.length - i)).all fun i => (plainB (a.getD i ⟨#[]⟩)).toList == (plainB (b.getD i ⟨#[]⟩)).toList
theorem sameFrom_succ {a b : List ByteArray} {i : Nat} (h : i < a.length) : sameFrom a b i = (((plainB (a.getD i ⟨#[]⟩)).toList == (plainB (b.getD i ⟨#[]⟩)).toList) && sameFrom a b (i + 1)) := by
  unfold sameFrom
  obtain ⟨k, hk⟩ : ∃ k, a.length - i = k + 1 := ⟨a.length - i - 1, by omega⟩
  rw [hk, List.range'_succ, List.all_cons, show a.length - (i + 1) = k by omega]
theorem sameFrom_end {a b : List ByteArray} : sameFrom a b a.length = true := by unfold sameFrom; rw [Nat.sub_self]; rfl
theorem sameFrom_zero {a b : List ByteArray} (h : a.length = b.length) : sameB a b = sameFrom a b 0 := by
  rw [sameB, decide_eq_true h, Bool.true_and, sameFrom, List.range_eq_range', Nat.sub_zero]
def nmAnn : Ann := [(0, [0, 1, 5])]
def nmSt (a b : List ByteArray) (i : Nat) : St := ⟨[.sl .sh (a.map strA), .sl .sh (b.map strA), .any, .any, .any, .v (.int .i64 i), .any, .any, .any, .any, .any, .any, .any, .any, .any, .any, .any, .any, .any, .any, .any, .any, .any, .any, .any, .any, .any, .any, .any, .any, .any, .any, .any, .any, .any], [], []⟩
def nmS : Sched := .take 0 (.take 1 (.take 2 (.take 5 (.take 6 (.take 7 (.ld 3 (.ld 8 (.alt 4 (.alt 9 (.take 10 .fin) .nil) .nil))))))))
attribute [local go_sem] nmS
set_option maxHeartbeats 1000000 in
set_option maxRecDepth 10000 in
include hm in
theorem sNameSame (a b : List ByteArray) (ha : a.length ≤ 1048576) (hb : b.length ≤ 1048576) (h1 : ∀ s ∈ a, s.size ≤ 1048576) (h2 : ∀ s ∈ b, s.size ≤ 1048576) : Holds Tryz.prog 42 [.sl .sh (a.map strA), .sl .sh (b.map strA)] [] (.v (.bool (sameB a b))) [] := by
  refine holds_of (ann := nmAnn) tabOk hm Tryz.func42 (by kernel_rfl) rfl ?_
  simp (decide := true) only [Tryz.f42, go_sem, Nat.reduceAdd, Nat.reduceMul, Nat.reduceSub]
  have la : (a.map strA).length = a.length := List.length_map _
  have lb : (b.map strA).length = b.length := List.length_map _
  refine Runs.while (α := Nat) (nmSt a b) (fun i => a.length - i) (fun i => i ≤ a.length ∧ (i ≠ 0 → a.length = b.length) ∧ sameFrom a b i = sameFrom a b 0) 0 ⟨Nat.zero_le _, fun h => absurd rfl h, rfl⟩ ?_ ?_
  · simp [go_sem, nmAnn, nmSt]
  · rintro i ⟨hi, h0, hr⟩ ih
    simp (decide := true) only [nmSt, la, lb, go_sem, Nat.reduceAdd, Nat.reduceMul, Nat.reduceSub]
    cases g1 : decide ((i : Int) < (a.length : Int))
    · have hge : i = a.length := by simp at g1; omega
      simp (decide := true) only [la, lb, go_sem, Nat.reduceAdd, Nat.reduceMul, Nat.reduceSub]
      rw [hge, sameFrom_end] at hr
      refine Runs.ret_eq ?_
      by_cases e : a.length = b.length
      · rw [sameFrom_zero e, ← hr]; simp [e]
      · rw [sameB, decide_eq_false e]; simp; omega
    · have hlt : i < a.length := by simpa using g1
      cases g2 : decide ((a.length : Int) = (b.length : Int))
      · simp (decide := true) only [la, lb, g2, go_sem, Nat.reduceAdd, Nat.reduceMul, Nat.reduceSub]
        have e : ¬ a.length = b.length := by simp at g2; omega
        exact Runs.ret_eq (by simp [sameB, e])
      · have e : a.length = b.length := by simp at g2; omega
        have hlb : i < b.length := by omega
        have ga : (a.map strA).getD i .any = .v (.string a[i]) := by simp [List.getD, hlt, strA]
        have gb : (b.map strA).getD i .any = .v (.string b[i]) := by simp [List.getD, hlb, strA]
        have qa : a.getD i ⟨#[]⟩ = a[i] := by simp [List.getD, hlt]
        have qb : b.getD i ⟨#[]⟩ = b[i] := by simp [List.getD, hlb]
        rw [sameFrom_succ hlt, qa, qb] at hr
        have ca := l10Plain hm a[i] (h1 _ (List.getElem_mem hlt))
        have cb := l10Plain hm b[i] (h2 _ (List.getElem_mem hlb))
        simp (decide := true) only [la, lb, g2, go_sem, Nat.reduceAdd, Nat.reduceMul, Nat.reduceSub]
        refine Runs.draw (st1 := ?s1) (draws_by (ann := nmAnn) tabOk nmS (by kernel_rfl) ?p1) ?q1
        case p1 =>
          intro K r X hK
          simp (decide := true) (maxSteps := 2000000) (disch := first | omega | (simp only [List.length_map, List.length_cons, List.length_append, List.length_nil]; omega)) only [la, lb, ga, gb, if_pos, go_sem, Nat.reduceAdd, Nat.reduceMul, Nat.reduceSub]
          repeat' apply And.intro
          all_goals
            refine Runs.call ca ?_
            simp (decide := true) (maxSteps := 2000000) (disch := first | omega | (simp only [List.length_map, List.length_cons, List.length_append, List.length_nil]; omega)) only [la, lb, ga, gb, if_pos, go_sem, Nat.reduceAdd, Nat.reduceMul, Nat.reduceSub]
            refine Runs.call cb ?_
            simp (decide := true) (maxSteps := 2000000) (disch := first | omega | (simp only [List.length_map, List.length_cons, List.length_append, List.length_nil]; omega)) only [if_pos, go_sem, Nat.reduceAdd, Nat.reduceMul, Nat.reduceSub]
            exact hK
        case q1 =>
          simp (decide := true) (disch := first | omega | (simp only [List.length_map, List.length_cons, List.length_append, List.length_nil]; omega)) only [if_pos, go_sem, Nat.reduceAdd, Nat.reduceMul, Nat.reduceSub]
          cases g3 : ((plainB a[i]).toList == (plainB b[i]).toList)
          · simp (decide := true) (disch := first | omega | (simp only [List.length_map, List.length_cons, List.length_append, List.length_nil]; omega)) only [g3, if_pos, go_sem, Nat.reduceAdd, Nat.reduceMul, Nat.reduceSub]
            refine Runs.ret_eq ?_
            rw [g3, Bool.false_and] at hr
            rw [sameFrom_zero e, ← hr]
          · rw [g3, Bool.true_and] at hr
            simp (decide := true) (disch := first | omega | (simp only [List.length_map, List.length_cons, List.length_append, List.length_nil]; omega)) only [g3, if_pos, go_sem, Nat.reduceAdd, Nat.reduceMul, Nat.reduceSub]
            refine ih (i + 1) _ (by omega) ⟨by omega, fun _ => e, hr⟩ ?_
            simp [go_sem, nmAnn, nmSt]
def efAnn : Ann := [(0, [0, 1, 2, 15, 16, 17])]
def efSt (g : Nat) (a b : List ByteArray) (i : Nat) : St := ⟨[.sl .sh (a.map strA), .sl .sh (b.map strA), .v (.func (.func g) #[] #[]), .any, .any, .any, .any, .any, .any, .any, .any, .any, .any, .any, .any, .sl .sh (a.map strA), .v (.int .i64 a.length), .v (.int .i64 i), .any, .any, .any, .any, .any, .any, .any, .any, .any, .any, .any, .any, .any, .any], [], []⟩
set_option maxRecDepth 10000 in
include hm in
theorem equalFunc (a b : List ByteArray) (ha : a.length ≤ 1048576) (hb : b.length ≤ 1048576) (h1 : ∀ s ∈ a, s.size ≤ 1048576) (h2 : ∀ s ∈ b, s.size ≤ 1048576) :
    Holds Tryz.prog 86 [.sl .sh (a.map strA), .sl .sh (b.map strA), .v (.func (.func 87) #[] #[])] [] (.v (.bool (sameB a b))) [] := by
  refine holds_of (ann := efAnn) tabOk hm Tryz.func86 (by kernel_rfl) rfl ?_
  have la : (a.map strA).length = a.length := List.length_map _
  have lb : (b.map strA).length = b.length := List.length_map _
  simp (decide := true) only [Tryz.f86, la, lb, go_sem, Nat.reduceAdd, Nat.reduceMul, Nat.reduceSub]
  cases g2 : decide ((a.length : Int) = (b.length : Int))
  · simp (decide := true) only [g2, go_sem, Nat.reduceAdd, Nat.reduceMul, Nat.reduceSub]
    have e : ¬ a.length = b.length := by simp at g2; omega
    exact Runs.ret_eq (by simp [sameB, e])
  · have e : a.length = b.length := by simp at g2; omega
    simp (decide := true) only [g2, la, lb, go_sem, Nat.reduceAdd, Nat.reduceMul, Nat.reduceSub]
    refine Runs.while (α := Nat) (efSt 87 a b) (fun i => a.length - i) (fun i => i ≤ a.length ∧ sameFrom a b i = sameFrom a b 0) 0 ⟨Nat.zero_le _, rfl⟩ ?_ ?_
    · simp [go_sem, efAnn, efSt]
    · rintro i ⟨hi, hr⟩ ih
      simp (decide := true) only [efSt, la, lb, go_sem, Nat.reduceAdd, Nat.reduceMul, Nat.reduceSub]
      refine Runs.split (fun h => ?_) (fun h => ?_)
      · have hlt : i < a.length := by simpa using h
        have hlb : i < b.length := by omega
        have ga : (a.map strA).getD i .any = .v (.string a[i]) := by simp [List.getD, hlt, strA]
        have gb : (b.map strA).getD i .any = .v (.string b[i]) := by simp [List.getD, hlb, strA]
        have qa : a.getD i ⟨#[]⟩ = a[i] := by simp [List.getD, hlt]
        have qb : b.getD i ⟨#[]⟩ = b[i] := by simp [List.getD, hlb]
        rw [sameFrom_succ hlt, qa, qb] at hr
        simp (decide := true) (disch := first | omega | (simp only [List.length_map, List.length_cons, List.length_append, List.length_nil]; omega)) only [la, lb, ga, gb, if_pos, go_sem, Nat.reduceAdd, Nat.reduceMul, Nat.reduceSub]
        refine Runs.call (nameSame1 hm a[i] b[i] (h1 _ (List.getElem_mem hlt)) (h2 _ (List.getElem_mem hlb))) ?_
        cases g3 : ((plainB a[i]).toList == (plainB b[i]).toList)
        · simp (decide := true) (disch := first | omega | (simp only [List.length_map, List.length_cons, List.length_append, List.length_nil]; omega)) only [if_pos, go_sem, Nat.reduceAdd, Nat.reduceMul, Nat.reduceSub]
          rw [g3, Bool.false_and] at hr
          exact Runs.ret_eq (by rw [sameFrom_zero e, ← hr])
        · rw [g3, Bool.true_and] at hr
          simp (decide := true) (disch := first | omega | (simp only [List.length_map, List.length_cons, List.length_append, List.length_nil]; omega)) only [if_pos, go_sem, Nat.reduceAdd, Nat.reduceMul, Nat.reduceSub]
          refine ih (i + 1) _ (by omega) ⟨by omega, hr⟩ ?_
          simp [go_sem, efAnn, efSt]
      · have hge : i = a.length := by simp at h; omega
        rw [hge, sameFrom_end] at hr
        simp (decide := true) only [go_sem, Nat.reduceAdd, Nat.reduceMul, Nat.reduceSub]
        exact Runs.ret_eq (by rw [sameFrom_zero e, ← hr])
set_option maxRecDepth 10000 in
include hm in
theorem iNameSame (a b : List ByteArray) (ha : a.length ≤ 1048576) (hb : b.length ≤ 1048576) (h1 : ∀ s ∈ a, s.size ≤ 1048576) (h2 : ∀ s ∈ b, s.size ≤ 1048576) :
    Holds Tryz.prog 55 [.sl .sh (a.map strA), .sl .sh (b.map strA)] [] (.v (.bool (sameB a b))) [] := by
  refine holds_of (ann := []) tabOk hm Tryz.func55 (by kernel_rfl) rfl ?_
  simp (decide := true) only [Tryz.f55, go_sem, Nat.reduceAdd, Nat.reduceMul, Nat.reduceSub]
  refine Runs.call (equalFunc hm a b ha hb h1 h2) ?_
  simp (decide := true) only [go_sem, Nat.reduceAdd, Nat.reduceMul, Nat.reduceSub]
  exact Runs.ret_v
end Go.Proofs.W

namespace Go.Proofs.W
open Go Go.AM Go.Proofs.G
set_option linter.unusedSimpArgs false
set_option linter.unusedVariables false
variable (hm : Tryz.prog.follows .mixedOrders = true)
attribute [local go_sem] keyA keyO exS exO rowS_plain rowS_dn rowO_dn bne_self certA certO
/-- Whether a certificate is its own issuer by name. -/
def ownB (c : GCert) : Bool := sameB c.issuer c.subject
set_option maxHeartbeats 4000000 in
set_option maxRecDepth 10000 in
include hm in
theorem sOwn (c : GCert) (h : CertFit c) : Holds Tryz.prog 22 [certA c] [] (.v (.bool (ownB c))) [] := by
  obtain ⟨⟨i1, i2⟩, ⟨j1, j2⟩, _⟩ := h
  refine holds_ref (ann := []) tabOk hm (byL [] [1000001]) Tryz.func22 (by kernel_rfl) rfl ?_
  simp (decide := true) only [Tryz.f22, go_sem, Nat.reduceAdd, Nat.reduceMul, Nat.reduceSub]
  refine Runs.call (sNameSame hm c.issuer c.subject i1 j1 i2 j2) ?_
  simp (decide := true) only [go_sem, Nat.reduceAdd, Nat.reduceMul, Nat.reduceSub]
  exact Runs.ret_v
set_option maxHeartbeats 4000000 in
set_option maxRecDepth 10000 in
include hm in
theorem iOwn (c : GCert) (h : CertFit c) : Holds Tryz.prog 31 [certA c] [] (.v (.bool (ownB c))) [] := by
  obtain ⟨⟨i1, i2⟩, ⟨j1, j2⟩, _⟩ := h
  refine holds_ref (ann := []) tabOk hm (byL [] [1000001]) Tryz.func31 (by kernel_rfl) rfl ?_
  simp (decide := true) only [Tryz.f31, go_sem, Nat.reduceAdd, Nat.reduceMul, Nat.reduceSub]
  refine Runs.call (iNameSame hm c.issuer c.subject i1 j1 i2 j2) ?_
  simp (decide := true) only [go_sem, Nat.reduceAdd, Nat.reduceMul, Nat.reduceSub]
  exact Runs.ret_v
end Go.Proofs.W

namespace Go.Proofs.W
open Go Go.AM Go.Proofs.G
set_option linter.unusedSimpArgs false
set_option linter.unusedVariables false
variable (hm : Tryz.prog.follows .mixedOrders = true)
attribute [local go_sem] rowS_plain rowS_dn rowO_dn bne_self certsA_dn certsO_dn certsO_md certsA_plain certsA_all rowO_md
noncomputable def chainB (L : List GCert) : Bool := L.all certB && inB L.length 1 6
def strB (L : List GCert) : Nat := L.countP fun c => !ownB c
def btwB (L : List GCert) (k : Nat) : Nat := strB ((L.take k).drop 1)
theorem btwB_one (L : List GCert) : btwB L 1 = 0 := by
  unfold btwB
  rw [List.drop_eq_nil_of_le (by simp; omega)]; rfl
theorem btwB_succ (L : List GCert) (i : Nat) (h : i < L.length) (h1 : 1 ≤ i) : btwB L (i + 1) = btwB L i + if ownB L[i] then 0 else 1 := by
  unfold btwB strB
  rw [List.take_succ_eq_append_getElem h, List.drop_append_of_le_length (by simp; omega), List.countP_append]
  cases h : ownB L[i] <;> simp [h]
theorem strB_le (L : List GCert) : strB L ≤ L.length := List.countP_le_length
theorem btwB_le (L : List GCert) (k : Nat) : btwB L k ≤ L.length := by
  have := strB_le ((L.take k).drop 1)
  rw [List.length_drop, List.length_take] at this
  unfold btwB
  omega
def chAnn : Ann := [(0, [0, 3])]
def chSt (L : List GCert) (i : Nat) : St := ⟨[.sl .sh (L.map certA), .any, .any, .v (.int .i64 i), .any, .any, .any, .any, .any, .any, .any, .any, .any, .any, .any, .any, .any, .any, .any], [], []⟩
set_option maxHeartbeats 4000000 in
set_option maxRecDepth 10000 in
include hm in
theorem l11Chain (L : List GCert) (h3 : L.length ≤ 1048576) (h4 : ∀ c ∈ L, CertFit c) : Holds Tryz.prog 10 [.sl .sh (L.map certA)] [] (.v (.bool (chainB L))) [] := by
  refine holds_of (ann := chAnn) tabOk hm Tryz.func10 (by kernel_rfl) rfl ?_
  have hl0 : (L.map certA).length = L.length := List.length_map _
  simp (decide := true) only [Tryz.f10, hl0, go_sem, Nat.reduceAdd, Nat.reduceMul, Nat.reduceSub]
  refine Runs.while (α := Nat) (chSt L) (fun i => L.length - i) (fun i => i ≤ L.length ∧ L.all certB = (L.drop i).all certB) 0 ⟨by omega, rfl⟩ ?_ ?_
  · simp [go_sem, chAnn, chSt]
  · rintro i ⟨hi, hr⟩ ih
    simp (decide := true) only [chSt, hl0, go_sem, Nat.reduceAdd, Nat.reduceMul, Nat.reduceSub]
    refine Runs.split (fun h => ?_) (fun h => ?_)
    · have hlt : i < L.length := by simpa using h
      have hg : (L.map certA).getD i .any = certA L[i] := by simp [List.getD, hlt]
      have hc := sCertOk hm L[i] (h4 _ (List.getElem_mem hlt))
      rw [certA] at hg hc
      rw [List.drop_eq_getElem_cons hlt, List.all_cons] at hr
      simp (decide := true) (disch := first | omega | (simp only [List.length_map, List.length_cons, List.length_append, List.length_nil]; omega)) only [hg, hl0, if_pos, go_sem, Nat.reduceAdd, Nat.reduceMul, Nat.reduceSub]
      refine Runs.call hc ?_
      cases g : certB L[i]
      · simp (decide := true) only [go_sem, Nat.reduceAdd, Nat.reduceMul, Nat.reduceSub]
        rw [g, Bool.false_and] at hr
        exact Runs.ret_eq (by rw [chainB, hr, Bool.false_and])
      · simp (decide := true) (disch := first | omega | (simp only [List.length_map, List.length_cons, List.length_append, List.length_nil]; omega)) only [if_pos, go_sem, Nat.reduceAdd, Nat.reduceMul, Nat.reduceSub]
        rw [g, Bool.true_and] at hr
        refine ih (i + 1) _ (by omega) ⟨hlt, hr⟩ ?_
        simp [go_sem, chAnn, chSt]
    · have hge : i = L.length := by simp at h; omega
      subst hge
      simp only [List.drop_length, List.all_nil] at hr
      simp (decide := true) only [hl0, go_sem, Nat.reduceAdd, Nat.reduceMul, Nat.reduceSub]
      refine Runs.call (l1In hm _ 1 6) ?_
      simp (decide := true) only [go_sem, Nat.reduceAdd, Nat.reduceMul, Nat.reduceSub]
      exact Runs.ret_eq (by rw [chainB, hr, Bool.true_and])
def btAnn : Ann := [(0, [0, 1, 5, 6])]
def btSt (L : List GCert) (k : Nat) (i : Nat) : St := ⟨[.sl .sh (L.map certA), .v (.int .i64 k), .any, .any, .any, .v (.int .i64 (btwB L i)), .v (.int .i64 i), .any, .any, .any, .any, .any, .any, .any, .any, .any, .any, .any, .any, .any, .any], [], []⟩
set_option maxHeartbeats 4000000 in
set_option maxRecDepth 10000 in
include hm in
theorem l11Between (L : List GCert) (k : Nat) (hk : k ≤ L.length) (h3 : L.length ≤ 1048576) (h4 : ∀ c ∈ L, CertFit c) : Holds Tryz.prog 11 [.sl .sh (L.map certA), .v (.int .i64 k)] [] (.v (.int .i64 (btwB L k))) [] := by
  refine holds_of (ann := btAnn) tabOk hm Tryz.func11 (by kernel_rfl) rfl ?_
  have hl0 : (L.map certA).length = L.length := List.length_map _
  simp (decide := true) only [Tryz.f11, hl0, go_sem, Nat.reduceAdd, Nat.reduceMul, Nat.reduceSub]
  refine Runs.while (α := Nat) (btSt L k) (fun i => k - i) (fun i => 1 ≤ i ∧ (i ≤ k ∨ i = 1)) 1 ⟨by omega, by omega⟩ ?_ ?_
  · simp [go_sem, btAnn, btSt, btwB_one]
  · rintro i ⟨hi, hr⟩ ih
    simp (decide := true) only [btSt, hl0, go_sem, Nat.reduceAdd, Nat.reduceMul, Nat.reduceSub]
    refine Runs.split (fun h => ?_) (fun h => ?_)
    · have hlk : i < k := by simpa using h
      have hlt : i < L.length := by omega
      have hg : (L.map certA).getD i .any = certA L[i] := by simp [List.getD, hlt]
      have hc := sOwn hm L[i] (h4 _ (List.getElem_mem hlt))
      have hb := btwB_le L i
      have hs := btwB_succ L i hlt hi
      rw [certA] at hg hc
      simp (decide := true) (disch := first | omega | (simp only [List.length_map, List.length_cons, List.length_append, List.length_nil]; omega)) only [hg, hl0, if_pos, go_sem, Nat.reduceAdd, Nat.reduceMul, Nat.reduceSub]
      refine Runs.call hc ?_
      cases g : ownB L[i]
      · simp (decide := true) (disch := first | omega | (simp only [List.length_map, List.length_cons, List.length_append, List.length_nil]; omega)) only [if_pos, go_sem, Nat.reduceAdd, Nat.reduceMul, Nat.reduceSub]
        rw [g] at hs
        simp only [Bool.false_eq_true, if_false] at hs
        refine ih (i + 1) _ (by omega) ⟨by omega, by omega⟩ ?_
        simp [go_sem, btAnn, btSt, hs]
      · simp (decide := true) (disch := first | omega | (simp only [List.length_map, List.length_cons, List.length_append, List.length_nil]; omega)) only [if_pos, go_sem, Nat.reduceAdd, Nat.reduceMul, Nat.reduceSub]
        rw [g] at hs
        simp only [if_true] at hs
        refine ih (i + 1) _ (by omega) ⟨by omega, by omega⟩ ?_
        simp [go_sem, btAnn, btSt, hs]
    · have hge : ¬ i < k := by simpa using h
      simp (decide := true) only [go_sem, Nat.reduceAdd, Nat.reduceMul, Nat.reduceSub]
      refine Runs.ret_eq ?_
      rcases hr with hr | hr
      · have : i = k := by omega
        rw [this]
      · rcases Nat.lt_or_ge k 1 with h5 | h5
        · have e : k = 0 := by omega
          rw [hr, btwB_one, e]; rfl
        · have : i = k := by omega
          rw [this]
noncomputable def depthB (L : List GCert) : Int := if chainB L then btwB L (L.length - 1) else -1
set_option maxHeartbeats 4000000 in
set_option maxRecDepth 10000 in
include hm in
theorem sDepth (L : List GCert) (h3 : L.length ≤ 1048576) (h4 : ∀ c ∈ L, CertFit c) : Holds Tryz.prog 5 [.sl .sh (L.map certA)] [] (.v (.int .i64 (depthB L))) [] := by
  refine holds_of (ann := []) tabOk hm Tryz.func5 (by kernel_rfl) rfl ?_
  have hl0 : (L.map certA).length = L.length := List.length_map _
  simp (decide := true) only [Tryz.f5, hl0, go_sem, Nat.reduceAdd, Nat.reduceMul, Nat.reduceSub]
  refine Runs.call (l11Chain hm L h3 h4) ?_
  cases g : chainB L
  · simp (decide := true) only [go_sem, Nat.reduceAdd, Nat.reduceMul, Nat.reduceSub]
    exact Runs.ret_eq (by rw [depthB, g]; rfl)
  · have hn : 1 ≤ L.length := by
      simp only [chainB, inB, Bool.and_eq_true, decide_eq_true_eq] at g
      omega
    have hc := l11Between hm L (L.length - 1) (by omega) h3 h4
    have e : ((L.length - 1 : Nat) : Int) = (L.length : Int) - 1 := by omega
    rw [e] at hc
    simp (decide := true) (disch := first | omega | (simp only [List.length_map, List.length_cons, List.length_append, List.length_nil]; omega)) only [hl0, if_pos, go_sem, Nat.reduceAdd, Nat.reduceMul, Nat.reduceSub]
    refine Runs.call hc ?_
    simp (decide := true) only [go_sem, Nat.reduceAdd, Nat.reduceMul, Nat.reduceSub]
    exact Runs.ret_eq (by rw [depthB, g]; rfl)
def icAnn : Ann := [(0, [0, 1, 7, 8])]
def icSt (f : A) (L : List GCert) (i : Nat) : St := ⟨[.sl .sh (L.map certA), f, .any, .any, .any, .any, .any, .v (.int .i64 L.length), .v (.int .i64 i), .any, .any, .any, .any, .any, .any, .any, .any, .any, .any], [], []⟩
set_option maxHeartbeats 4000000 in
set_option maxRecDepth 10000 in
include hm in
theorem indexFuncC (g : Nat) (L : List GCert) (q : GCert → Bool) (h : L.length ≤ 1048576) (hq : ∀ c ∈ L, Holds Tryz.prog g [certA c] [] (.v (.bool (q c))) []) :
    ∃ n : Int, decide (n ≥ 0) = L.any q ∧ Holds Tryz.prog 49 [.sl .sh (L.map certA), .v (.func (.func g) #[] #[])] [] (.v (.int .i64 n)) [] := by
  refine ⟨if L.any q = true then (L.findIdx q : Int) else -1, by cases h : L.any q <;> simp, ?_⟩
  refine holds_of (ann := icAnn) tabOk hm Tryz.func49 (by kernel_rfl) rfl ?_
  have ha : (L.map certA).length = L.length := List.length_map _
  simp (decide := true) only [Tryz.f49, ha, go_sem, Nat.reduceAdd, Nat.reduceMul, Nat.reduceSub]
  refine Runs.while (α := Nat) (icSt (.v (.func (.func g) #[] #[])) L) (fun i => L.length - i) (fun i => i ≤ L.length ∧ ∀ j (hj : j < L.length), j < i → q L[j] = false) 0 ⟨by omega, fun _ _ h => absurd h (by omega)⟩ ?_ ?_
  · simp [go_sem, icAnn, icSt]
  · rintro i ⟨hi, hn⟩ ih
    simp (decide := true) only [icSt, ha, go_sem, Nat.reduceAdd, Nat.reduceMul, Nat.reduceSub]
    refine Runs.split (fun h => ?_) (fun h => ?_)
    · have hlt : i < L.length := by simpa using h
      have hg : (L.map certA).getD i .any = certA L[i] := by simp [List.getD, hlt]
      have hc := hq L[i] (List.getElem_mem hlt)
      rw [certA] at hg hc
      simp (decide := true) (disch := first | omega | (simp only [List.length_map, List.length_cons, List.length_append, List.length_nil]; omega)) only [ha, hg, if_pos, go_sem, Nat.reduceAdd, Nat.reduceMul, Nat.reduceSub]
      refine Runs.call hc ?_
      cases h2 : q L[i]
      · simp (decide := true) (disch := first | omega | (simp only [List.length_map, List.length_cons, List.length_append, List.length_nil]; omega)) only [if_pos, go_sem, Nat.reduceAdd, Nat.reduceMul, Nat.reduceSub]
        refine ih (i + 1) _ (by omega) ⟨by omega, fun j hj hji => ?_⟩ ?_
        · rcases Nat.lt_or_ge j i with h3 | h3
          · exact hn j hj h3
          · have : j = i := by omega
            subst this; exact h2
        · simp [go_sem, icAnn, icSt]
      · simp (decide := true) (disch := first | omega | (simp only [List.length_map, List.length_cons, List.length_append, List.length_nil]; omega)) only [if_pos, go_sem, Nat.reduceAdd, Nat.reduceMul, Nat.reduceSub]
        have e1 : L.any q = true := List.any_eq_true.mpr ⟨L[i], List.getElem_mem hlt, h2⟩
        have e2 : L.findIdx q = i := (List.findIdx_eq hlt).mpr ⟨h2, fun j hj => hn j (by omega) hj⟩
        exact Runs.ret_eq (by rw [e1, e2]; rfl)
    · have hge : i = L.length := by simp at h; omega
      have e1 : L.any q = false := by
        rw [List.any_eq_false]
        intro x hx
        obtain ⟨j, hj, rfl⟩ := List.getElem_of_mem hx
        rw [hn j hj (by omega)]; simp
      simp (decide := true) only [go_sem, Nat.reduceAdd, Nat.reduceMul, Nat.reduceSub]
      exact Runs.ret_eq (by rw [e1]; rfl)
include hm in
theorem contFuncC (g : Nat) (L : List GCert) (q : GCert → Bool) (h : L.length ≤ 1048576) (hq : ∀ c ∈ L, Holds Tryz.prog g [certA c] [] (.v (.bool (q c))) []) :
    Holds Tryz.prog 28 [.sl .sh (L.map certA), .v (.func (.func g) #[] #[])] [] (.v (.bool (L.any q))) [] := by
  refine holds_of (ann := []) tabOk hm Tryz.func28 (by kernel_rfl) rfl ?_
  simp (decide := true) only [Tryz.f28, go_sem, Nat.reduceAdd, Nat.reduceMul, Nat.reduceSub]
  obtain ⟨n, hn, hc⟩ := indexFuncC hm g L q h hq
  refine Runs.call hc ?_
  simp (decide := true) only [hn, go_sem, Nat.reduceAdd, Nat.reduceMul, Nat.reduceSub]
  exact Runs.ret_v
set_option maxHeartbeats 4000000 in
set_option maxRecDepth 10000 in
include hm in
theorem notCert1 (c : GCert) (h : CertFit c) : Holds Tryz.prog 29 [certA c] [] (.v (.bool (!certB c))) [] := by
  have hc := iCertOk hm c h
  rw [certA] at hc ⊢
  refine holds_ref (ann := []) tabOk hm (byL [] [1000001]) Tryz.func29 (by kernel_rfl) rfl ?_
  simp (decide := true) only [Tryz.f29, go_sem, Nat.reduceAdd, Nat.reduceMul, Nat.reduceSub]
  refine Runs.call hc ?_
  simp (decide := true) only [go_sem, Nat.reduceAdd, Nat.reduceMul, Nat.reduceSub]
  exact Runs.ret_v
set_option maxRecDepth 10000 in
include hm in
theorem isChain (L : List GCert) (h3 : L.length ≤ 1048576) (h4 : ∀ c ∈ L, CertFit c) : Holds Tryz.prog 13 [.sl .sh (L.map certA)] [] (.v (.bool (chainB L))) [] := by
  refine holds_of (ann := []) tabOk hm Tryz.func13 (by kernel_rfl) rfl ?_
  have hl0 : (L.map certA).length = L.length := List.length_map _
  simp (decide := true) only [Tryz.f13, hl0, go_sem, Nat.reduceAdd, Nat.reduceMul, Nat.reduceSub]
  refine Runs.call (within hm _ 1 6) ?_
  cases g : inB L.length 1 6
  · simp (decide := true) only [go_sem, Nat.reduceAdd, Nat.reduceMul, Nat.reduceSub]
    exact Runs.ret_eq (by rw [chainB, g, Bool.and_false])
  · simp (decide := true) only [go_sem, Nat.reduceAdd, Nat.reduceMul, Nat.reduceSub]
    have hc := contFuncC hm 29 L (fun c => !certB c) h3 fun c hc => notCert1 hm c (h4 c hc)
    rw [any_not_all] at hc
    refine Runs.call hc ?_
    simp (decide := true) only [go_sem, Nat.reduceAdd, Nat.reduceMul, Nat.reduceSub]
    exact Runs.ret_eq (by rw [chainB, g, Bool.and_true, Bool.not_not])
def sgAnn : Ann := [(0, [3, 6, 7, 8])]
def sgSt (L : List GCert) (i : Nat) : St := ⟨[.any, .any, .any, .v (.int .i64 (strB (L.take i))), .any, .any, .sl .sh (L.map certA), .v (.int .i64 L.length), .v (.int .i64 i), .any, .any, .any, .any, .any, .any, .any, .any, .any, .any], [], []⟩
theorem strB_succ (L : List GCert) (i : Nat) (h : i < L.length) : strB (L.take (i + 1)) = strB (L.take i) + if ownB L[i] then 0 else 1 := by
  unfold strB
  rw [List.take_succ_eq_append_getElem h, List.countP_append]
  cases h : ownB L[i] <;> simp [h]
set_option maxHeartbeats 4000000 in
set_option maxRecDepth 10000 in
include hm in
theorem strangers (L : List GCert) (h3 : L.length ≤ 1048576) (h4 : ∀ c ∈ L, CertFit c) : Holds Tryz.prog 14 [.sl .sh (L.map certA)] [] (.v (.int .i64 (strB L))) [] := by
  refine holds_of (ann := sgAnn) tabOk hm Tryz.func14 (by kernel_rfl) rfl ?_
  have hl0 : (L.map certA).length = L.length := List.length_map _
  simp (decide := true) only [Tryz.f14, hl0, go_sem, Nat.reduceAdd, Nat.reduceMul, Nat.reduceSub]
  refine Runs.while (α := Nat) (sgSt L) (fun i => L.length - i) (fun i => i ≤ L.length) 0 (by omega) ?_ ?_
  · simp [go_sem, sgAnn, sgSt, strB]
  · intro i hi ih
    simp (decide := true) only [sgSt, hl0, go_sem, Nat.reduceAdd, Nat.reduceMul, Nat.reduceSub]
    refine Runs.split (fun h => ?_) (fun h => ?_)
    · have hlt : i < L.length := by simpa using h
      have hg : (L.map certA).getD i .any = certA L[i] := by simp [List.getD, hlt]
      have hc := iOwn hm L[i] (h4 _ (List.getElem_mem hlt))
      have hb := strB_le (L.take i)
      rw [List.length_take] at hb
      have hs := strB_succ L i hlt
      rw [certA] at hg hc
      simp (decide := true) (disch := first | omega | (simp only [List.length_map, List.length_cons, List.length_append, List.length_nil]; omega)) only [hg, hl0, if_pos, go_sem, Nat.reduceAdd, Nat.reduceMul, Nat.reduceSub]
      refine Runs.call hc ?_
      cases g : ownB L[i]
      · simp (decide := true) (disch := first | omega | (simp only [List.length_map, List.length_cons, List.length_append, List.length_nil]; omega)) only [if_pos, go_sem, Nat.reduceAdd, Nat.reduceMul, Nat.reduceSub]
        rw [g] at hs
        simp only [Bool.false_eq_true, if_false] at hs
        refine ih (i + 1) _ (by omega) (by omega) ?_
        simp [go_sem, sgAnn, sgSt, hs]
      · simp (decide := true) (disch := first | omega | (simp only [List.length_map, List.length_cons, List.length_append, List.length_nil]; omega)) only [if_pos, go_sem, Nat.reduceAdd, Nat.reduceMul, Nat.reduceSub]
        rw [g] at hs
        simp only [if_true] at hs
        refine ih (i + 1) _ (by omega) (by omega) ?_
        simp [go_sem, sgAnn, sgSt, hs]
    · have hge : i = L.length := by simp at h; omega
      subst hge
      simp (decide := true) only [go_sem, Nat.reduceAdd, Nat.reduceMul, Nat.reduceSub]
      exact Runs.ret_v
set_option maxHeartbeats 4000000 in
set_option maxRecDepth 10000 in
include hm in
theorem iDepth (L : List GCert) (h3 : L.length ≤ 1048576) (h4 : ∀ c ∈ L, CertFit c) : Holds Tryz.prog 7 [.sl .sh (L.map certA)] [] (.v (.int .i64 (depthB L))) [] := by
  refine holds_of (ann := []) tabOk hm Tryz.func7 (by kernel_rfl) rfl ?_
  have hl0 : (L.map certA).length = L.length := List.length_map _
  simp (decide := true) only [Tryz.f7, hl0, go_sem, Nat.reduceAdd, Nat.reduceMul, Nat.reduceSub]
  refine Runs.call (isChain hm L h3 h4) ?_
  cases g : chainB L
  · simp (decide := true) only [go_sem, Nat.reduceAdd, Nat.reduceMul, Nat.reduceSub]
    exact Runs.ret_eq (by rw [depthB, g]; rfl)
  · have hn : 1 ≤ L.length := by
      simp only [chainB, inB, Bool.and_eq_true, decide_eq_true_eq] at g
      omega
    have hc := strangers hm ((L.take (L.length - 1)).drop 1) (by simp; omega) fun c hc => h4 c (List.mem_of_mem_take (List.mem_of_mem_drop hc))
    rw [List.map_drop, List.map_take] at hc
    have e2 : ((L.length : Int) - 1).toNat = L.length - 1 := by omega
    rcases Nat.lt_or_ge L.length 2 with h5 | h5
    · have e : L.length = 1 := by omega
      have e3 : (if (L.length : Int) - 1 < 1 then (L.length : Int) - 1 else 1) = 0 := by rw [e]; rfl
      have e4 : (List.take (L.length - 1) (L.map certA)).drop 1 = (List.take (L.length - 1) (L.map certA)).drop 0 := by rw [e]; simp
      rw [e4, List.drop_zero] at hc
      have hd : dnL (List.take (L.length - 1) (L.map certA)) = List.take (L.length - 1) (L.map certA) := by rw [← List.map_take, certsA_dn]
      simp (decide := true) (disch := first | omega | (simp only [List.length_map, List.length_cons, List.length_append, List.length_nil]; omega)) only [hl0, e3, e2, Int.toNat_zero, List.drop_zero, hd, if_pos, go_sem, Nat.reduceAdd, Nat.reduceMul, Nat.reduceSub]
      refine Runs.call hc ?_
      simp (decide := true) only [go_sem, Nat.reduceAdd, Nat.reduceMul, Nat.reduceSub]
      exact Runs.ret_eq (by rw [depthB, g]; rfl)
    · have e3 : (if (L.length : Int) - 1 < 1 then (L.length : Int) - 1 else 1) = 1 := if_neg (by omega)
      have hd : dnL (List.drop 1 (List.take (L.length - 1) (L.map certA))) = List.drop 1 (List.take (L.length - 1) (L.map certA)) := by rw [← List.map_take, ← List.map_drop, certsA_dn]
      simp (decide := true) (disch := first | omega | (simp only [List.length_map, List.length_cons, List.length_append, List.length_nil]; omega)) only [hl0, e3, e2, Int.toNat_one, hd, if_pos, go_sem, Nat.reduceAdd, Nat.reduceMul, Nat.reduceSub]
      refine Runs.call hc ?_
      simp (decide := true) only [go_sem, Nat.reduceAdd, Nat.reduceMul, Nat.reduceSub]
      exact Runs.ret_eq (by rw [depthB, g]; rfl)
end Go.Proofs.W

namespace Go.Proofs.W
open Go Go.AM Go.Proofs.G
set_option linter.unusedSimpArgs false
set_option linter.unusedVariables false
variable (hm : Tryz.prog.follows .mixedOrders = true)
attribute [local go_sem] rowS_plain rowS_dn rowO_dn bne_self certsA_dn certsO_dn certsO_md certsA_plain certsA_all rowO_md

set_option maxHeartbeats 8000000 in
set_option maxRecDepth 10000 in
include hm in
theorem lawDepth (L : List GCert) (h1 : L.length ≤ 9223372036854775807) (h2 : ∀ c ∈ L, CertIn c) : Holds Tryz.prog 3 [.sl .sh (L.map certA)] [] (.v (.bool true)) [] := by
  refine holds_of (ann := []) tabOk hm Tryz.func3 (by kernel_rfl) rfl ?_
  have cz := szCertS hm L 1048576 (by omega) (by omega) h1 h2
  simp (decide := true) only [Tryz.f3, go_sem, Nat.reduceAdd, Nat.reduceMul, Nat.reduceSub]
  refine Runs.call cz ?_
  simp (decide := true) only [go_sem, Nat.reduceAdd, Nat.reduceMul, Nat.reduceSub]
  refine Runs.split (fun e => by simp (decide := true) only [go_sem, Nat.reduceAdd, Nat.reduceMul, Nat.reduceSub]; exact Runs.ret_v) (fun e => ?_)
  simp only [decide_eq_false_iff_not] at e
  obtain ⟨hL, fit⟩ := (szCSV_le L 1048576 (by omega) (by omega)).2.2 e
  have ct := toCertS hm L hL fit
  have cs := sDepth hm L hL fit
  have ci := iDepth hm L hL fit
  have ce := eqCertS hm L hL fit
  have tk : List.take L.length (L.map certO) = L.map certO := take_map_len
  simp (decide := true) only [go_sem, Nat.reduceAdd, Nat.reduceMul, Nat.reduceSub]
  refine Runs.call ct ?_
  simp (decide := true) only [tk, List.length_map, go_sem, Nat.reduceAdd, Nat.reduceMul, Nat.reduceSub]
  refine Runs.call cs ?_
  simp (decide := true) only [go_sem, Nat.reduceAdd, Nat.reduceMul, Nat.reduceSub]
  refine Runs.call ct ?_
  simp (decide := true) only [tk, List.length_map, go_sem, Nat.reduceAdd, Nat.reduceMul, Nat.reduceSub]
  refine Runs.call ci ?_
  simp (decide := true) only [go_sem, Nat.reduceAdd, Nat.reduceMul, Nat.reduceSub]
  refine Runs.call ct ?_
  simp (decide := true) only [tk, List.length_map, go_sem, Nat.reduceAdd, Nat.reduceMul, Nat.reduceSub]
  refine Runs.call ce ?_
  simp (decide := true) only [go_sem, Nat.reduceAdd, Nat.reduceMul, Nat.reduceSub]
  exact Runs.ret_v
end Go.Proofs.W
