import Derived.Laws.BytesString
import Derived.Lib.ConvBytes
import Derived.Laws.Tables
import Derived.DataBytes
import Derived.Orders
import Derived.ChangeSlices
import Derived.WideShapes
import Derived.SliceStrings
import Derived.Below
import Derived.Attr
import Derived.WalkKit
import Derived.ProofKit
import Derived.OpenShut
import Derived.ShutString
import Derived.ChangeOld
import Derived.Carry
import Derived.SizedLaws
import Derived.Test.YtaeccmjcdpeceabMachine1
set_option linter.unusedVariables false
set_option linter.unusedSimpArgs false
/- Conversions; structs built of parts. -/
namespace Go.AM
open Go

theorem freeze_alloc {w : World} {c : Array Value} {e : TypeId} (n : Nat) : ((w.alloc (.cells c e)).freeze ⟨w.heap.size, n, none⟩ 1) = w.alloc (.cells c e (n, n + 1)) := by
  unfold World.freeze World.alloc
  simp only [Nat.one_ne_zero, if_false]
  congr 1
  apply Array.ext_getElem?
  intro j
  rw [Array.getElem?_modify]
  by_cases h : w.heap.size = j
  · subst h
    simp
  · simp only [if_neg h, Array.getElem?_push]
    by_cases h2 : j = w.heap.size
    · exact absurd h2.symm h
    · simp [h2]

section
variable {T : Tab} {by_ : Nat → Bool} {ann : Ann} {Φ : Known} {P : Program} {w0 : World} {E I0 : Nat → Prop}
  {o : Oper} {a : Act} {w : World} {m : Nat} {K : St → Free} {r : A} {X : List Blk} {C : Ctx} {st : St} {f g : Nat → Nat}

theorem TabOk.some {P : Program} {T : Tab} (hT : TabOk P T) {t : Nat} (h : (T.row t).size ≠ 0) : ∃ d, P.underlying t = some d := by
  obtain ⟨i, d, z, r⟩ := hT.get h
  exact ⟨d, r.under⟩

theorem bytes_flat (l : List UInt8) : flat (l.map byteA) = (l.map (fun u : UInt8 => (.int .u8 u.toNat : Value))).map .v := by
  simp only [flat, byteA, List.flatMap_map, List.map_map]
  induction l with
  | nil => rfl
  | cons u l ih => simpa [A.cells] using ih

theorem bytes_all {es : List A} (h : es.all isByte = true) : ∃ ns : List Int, es = ns.map (fun n => .v (.int .u8 n)) ∧ ∀ n ∈ ns, 0 ≤ n ∧ n < 256 := by
  induction es with
  | nil => exact ⟨[], rfl, by simp⟩
  | cons b l ih =>
    simp only [List.all_cons, Bool.and_eq_true] at h
    obtain ⟨ns, rfl, hn⟩ := ih h.2
    have h1 := h.1
    unfold isByte at h1
    split at h1
    · rename_i n
      simp at h1
      refine ⟨n :: ns, rfl, ?_⟩
      intro m hm
      rcases List.mem_cons.1 hm with rfl | hm
      · exact h1
      · exact hn m hm
    · simp at h1

theorem inv_vs : ∀ {ns : List Value} {xs f}, RepL C w (ns.map .v) xs f → xs = ns
  | [], xs, f, h => by cases h; rfl
  | n :: ns, xs, f, h => by
    simp only [List.map_cons] at h
    cases h with
    | v h => rw [inv_vs h]

theorem push_all (ns : List Int) (s : ByteArray) : ns.foldl (fun r n => r.push (UInt8.ofNat n.toNat)) s = ⟨s.data ++ (ns.map fun n => UInt8.ofNat n.toNat).toArray⟩ := by
  induction ns generalizing s with
  | nil => simp
  | cons n ns ih =>
    rw [List.foldl_cons, ih]
    simp [ByteArray.push]

/-- What a slice of bytes reads as. -/
theorem elems_read {x : Operand} {es : List A} (hI : Inv w0 E I0 C st a w f) (he : st.elems (ev st.env x) = some es) (hb : es.all isByte = true) :
    ∃ sa cap, a.eval x = .slice sa es.length cap ∧ ∃ ns : List Int, es = ns.map (fun n => .v (.int .u8 n)) ∧ (0 < es.length → ∃ ad, sa = some ad ∧ (loadCells ad es.length).run P w = .ok (ns.map (Value.int .u8)).toArray w) := by
  obtain ⟨ns, hns, hr⟩ := bytes_all hb
  have hx := ev_rep hI.env x
  have hfl : flat es = (ns.map (Value.int .u8)).map .v := by
    rw [hns]
    simp only [flat, List.flatMap_map, List.map_map]
    clear hns hr
    induction ns with
    | nil => rfl
    | cons u l ih => simpa [A.cells] using ih
  have hcl : ∀ y ∈ es, y.cells.length = 1 := by
    intro y hy
    rw [hns] at hy
    obtain ⟨n, _, rfl⟩ := List.mem_map.1 hy
    rfl
  have h1 : es.length * 1 = es.length := Nat.mul_one _
  unfold St.elems at he
  split at he
  · rename_i s es' ex
    simp at he
    subst he
    rw [ex] at hx
    rcases inv_sl0 hx with ⟨he, sa, hv⟩ | ⟨ad, cap, k', c, e', fz, hv, q2, q3, q4, q5, q6, q7, q8, q9, q10⟩
    · exact ⟨sa, 0, by rw [hv, he]; rfl, ns, hns, fun h => by rw [he] at h; simp at h⟩
    · refine ⟨_, _, hv, ns, hns, fun hpos => ⟨ad, rfl, ?_⟩⟩
      have hk : k' = 1 := by
        obtain ⟨y, hy⟩ := List.exists_mem_of_length_pos hpos
        rw [← q4 y hy, hcl y hy]
      subst hk
      rw [hfl] at q10
      have := inv_vs q10
      rw [h1] at this q6
      rw [addr_eq q3, run_load_at q2 q6, this]
  · rename_i ex
    simp at he
    subst he
    rw [ex] at hx
    exact ⟨none, 0, inv_v hx, ns, hns, fun h => by simp at h⟩
  · rename_i b off len tot ex
    rw [ex] at hx
    split at he
    case h_2 => simp at he
    rename_i blk hbk
    split at he
    case isFalse => simp at he
    rename_i hc
    simp at he
    have hl : st.live b tot = true := by simp [St.live, hbk, hc.2]
    obtain ⟨blk', hB, hon, ht, sa, cp, g1, g2, g3, g4, g5⟩ := hI.msOk hl hx
    have hB' := (hI.get hbk).2.1
    rw [hB] at hB'; cases hB'
    have hlen : es.length = len := by rw [← he]; simp; omega
    refine ⟨sa, cp, by rw [hlen]; exact g1, ns, hns, fun hpos => ?_⟩
    have g5 := g5 (by omega)
    refine ⟨_, g5, ?_⟩
    rcases hI.blk hbk with ⟨he0, _⟩ | ⟨fb, ⟨c, e, fz, k1, k2, k3, k4, k5, kbx, k6, k7⟩, hfb⟩
    · rw [he0] at ht; simp at ht; omega
    · have hk : blk.k = 1 := by
        obtain ⟨y, hy⟩ := List.exists_mem_of_length_pos hpos
        have hy' : y ∈ blk.es := by rw [← he] at hy; exact List.mem_of_mem_drop (List.mem_of_mem_take hy)
        rw [← k3 y hy', hcl y hy]
      have hlk : (off + len) * blk.k ≤ blk.es.length * blk.k := Nat.mul_le_mul_right _ (by omega)
      have hck : blk.es.length * blk.k ≤ (C.μ b).cap * blk.k := Nat.mul_le_mul_right _ k4
      have hsub := flat_sub k3 off len
      have hfll := flat_length k3
      rw [hk] at hlk hck k5 k6 k7 hsub hfll g5
      simp only [Nat.mul_one] at hlk hck k5 k6 k7 hsub hfll g5
      obtain ⟨fx, hfx, hr'⟩ := k7.extract off len (by rw [hfll]; omega)
      rw [← hsub, he, hfl] at hr'
      have e3 : (((c.toList.drop (C.μ b).base).take blk.es.length).drop off).take len = (c.toList.drop ((C.μ b).base + off)).take len := by
        rw [List.drop_take, List.drop_drop, List.take_take, Nat.min_eq_left (by omega)]
      rw [e3] at hr'
      have := inv_vs hr'
      have hok : off * blk.k = off := by rw [hk, Nat.mul_one]
      rw [hlen, run_load_at k1 (by simp only [hok]; omega), hok, this]
  · simp at he

theorem convert_ok {src dst : TypeId} {x : Operand} (hop : o.op = .convert src dst x) (hT : TabOk P T) (hI : Inv w0 E I0 C st a w f)
    (hR : RunsN T by_ ann Φ m (opConvert T st o.dst src dst (ev st.env x) K) r X) : OpDone T by_ ann Φ P w0 E I0 o a w m K r X := by
  have hx := ev_rep hI.env x
  unfold opConvert at hR
  split at hR
  · exact hR.bad.elim
  rename_i hsrc
  obtain ⟨ds, hds⟩ := hT.some hsrc
  split at hR
  · rename_i k k' n hk ex
    rw [ex] at hx
    refine OpDone.value hI (Nat.le_refl _) hR ?_ (.v z0)
    simp [execOp, hop, convert, run_underlying hds, run_underlying (hT.int hk), inv_v hx, Conv.intToInt]
  · rename_i s hk ex
    rw [ex] at hx
    refine OpDone.value hI (Nat.le_refl _) hR ?_ (.v z0)
    simp [execOp, hop, convert, run_underlying hds, run_underlying (hT.string hk), inv_v hx]
  · rename_i e s hk ex
    rw [ex] at hx
    have hv := inv_v hx
    split at hR
    case h_2 => exact hR.bad.elim
    rename_i hke hfr
    obtain ⟨m', rfl, hp, hR⟩ := hR.chk
    have hp := of_decide_eq_true hp
    have hge : s.size ≤ grownCap w s.size 0 e := grownCap_ge w s.size 0 e
    obtain ⟨n, hn⟩ : ∃ n, grownCap w s.size 0 e = n := ⟨_, rfl⟩
    rw [hn] at hge
    obtain ⟨c, hc⟩ : ∃ c : Array Value, c = (s.data.map fun b : UInt8 => (.int .u8 b.toNat : Value)) ++ Array.replicate (n - s.size) (.int .u8 0) := ⟨_, rfl⟩
    have hsz : c.size = n := by
      rw [hc]
      simp only [Array.size_append, Array.size_map, Array.size_replicate]
      show s.size + _ = _
      omega
    have hrun : (execOp a.eval o).run P w = .ok (.value (.slice (some ⟨w.heap.size, 0, none⟩) s.size n)) (w.drew.alloc (.cells c e (n, n + 1))) := by
      have hfz := freeze_alloc (w := w.drew) (c := c) (e := e) n
      have := Lib.run_convert_string_bytes w src dst e s hds (hT.slice hk) (hT.int hke)
      simp only [Lib.bytesWorld, Lib.bytesCells, hn, ← hc, hsz] at this
      simp only [execOp, hop, hv, Sem.run_bind, this, Result.andThen_ok, Sem.run_pure]
      rw [← hfz]
      rfl
    have hfl := bytes_flat s.data.toList
    have hct : c.toList.take (s.data.toList.map byteA).length = s.data.toList.map (fun u : UInt8 => (.int .u8 u.toNat : Value)) := by
      rw [hc]
      simp
    have hlen : (s.data.toList.map byteA).length = s.size := by simp
    obtain ⟨f', hI', t'⟩ := hI.drew.toG.alloc (k := keyOf o.dst) (n := 1) (cap := n) (box := false) (es := s.data.toList.map byteA) (c := c) (e := e) (fz := (n, n + 1)) (gx := fun _ => 0) (g1 := fun _ => 0)
      hfr (fun _ => rfl) (by intro y hy; obtain ⟨u, _, rfl⟩ := List.mem_map.1 hy; rfl) (by rw [hlen]; exact hge) (by omega) (by intro q hq h; omega)
      (by
        rw [Nat.mul_one, hct]
        intro v hv
        obtain ⟨u, _, rfl⟩ := List.mem_map.1 hv
        rfl) (fun h => by cases h)
      (by rw [Nat.mul_one, hct, hfl]; exact vs_rep _)
    have i3 := hI'.inv fun _ => rfl
    refine ⟨m', _, _, _, _, _, _, Nat.le_succ _, hR, hrun, .inl rfl, i3.dst o.dst ?_⟩
    refine .ms (blk := ⟨true, 1, false, s.data.toList.map byteA⟩) (by simp [Ctx.up]) rfl (fun _ => ⟨by simp only [hlen]; exact Nat.le_refl _, fun _ => ?_⟩) z0
    exact ⟨_, _, rfl, hge, by simp [Ctx.up], by simp, fun _ => by simp [Ctx.up]⟩
  · rename_i hk hns
    split at hR
    case h_2 => exact hR.bad.elim
    rename_i e es hks hes
    split at hR
    case h_2 => exact hR.bad.elim
    rename_i hke
    split at hR
    case isFalse => exact hR.bad.elim
    rename_i hb
    obtain ⟨sa, cap, hv, ns, hns', hld⟩ := elems_read (P := P) hI hes hb
    refine OpDone.value hI (Nat.le_refl _) hR (v := .string ⟨(es.map byteOf).toArray⟩) ?_ (.v z0)
    have hby : es.map byteOf = ns.map fun n => UInt8.ofNat n.toNat := by
      rw [hns', List.map_map]
      rfl
    have h1 := run_convert_bytes_string w src dst e sa es.length cap (hT.slice hks) (hT.int hke) (hT.string hk)
    simp only [execOp, hop, hv, Sem.run_bind, h1]
    have h2 : (Conv.bytesToString (.slice sa es.length cap)).run P w = .ok (.string ⟨(es.map byteOf).toArray⟩) w := by
      cases sa with
      | none =>
        have h0 : es.length = 0 := by
          rcases Nat.eq_zero_or_pos es.length with h | h
          · exact h
          · obtain ⟨ad, had, _⟩ := hld h
            cases had
        rw [List.length_eq_zero_iff.1 h0]
        rfl
      | some ad =>
        have hl : (loadCells ad es.length).run P w = .ok (ns.map (Value.int .u8)).toArray w := by
          rcases Nat.eq_zero_or_pos es.length with h | h
          · have : ns = [] := by
              have := congrArg List.length hns'
              simp only [List.length_map, h] at this
              exact List.length_eq_zero_iff.1 this.symm
            rw [h, this]
            rfl
          · obtain ⟨ad', had, hl⟩ := hld h
            cases had
            exact hl
        rw [run_bytesToString w ad es.length cap ns hl, push_all, hby]
        simp
    rw [h2]
    rfl
  · exact hR.bad.elim

theorem buildFill_ok {place : Nat → Option (Nat × Nat)} {fs : List (Nat × Nat × Nat)} (hI : Inv w0 E I0 C st a w f) (hpl : ∀ i off size ft, fs[i]? = some (off, size, ft) → place i = some (off, size)) :
    ∀ (ps : List (Nat × Operand)) (cs cs' : List A) (xs : Array Value), buildCells fs cs (ps.map fun p => (p.1, ev st.env p.2)) = some cs' → (RepL C w cs xs.toList fun _ => 0) →
      ∃ xs' : Array Value, Instr.fill place xs (ps.map fun p => (p.1, a.eval p.2)) = some xs' ∧ RepL C w cs' xs'.toList fun _ => 0
  | [], cs, cs', xs, h, hr => by
    simp [buildCells] at h
    subst h
    exact ⟨xs, rfl, hr⟩
  | (i, x) :: ps, cs, cs', xs, h, hr => by
    simp only [List.map_cons, buildCells] at h
    split at h
    case h_2 => simp at h
    rename_i off size ft hfs
    split at h
    case isFalse => simp at h
    rename_i hc
    obtain ⟨h1, h2, h3⟩ := hc
    obtain ⟨r1, r2⟩ := rep_cells h3 (ev_rep hI.env x)
    have hxs : (a.eval x).cells.size = size := by have := r1.length; simp at this; omega
    have hl := hr.length
    simp only [Array.length_toList] at hl
    obtain ⟨f', hf', r3⟩ := hr.swap r1 h1 h2
    have hz : ∀ b, f' b = 0 := fun b => by have := hf' b; omega
    have r3 := r3.congr (g := fun _ => 0) fun b => (hz b).symm
    have hfl := foldl_set off (a.eval x).cells.toList 0 xs (by simp [hxs]; omega)
    simp only [Nat.add_zero, Array.length_toList, hxs] at hfl
    rw [← hfl, ← h1, ← setCells_eq _ _ _ (by omega)] at r3
    obtain ⟨xs', e1, e2⟩ := buildFill_ok hI hpl ps _ cs' _ h r3
    refine ⟨xs', ?_, e2⟩
    have hcond : ¬ ((decide ((a.eval x).cells.size ≠ size) || decide (off + (a.eval x).cells.size > xs.size)) = true) := by rw [hxs]; simp; omega
    simp only [List.map_cons, Instr.fill, hpl _ _ _ _ hfs]
    rw [if_neg hcond]
    have hfe : (a.eval x).cells.zipIdx.foldl (fun cs (c, j) => cs.setIfInBounds (off + j) c) xs = ((a.eval x).cells.toList.zipIdx 0).foldl (setAt off) xs := by
      rw [← Array.foldl_toList, Array.toList_zipIdx]
      rfl
    have hfe' : Array.foldl (fun cs x => cs.setIfInBounds (off + x.snd) x.fst) xs (a.eval x).cells.zipIdx = ((a.eval x).cells.toList.zipIdx 0).foldl (setAt off) xs := hfe
    rw [hfe']
    exact e1

theorem build_ok {t : TypeId} {ps : Array (Nat × Operand)} (hop : o.op = .build t ps) (hT : TabOk P T) (hI : Inv w0 E I0 C st a w f)
    (hR : RunsN T by_ ann Φ m (opBuild T st o.dst t (ps.toList.map fun p => (p.1, ev st.env p.2)) K) r X) : OpDone T by_ ann Φ P w0 E I0 o a w m K r X := by
  have hparts : (ps.map fun x => (x.1, a.eval x.2)).toList = ps.toList.map fun p => (p.1, a.eval p.2) := by simp
  have done : ∀ {cs : List A} {xs : Array Value}, P.built t (ps.toList.map fun p => (p.1, a.eval p.2)) = some xs → (RepL C w cs xs.toList fun _ => 0) → RunsN T by_ ann Φ m (K (st.dst o.dst (.agg cs))) r X →
      OpDone T by_ ann Φ P w0 E I0 o a w m K r X := by
    intro cs xs h1 h2 h3
    refine OpDone.value hI (Nat.le_refl _) h3 (v := .agg xs) ?_ (.agg (ys := xs.toList) (fun b => rfl) h2 z0)
    have := run_build w t (ps.map fun x => (x.1, a.eval x.2)) xs (by rw [hparts]; exact h1)
    simp only [execOp, hop, Sem.run_bind, this, Result.andThen_ok, Sem.run_pure]
  unfold opBuild at hR
  simp only at hR
  split at hR
  · rename_i fs hk
    split at hR
    case h_2 => exact hR.bad.elim
    rename_i cs hcs
    obtain ⟨i, d, z, row⟩ := hT.ofKind (t := t) (by rw [hk]; simp)
    obtain ⟨gs, hu, hfs, hne⟩ := hT.struct hk
    have hpl : gs.toList.mapM (fun f => (P.info? f.type).map fun i => (f.offset, i.size)) = some (fs.map fun f => (f.1, f.2.1)) := by
      rw [hfs, List.map_map]
      refine mapM_some_of_forall _ fun g hg => ?_
      have hn := hne (g.offset, P.cellsOf g.type, g.type) (by rw [hfs]; exact List.mem_map.2 ⟨g, hg, rfl⟩)
      unfold Program.cellsOf at hn ⊢
      cases hi : P.info? g.type with
      | none => simp [hi] at hn
      | some i => simp [hi, Function.comp]
    have hz : RepL C w ((T.row t).zero.map .v) z.cells.toList fun _ => 0 := by rw [row.zeros]; exact vs_rep _
    obtain ⟨xs, e1, e2⟩ := buildFill_ok (place := fun i => ((fs.map fun f => (f.1, f.2.1)).toArray)[i]?) hI (by intro i off size ft h; simp [h]) ps.toList _ cs z.cells hcs hz
    refine done ?_ e2 hR
    simp only [Program.built, row.info, hu, row.zero, hpl]
    exact e1
  · rename_i n e hk
    split at hR
    case h_2 => exact hR.bad.elim
    rename_i cs hcs
    split at hcs
    case isFalse => simp at hcs
    rename_i he0
    obtain ⟨i, d, z, row⟩ := hT.ofKind (t := t) (by rw [hk]; simp)
    obtain ⟨i', d', z', row'⟩ := hT.get he0
    have hz : RepL C w ((T.row t).zero.map .v) z.cells.toList fun _ => 0 := by rw [row.zeros]; exact vs_rep _
    obtain ⟨xs, e1, e2⟩ := buildFill_ok (place := fun i => some (i * i'.size, i'.size)) hI (by
      intro j off size ft h
      simp only [List.getElem?_map, Option.map_eq_some_iff] at h
      obtain ⟨q, hq, h⟩ := h
      simp only [Prod.mk.injEq] at h
      have hj : q = j := by
        rw [List.getElem?_range] at hq
        · simpa using hq.symm
        · have := (List.getElem?_eq_some_iff.1 hq).1; simpa using this
      rw [← hj, ← h.1, ← h.2.1, row'.size]) ps.toList _ cs z.cells hcs hz
    refine done ?_ e2 hR
    simp only [Program.built, row.info, hT.array hk, row.zero, row'.info]
    exact e1
  · exact hR.bad.elim
end
end Go.AM

/- What is handed to a call, by its content; what a call tells. -/
namespace Go.AM
open Go

theorem dn_cells (a : A) : a.dn.cells = dnL a.cells := by
  cases a <;> simp [A.dn, A.cells, dnL]

theorem dnL_append (l m : List A) : dnL (l ++ m) = dnL l ++ dnL m := by
  induction l with
  | nil => rfl
  | cons a l ih => simp [dnL, ih]

theorem dnL_eq (l : List A) : dnL l = l.map A.dn := by
  induction l with
  | nil => rfl
  | cons a l ih => simp [dnL, ih]

theorem flat_dn (es : List A) : flat (dnL es) = dnL (flat es) := by
  induction es with
  | nil => rfl
  | cons a l ih =>
    simp only [flat, dnL, List.flatMap_cons] at *
    rw [ih, dn_cells, dnL_append]

theorem dn_k {es : List A} {k : Nat} (hk : ∀ x ∈ es, x.cells.length = k) : ∀ x ∈ dnL es, x.cells.length = k := by
  intro x hx
  rw [dnL_eq] at hx
  obtain ⟨y, hy, rfl⟩ := List.mem_map.1 hx
  rw [dn_cells, dnL_eq, List.length_map, hk y hy]

theorem dn_length (es : List A) : (dnL es).length = es.length := by rw [dnL_eq, List.length_map]

section
variable {C D : Ctx} {w : World}

/-- Data, told as shared: where all that they lie in is not written. -/
theorem RepL.dn {l xs f} (h : RepL C w l xs f) (hI : ∀ b, C.I b ∨ 1 ≤ f b → D.I b) : RepL D w (dnL l) xs fun _ => 0 := by
  induction h generalizing D with
  | nil h => exact z0
  | any _ ih => exact .any (ih hI)
  | v _ ih => exact .v (ih hI)
  | ifc _ ih => exact .ifc (ih hI)
  | agg hf _ _ ih1 ih => exact .agg (fun _ => rfl) (ih1 fun b hb => hI b (hb.imp id fun h => by rw [hf]; omega)) (ih fun b hb => hI b (hb.imp id fun h => by rw [hf]; omega))
  | tup hf _ _ ih1 ih => exact .any (ih fun b hb => hI b (hb.imp id fun h => by rw [hf]; omega))
  | nils _ ih => exact .nils (ih hI)
  | sl hrow hsp hk hcap hsz hI' hs ho hf h1 _ ih1 ih =>
    rw [← dn_length] at hcap hsz ho
    have := ih1 (D := D.bare) (fun b hb => hI b (.inl (hb.resolve_right (by rw [hf]; omega))))
    rw [← flat_dn] at this
    simp only [dnL, A.dn]
    rw [← dn_length]
    rw [← dn_length] at this
    exact .sl hrow hsp (dn_k hk) hcap hsz (hI _ (.inl hI')) (.inl rfl) ho (fun _ => rfl) this (ih hI)
  | @ow _ _ k es a cap c e fz r xs f f1 f2 hrow hsp hk hcap hsz hF hfz ho hf h1 _ ih1 ih =>
    have hle : es.length * k ≤ cap * k := Nat.mul_le_mul_right _ hcap
    have hsz' : a.off + es.length * k ≤ c.size := by omega
    rw [← dn_length] at hcap hsz' ho
    have := ih1 (D := D.bare) (fun b hb => hI b (hb.imp id fun h => by rw [hf]; omega))
    rw [← flat_dn] at this
    simp only [dnL, A.dn]
    rw [← dn_length]
    rw [← dn_length] at this
    exact .sl hrow hsp (dn_k hk) hcap hsz' (hI _ (.inr (by rw [hf]; simp; omega))) (.inl rfl) ho (fun _ => rfl) this (ih fun b hb => hI b (hb.imp id fun h => by rw [hf]; omega))
  | ms hb h1 hm _ ih => exact .any (ih hI)
  | ref hb h1 hm _ ih => exact .any (ih hI)
  | ptr hrow hsp hk hsz hI' hi ho hf h1 _ ih1 ih =>
    rw [← dn_length] at hsz hi ho
    have := ih1 (D := D.bare) (fun b hb => hI b (.inl (hb.resolve_right (by rw [hf]; omega))))
    rw [← flat_dn] at this
    simp only [dnL, A.dn]
    rw [← dn_length] at this
    exact .ptr hrow hsp (dn_k hk) hsz (hI _ (.inl hI')) hi ho (fun _ => rfl) this (ih hI)
  | fn _ _ _ _ _ _ _ ih => exact .any (ih hI)

/-- Data of a context without blocks, in another one. -/
theorem RepL.re {l xs f} (h : RepL C w l xs f) (hB : ∀ i, C.B i = none) (hI : ∀ b, C.I b → D.I b) (hF : D.F ≤ C.F) : RepL D w l xs f := by
  induction h generalizing D with
  | nil h => exact .nil h
  | any _ ih => exact .any (ih hB hI hF)
  | v _ ih => exact .v (ih hB hI hF)
  | ifc _ ih => exact .ifc (ih hB hI hF)
  | agg hf _ _ ih1 ih => exact .agg hf (ih1 hB hI hF) (ih hB hI hF)
  | tup hf _ _ ih1 ih => exact .tup hf (ih1 hB hI hF) (ih hB hI hF)
  | nils _ ih => exact .nils (ih hB hI hF)
  | sl hrow hsp hk hcap hsz hI' hs ho hf h1 _ ih1 ih => exact .sl hrow hsp hk hcap hsz (hI _ hI') (hs.imp id fun h => ⟨h.1, by omega⟩) ho hf (ih1 (D := D.bare) (fun _ => rfl) hI hF) (ih hB hI hF)
  | ow hrow hsp hk hcap hsz hF' hfz ho hf h1 _ ih1 ih => exact .ow hrow hsp hk hcap hsz (by omega) hfz ho hf (ih1 (D := D.bare) (fun _ => rfl) hI hF) (ih hB hI hF)
  | ms hb h1 hm _ ih => rw [hB] at hb; cases hb
  | ref hb h1 hm _ ih => rw [hB] at hb; cases hb
  | ptr hrow hsp hk hsz hI' hi ho hf h1 _ ih1 ih => exact .ptr hrow hsp hk hsz (hI _ hI') hi ho hf (ih1 (D := D.bare) (fun _ => rfl) hI hF) (ih hB hI hF)
  | fn hf1 hf2 _ _ _ ih1 ih2 ih => exact .fn hf1 hf2 (ih1 hB hI hF) (ih2 hB hI hF) (ih hB hI hF)

theorem freeL_append {l m : List A} : freeL (l ++ m) = (freeL l && freeL m) := by
  induction l with
  | nil => rfl
  | cons a l ih => simp [freeL, ih, Bool.and_assoc]
theorem free_cells {a : A} (h : a.free = true) : freeL a.cells = true := by
  cases a <;> simp_all [A.free, A.cells, freeL]
theorem free_flat {es : List A} (h : freeL es = true) : freeL (flat es) = true := by
  induction es with
  | nil => rfl
  | cons a l ih =>
    simp only [freeL, Bool.and_eq_true] at h
    simp only [flat, List.flatMap_cons] at *
    rw [freeL_append, ih h.2, free_cells h.1]
    rfl

/-- Data that share nothing with what was there before. -/
theorem RepL.reF {l xs f} (h : RepL C w l xs f) (hl : freeL l = true) (hI : ∀ b, C.I b → C.F ≤ b → D.I b) (hF : D.F ≤ C.F) : RepL D w l xs f := by
  induction h generalizing D with
  | nil h => exact .nil h
  | any _ ih => simp [freeL, A.free] at hl
  | v _ ih => exact .v (ih (by simpa [freeL, A.free] using hl) hI hF)
  | ifc _ ih => exact .ifc (ih (by simpa [freeL, A.free] using hl) hI hF)
  | agg hf _ _ ih1 ih =>
    simp only [freeL, A.free, Bool.and_eq_true] at hl
    exact .agg hf (ih1 hl.1 hI hF) (ih hl.2 hI hF)
  | tup hf _ _ ih1 ih =>
    simp only [freeL, A.free, Bool.and_eq_true] at hl
    exact .tup hf (ih1 hl.1 hI hF) (ih hl.2 hI hF)
  | nils _ ih =>
    simp only [freeL, A.free, Bool.and_eq_true] at hl
    exact .nils (ih hl.2 hI hF)
  | sl hrow hsp hk hcap hsz hI' hs ho hf h1 _ ih1 ih =>
    simp only [freeL, A.free, Bool.and_eq_true, bne_iff_ne, ne_eq] at hl
    have hs := hs.resolve_left hl.1.1
    exact .sl hrow hsp hk hcap hsz (hI _ hI' hs.2) (.inr ⟨hs.1, by omega⟩) ho hf (ih1 (D := D.bare) (free_flat hl.1.2) hI hF) (ih hl.2 hI hF)
  | ow hrow hsp hk hcap hsz hF' hfz ho hf h1 _ ih1 ih =>
    simp only [freeL, A.free, Bool.and_eq_true, bne_iff_ne, ne_eq] at hl
    exact .ow hrow hsp hk hcap hsz (by omega) hfz ho hf (ih1 (D := D.bare) (free_flat hl.1.2) hI hF) (ih hl.2 hI hF)
  | ms hb h1 hm _ ih => simp [freeL, A.free] at hl
  | ref hb h1 hm _ ih => simp [freeL, A.free] at hl
  | ptr hrow hsp hk hsz hI' hi ho hf h1 _ ih1 ih => simp [freeL, A.free] at hl
  | fn hf1 hf2 _ _ _ ih1 ih2 ih => simp [freeL, A.free] at hl

end

def isMs : A → Bool
  | .ms .. => true
  | .ref .. => true
  | _ => false

section
variable {w0 : World} {E I0 : Nat → Prop} {C D : Ctx} {st : St} {a : Act} {w : World} {f : Nat → Nat}

theorem argC_ok {b b' : A} {x : Value} (h : argC st b = some b') (hI : Inv w0 E I0 C st a w f) (hx : Rep1 C w b x fun _ => 0) (hD : ∀ n, C.I n → D.I n) (hm : isMs b = true → ∀ n, 1 ≤ f n → D.I n) :
    Rep1 D w b' x fun _ => 0 := by
  have dn1 : Rep1 D w b.dn x fun _ => 0 := RepL.dn hx fun n hn => hD n (hn.resolve_right (by omega))
  unfold argC at h
  split at h
  · simp at h; subst h; exact dn1
  · simp at h; subst h; exact dn1
  · simp at h; subst h; exact dn1
  · rename_i i off len tot
    split at h
    case h_2 => simp at h
    rename_i blk hb
    split at h
    case isFalse => simp at h
    rename_i hc
    obtain ⟨hbx, htot, hle⟩ := hc
    simp at h
    subst h
    have hl : st.live i tot = true := by simp [St.live, hb, htot]
    obtain ⟨blk', hB, hon, ht, sa, cp, rfl, g2, g3, g4, g5⟩ := hI.msOk hl hx
    have hB' := (hI.get hb).2.1
    rw [hB] at hB'; cases hB'
    have hlen : ((blk.es.drop off).take len).length = len := by simp; omega
    by_cases h0 : 0 < cp
    · have g5 := g5 h0
      subst g5
      rcases hI.blk hb with ⟨he0, hcap⟩ | ⟨fb, ⟨c, e, fz, k1, k2, k3, k4, k5, kbx, k6, k7⟩, hfb⟩
      · rw [hcap] at g3; omega
      · have hown : ∀ n, 1 ≤ f n → D.I n := hm rfl
        have hlk : (off + len) * blk.k ≤ blk.es.length * blk.k := Nat.mul_le_mul_right _ (by omega)
        have hck : blk.es.length * blk.k ≤ (C.μ i).cap * blk.k := Nat.mul_le_mul_right _ k4
        rw [Nat.add_mul] at hlk
        obtain ⟨fx, hfx, hr'⟩ := k7.extract (off * blk.k) (len * blk.k) (by rw [flat_length k3]; exact hlk)
        rw [← flat_sub k3 off len] at hr'
        have e3 : (((c.toList.drop (C.μ i).base).take (blk.es.length * blk.k)).drop (off * blk.k)).take (len * blk.k) = (c.toList.drop ((C.μ i).base + off * blk.k)).take (len * blk.k) := by
          rw [List.drop_take, List.drop_drop, List.take_take, Nat.min_eq_left (by omega)]
        rw [e3] at hr'
        have hr2 : RepL D.bare w (dnL (flat ((blk.es.drop off).take len))) _ fun _ => 0 := hr'.dn (D := D.bare) fun n hn => hn.elim (fun h => hD n (by rw [Ctx.for_I] at h; exact h)) fun h1 => hown n (by have := hfx n; have := hfb n; omega)
        rw [← flat_dn] at hr2
        have hones : Ones ((c.toList.drop ((C.μ i).base + off * blk.k)).take (len * blk.k)) := by
          rw [← e3]
          intro v hv
          exact k6 v (List.mem_of_mem_drop (List.mem_of_mem_take hv))
        have hk' : ∀ x ∈ (blk.es.drop off).take len, x.cells.length = blk.k := fun x hx => k3 x (List.mem_of_mem_drop (List.mem_of_mem_take hx))
        have hlen' := dn_length ((blk.es.drop off).take len)
        rw [hlen] at hlen'
        have : RepL D w [.sl .sh (dnL ((blk.es.drop off).take len))] [.slice (some ⟨(C.μ i).blk, (C.μ i).base + off * blk.k, none⟩) (dnL ((blk.es.drop off).take len)).length cp] fun _ => 0 :=
          .sl (a := ⟨(C.μ i).blk, (C.μ i).base + off * blk.k, none⟩) (k := blk.k) k1 rfl (dn_k hk') (by rw [hlen']; exact g2) (by rw [hlen']; show (C.μ i).base + off * blk.k + len * blk.k ≤ _; omega)
            (hown (C.μ i).blk (by have := hfb (C.μ i).blk; simp at this; omega)) (.inl rfl) (by rw [hlen']; exact hones) (fun _ => rfl) (by rw [hlen']; exact hr2) z0
        rw [hlen'] at this
        exact this
    · have h1 : cp = 0 := by omega
      have h2 : len = 0 := by omega
      subst h1 h2
      simp only [List.take_zero, dnL]
      exact .nils z0
  · simp at h; subst h; exact dn1
  · simp at h

theorem argC_cells {b b' : A} (h : argC st b = some b') : b'.cells = [b'] := by
  unfold argC at h
  split at h
  · simp at h; subst h; rfl
  · simp at h; subst h; rfl
  · simp at h; subst h; rfl
  · split at h
    · split at h
      · simp at h; subst h; rfl
      · simp at h
    · simp at h
  · simp at h; subst h; rfl
  · simp at h

theorem argL_ok : ∀ {l l' : List A} {xs : List Value} (_ : argL st l = some l') (_ : Inv w0 E I0 C st a w f) (_ : RepL C w l xs fun _ => 0) (_ : ∀ n, C.I n → D.I n)
    (_ : (l.any isMs) = true → ∀ n, 1 ≤ f n → D.I n), RepL D w l' xs fun _ => 0
  | [], l', xs, h, hI, hx, hD, hm => by
    simp [argL] at h
    subst h
    cases hx
    exact z0
  | b :: l, l', xs, h, hI, hx, hD, hm => by
    simp only [argL] at h
    split at h
    case h_2 => simp at h
    rename_i b1 h1
    split at h
    case h_2 => simp at h
    rename_i l1 h2
    simp at h
    subst h
    obtain ⟨x, ys, rfl, r1, r2⟩ := hx.cons0
    exact (argC_ok h1 hI r1 hD fun e => hm (by simp [e])).cons0 (argL_ok h2 hI r2 hD fun e => hm (by simp only [List.any_cons, Bool.or_eq_true]; exact .inr e))

theorem argL_length : ∀ {l l' : List A}, argL st l = some l' → l'.length = l.length
  | [], l', h => by simp [argL] at h; subst h; rfl
  | b :: l, l', h => by
    simp only [argL] at h
    split at h
    case h_2 => simp at h
    split at h
    case h_2 => simp at h
    rename_i l1 h2
    simp at h
    subst h
    simp [argL_length h2]

theorem capC_ok {b b' : A} {x : Value} (h : capC st b = some b') (hI : Inv w0 E I0 C st a w f) (hx : Rep1 C w b x fun _ => 0) (hD : ∀ n, C.I n → D.I n) (hm : isMs b = true → ∀ n, 1 ≤ f n → D.I n) :
    Rep1 D w b' x fun _ => 0 := by
  unfold capC at h
  split at h
  case h_2 => exact argC_ok h hI hx hD hm
  rename_i i
  have hown : ∀ n, 1 ≤ f n → D.I n := hm rfl
  split at h
  case h_2 => simp at h
  rename_i blk hb
  split at h
  case h_2 => simp at h
  rename_i e hes
  split at h
  case isFalse => simp at h
  rename_i hbx
  have hl : st.live i 1 = true := by simp [St.live, hb, hes]
  obtain ⟨blk', hB, hon, ht, rfl, hlt⟩ := hI.refOk hl hx
  have hB' := (hI.get hb).2.1
  rw [hB] at hB'; cases hB'
  rcases hI.blk hb with ⟨he0, hcap⟩ | ⟨fb, ⟨c, e', fz, k1, k2, k3, k4, k5, kbx, k6, k7⟩, hfb⟩
  · rw [he0] at hes; cases hes
  have h1k : blk.es.length * blk.k = blk.k := by rw [← ht, Nat.one_mul]
  have hck : blk.es.length * blk.k ≤ (C.μ i).cap * blk.k := Nat.mul_le_mul_right _ k4
  rw [h1k] at k6 k7 hck
  have k7 := RepL.to (k7.congr (g := fun _ => 0) fun n => (kbx hbx n).symm) (C.forTo _)
  have hek : e.cells.length = blk.k := k3 e (by rw [hes]; exact List.mem_singleton.2 rfl)
  have hfe : flat blk.es = e.cells := by rw [hes]; simp [flat]
  rw [hfe] at k7
  have hDI : D.I (C.μ i).blk := hown _ (by have := hfb (C.μ i).blk; simp at this; omega)
  have mk : ∀ d : A, d.cells.length = blk.k → (RepL D.bare w d.cells ((c.toList.drop (C.μ i).base).take blk.k) fun _ => 0) → Rep1 D w (.ptr [d] 0 0) (.pointer (some ⟨(C.μ i).blk, (C.μ i).base + 0 * blk.k + 0, none⟩)) fun _ => 0 := by
    intro d hd hr
    refine .ptr (a := ⟨(C.μ i).blk, (C.μ i).base, none⟩) (k := blk.k) k1 rfl (by intro y hy; rw [List.mem_singleton.1 hy, hd]) ?_ hDI (by simp) ?_ (fun _ => rfl) ?_ z0
    · simp only [List.length_singleton, Nat.one_mul]; omega
    · simp only [List.length_singleton, Nat.one_mul]; exact k6
    · simp only [List.length_singleton, Nat.one_mul]; simpa [flat] using hr
  split at h
  · rename_i cs
    simp only [Option.map_eq_some_iff] at h
    obtain ⟨ds, hds, rfl⟩ := h
    exact mk (.agg ds) (by show ds.length = _; rw [argL_length hds]; exact hek) (argL_ok (D := D.bare) hds hI k7 hD fun _ => hown)
  · rename_i e2 hne
    simp only [Option.map_eq_some_iff] at h
    obtain ⟨d, hd, rfl⟩ := h
    have hec : e.cells = [e] := by
      cases e <;> first | rfl | exact (hne _ rfl).elim
    rw [hec] at k7 hek
    have hdc := argC_cells hd
    refine mk d (by rw [hdc]; exact hek) ?_
    rw [hdc]
    have := argL_ok (D := D.bare) (l := [e]) (l' := [d]) (by simp [argL, hd]) hI k7 hD fun _ => hown
    exact this

theorem capL_ok : ∀ {l l' : List A} {xs : List Value} (_ : capL st l = some l') (_ : Inv w0 E I0 C st a w f) (_ : RepL C w l xs fun _ => 0) (_ : ∀ n, C.I n → D.I n)
    (_ : (l.any isMs) = true → ∀ n, 1 ≤ f n → D.I n), RepL D w l' xs fun _ => 0
  | [], l', xs, h, hI, hx, hD, hm => by
    simp [capL] at h
    subst h
    cases hx
    exact z0
  | b :: l, l', xs, h, hI, hx, hD, hm => by
    simp only [capL] at h
    split at h
    case h_2 => simp at h
    rename_i b1 h1
    split at h
    case h_2 => simp at h
    rename_i l1 h2
    simp at h
    subst h
    obtain ⟨x, ys, rfl, r1, r2⟩ := hx.cons0
    exact (capC_ok h1 hI r1 hD fun e => hm (by simp [e])).cons0 (capL_ok h2 hI r2 hD fun e => hm (by simp only [List.any_cons, Bool.or_eq_true]; exact .inr e))

theorem inv_fn {g fs cs x} (h : Rep1 C w (.fn g fs cs) x fun _ => 0) : ∃ ys zs : List Value, x = .func g ys.toArray zs.toArray ∧ (RepL C w fs ys fun _ => 0) ∧ RepL C w cs zs fun _ => 0 := by
  cases h with
  | fn hf1 hf2 h1 h2 h => exact ⟨_, _, rfl, h1.congr fun b => (hf1 b).symm, h2.congr fun b => (hf2 b).symm⟩

theorem argA_ok {b b' : A} {x : Value} (h : argA st b = some b') (hI : Inv w0 E I0 C st a w f) (hx : Rep1 C w b x fun _ => 0) (hD : ∀ n, C.I n → D.I n) (hm : hasMs b = true → ∀ n, 1 ≤ f n → D.I n) :
    Rep1 D w b' x fun _ => 0 := by
  unfold argA at h
  split at h
  · rename_i cs
    simp only [Option.map_eq_some_iff] at h
    obtain ⟨ds, hds, rfl⟩ := h
    obtain ⟨ys, rfl, h1⟩ := inv_agg hx
    refine .agg (fun _ => rfl) (argL_ok hds hI h1 hD fun e => hm ?_) z0
    simp only [hasMs]
    rw [List.any_eq_true] at e ⊢
    obtain ⟨y, hy, e⟩ := e
    exact ⟨y, hy, by cases y <;> simp_all [isMs]⟩
  · rename_i g fs cs
    split at h
    case h_2 => simp at h
    rename_i fs' cs' h1 h2
    simp at h
    subst h
    obtain ⟨ys, zs, rfl, r1, r2⟩ := inv_fn hx
    refine .fn (fun _ => rfl) (fun _ => rfl) (argL_ok h1 hI r1 hD fun e => hm ?_) (capL_ok h2 hI r2 hD fun e => hm ?_) z0
    · simp only [hasMs, Bool.or_eq_true]
      left
      rw [List.any_eq_true] at e ⊢
      obtain ⟨y, hy, e⟩ := e
      exact ⟨y, hy, by cases y <;> simp_all [isMs]⟩
    · simp only [hasMs, Bool.or_eq_true]
      right
      rw [List.any_eq_true] at e ⊢
      obtain ⟨y, hy, e⟩ := e
      exact ⟨y, hy, by cases y <;> simp_all [isMs]⟩
  · rename_i h1 h2
    refine argC_ok h hI hx hD fun e => hm ?_
    cases b <;> simp_all [isMs, hasMs]

theorem argAs_ok : ∀ {l l' : List A} {xs : List Value} (_ : argAs st l = some l') (_ : Inv w0 E I0 C st a w f) (_ : RepL C w l xs fun _ => 0) (_ : ∀ n, C.I n → D.I n)
    (_ : (l.any hasMs) = true → ∀ n, 1 ≤ f n → D.I n), RepL D w l' xs fun _ => 0
  | [], l', xs, h, hI, hx, hD, hm => by
    simp [argAs] at h
    subst h
    cases hx
    exact z0
  | b :: l, l', xs, h, hI, hx, hD, hm => by
    simp only [argAs] at h
    split at h
    case h_2 => simp at h
    rename_i b1 h1
    split at h
    case h_2 => simp at h
    rename_i l1 h2
    simp at h
    subst h
    obtain ⟨x, ys, rfl, r1, r2⟩ := hx.cons0
    exact (argA_ok h1 hI r1 hD fun e => hm (by simp [e])).cons0 (argAs_ok h2 hI r2 hD fun e => hm (by simp only [List.any_cons, Bool.or_eq_true]; exact .inr e))
end
end Go.AM

/- A call's answer comes in. -/
namespace Go.AM
open Go

section
variable {w0 : World} {E I0 : Nat → Prop} {C : Ctx} {st : St} {a : Act} {w : World} {f g : Nat → Nat}

/-- What is held here alone gets a block of its own. -/
theorem InvG.adopt (h : InvG w0 E I0 C st a w f g) {k n : Nat} {es : List A} {x : Value} {gx g1 : Nat → Nat} (hk : findB st.mem k = none) (hx : Rep1 C w (.sl (.ow n) es) x gx) (hg : ∀ b, g b = g1 b + gx b) :
    ∃ C' f', InvG w0 E I0 C' (st.new k ⟨true, n, false, es⟩) a w f' g1 ∧ C.To C' ∧ (Rep1 C' w (.ms (.l k) 0 es.length es.length) x fun _ => 0) ∧ C'.I = C.I := by
  have hB : C.B (.l k) = none := by rw [h.raw]; exact hk
  obtain ⟨l1, l2, e1, e2⟩ := St.new_split (b := ⟨true, n, false, es⟩) hk
  have hm := h.mem
  have hnone := entries_none hk
  rw [e1] at hm hnone
  obtain ⟨f1, f2, hf, m1, m2⟩ := hm.split
  have hu : ((st.new k ⟨true, n, false, es⟩).entries.map (·.1)).Nodup := by
    have hu := h.uniq
    rw [e1] at hu
    rw [e2]
    simp only [List.map_append, List.map_cons] at hu ⊢
    refine (List.perm_middle.nodup_iff).2 (List.nodup_cons.2 ⟨fun hm => ?_, hu⟩)
    obtain ⟨p, hp, hp2⟩ := List.mem_map.1 (by rw [← List.map_append] at hm; exact hm)
    obtain ⟨q, b⟩ := p
    simp at hp2
    subst hp2
    exact hnone b hp
  cases hx with
  | @nils _ _ _ sa _ _ _ h0 =>
    cases h0 with
    | nil hz =>
    have t := Ctx.up_new (l := ⟨0, 0, 0⟩) (b := ⟨true, n, false, []⟩) hB
    have m1' := m1.up t fun b' hb' => absurd (List.mem_append_left _ hb') (hnone b')
    have m2' := m2.up t fun b' hb' => absurd (List.mem_append_right _ hb') (hnone b')
    refine ⟨C.up (.l k) ⟨0, 0, 0⟩ ⟨true, n, false, []⟩, f, {
                    defers := h.defers
                    raw := fun i => by rw [St.raw_new hk]; simp only [Ctx.up, h.raw]
                    first := h.first
                    below := h.below
                    old := h.old
                    keep := h.keep
                    extOn := h.extOn
                    uniq := hu
                    env := h.env.to t
                    same := h.same
                    one := fun b => by have := h.one b; have := hg b; omega
                    own := fun b hb => h.own b (by have := hg b; omega)
                    mem := by rw [e2]; exact m1'.app (MemR.nul rfl rfl (by simp [Ctx.up]) m2') hf }, t, ?_, rfl⟩
    refine .ms (blk := ⟨true, n, false, []⟩) (by simp [Ctx.up]) rfl (fun _ => ⟨by simp, fun _ => ?_⟩) z0
    exact ⟨_, _, rfl, by simp, by simp, by simp, fun h => by simp at h⟩
  | sl hrow hsp hkk hcap hsz hI hs ho hf' h1 h0 => exact absurd hs (by simp)
  | @ow _ _ _ _ ad cap c e fz _ _ _ q1 q2 hrow hsp hkk hcap hsz hF hfz ho hf' h1 h0 =>
    cases h0 with
    | nil hz =>
    have t := Ctx.up_new (l := ⟨ad.block, ad.off, cap⟩) (b := ⟨true, n, false, es⟩) hB
    have m1' := m1.up t fun b' hb' => absurd (List.mem_append_left _ hb') (hnone b')
    have m2' := m2.up t fun b' hb' => absurd (List.mem_append_right _ hb') (hnone b')
    have hbk : BlkOk (C.up (.l k) ⟨ad.block, ad.off, cap⟩ ⟨true, n, false, es⟩) w (.l k) ⟨true, n, false, es⟩ q1 := by
      refine ⟨c, e, fz, by simp only [Ctx.up, if_true]; exact hrow, ⟨hfz, fun _ _ => by simp only [Ctx.up, if_true]; exact hF⟩, hkk, ?_, ?_, (fun h => by cases h), ?_, ?_⟩
      · simpa [Ctx.up] using hcap
      · simpa [Ctx.up] using hsz
      · simpa [Ctx.up] using ho
      · simp only [Ctx.up, if_true]
        exact h1.to t.bare
    refine ⟨C.up (.l k) ⟨ad.block, ad.off, cap⟩ ⟨true, n, false, es⟩, fun b => f b + gx b, {
                    defers := h.defers
                    raw := fun i => by rw [St.raw_new hk]; simp only [Ctx.up, h.raw]
                    first := h.first
                    below := h.below
                    old := h.old
                    keep := h.keep
                    extOn := h.extOn
                    uniq := hu
                    env := h.env.to t
                    same := h.same
                    one := fun b => by have := h.one b; have := hg b; omega
                    own := fun b hb => h.own b (by have := hg b; omega)
                    mem := by
                      rw [e2]
                      refine m1'.app (MemR.row rfl hbk (fun b => rfl) m2') fun b => ?_
                      have := hf' b
                      have := hz b
                      have := hf b
                      simp only [Ctx.up, if_true]
                      omega }, t, ?_, rfl⟩
    refine .ms (blk := ⟨true, n, false, es⟩) (by simp [Ctx.up]) rfl (fun _ => ⟨Nat.le_refl _, fun _ => ?_⟩) z0
    refine ⟨_, _, rfl, hcap, by simp [Ctx.up], by simp, fun _ => ?_⟩
    obtain ⟨b0, o0, s0⟩ := ad
    simp only at hsp
    subst hsp
    simp [Ctx.up]

theorem one_z {a : A} {x : Value} (hx : Rep1 C w a x g) (ha : (∃ v, a = .v v) ∨ a = .ifc ∨ (∃ s es, a = .sl s es ∧ (s = .sh ∨ s = .fr))) : Rep1 C w a x fun _ => 0 := by
  rcases ha with ⟨v, rfl⟩ | rfl | ⟨s, es, rfl, hs⟩
  · cases hx with
    | v h => exact .v z0
  · cases hx with
    | ifc h => exact .ifc z0
  · cases hx with
    | nils h => exact .nils z0
    | sl hrow hsp hk hcap hsz hI hs ho hf h1 h => exact .sl hrow hsp hk hcap hsz hI hs ho hf h1 z0
    | ow hrow hsp hk hcap hsz hF hfz ho hf h1 h => rcases hs with h | h <;> cases h

theorem inC_ok {k : Nat} {b b' : A} {st' : St} {x : Value} {gx g1 : Nat → Nat} (h : inC st k b = some (b', st')) (hI : InvG w0 E I0 C st a w f g) (hx : Rep1 C w b x gx) (hg : ∀ n, g n = g1 n + gx n) :
    ∃ C' f', InvG w0 E I0 C' st' a w f' g1 ∧ C.To C' ∧ (Rep1 C' w b' x fun _ => 0) ∧ C'.I = C.I := by
  have same : (∃ v, b = .v v) ∨ b = .ifc ∨ (∃ s es, b = .sl s es ∧ (s = .sh ∨ s = .fr)) → b' = b → st' = st → ∃ C' f', InvG w0 E I0 C' st' a w f' g1 ∧ C.To C' ∧ (Rep1 C' w b' x fun _ => 0) ∧ C'.I = C.I := by
    intro h1 h2 h3
    subst h2 h3
    exact ⟨C, f, hI.congr fun n => by have := hg n; omega, .refl C, one_z hx h1, rfl⟩
  unfold inC at h
  split at h
  · rename_i n es
    split at h
    case h_2 => simp at h
    rename_i hk
    simp at h
    obtain ⟨rfl, rfl⟩ := h
    exact hI.adopt hk hx hg
  · simp at h; exact same (.inl ⟨_, rfl⟩) h.1.symm h.2.symm
  · simp at h; exact same (.inr (.inr ⟨_, _, rfl, .inl rfl⟩)) h.1.symm h.2.symm
  · simp at h; exact same (.inr (.inr ⟨_, _, rfl, .inr rfl⟩)) h.1.symm h.2.symm
  · simp at h; exact same (.inr (.inl rfl)) h.1.symm h.2.symm
  · simp at h

theorem inL_ok : ∀ {l l' : List A} {k : Nat} {st st' : St} {C : Ctx} {f g : Nat → Nat} {xs : List Value} {gx g1 : Nat → Nat} (_ : inL st k l = some (l', st')) (_ : InvG w0 E I0 C st a w f g) (_ : RepL C w l xs gx)
    (_ : ∀ n, g n = g1 n + gx n), ∃ C' f', InvG w0 E I0 C' st' a w f' g1 ∧ C.To C' ∧ (RepL C' w l' xs fun _ => 0) ∧ C'.I = C.I
  | [], l', k, st, st', C, f, g, xs, gx, g1, h, hI, hx, hg => by
    simp [inL] at h
    obtain ⟨rfl, rfl⟩ := h
    cases hx
    exact ⟨C, f, hI.congr fun n => by have := hg n; omega, .refl C, z0, rfl⟩
  | b :: l, l', k, st, st', C, f, g, xs, gx, g1, h, hI, hx, hg => by
    simp only [inL] at h
    split at h
    case h_2 => simp at h
    rename_i b1 st1 h1
    split at h
    case h_2 => simp at h
    rename_i l1 st2 h2
    simp at h
    obtain ⟨rfl, rfl⟩ := h
    obtain ⟨x, ys, p1, p2, rfl, hp, r1, r2⟩ := hx.cons
    obtain ⟨C1, f1, i1, t1, s1, e1⟩ := inC_ok (g1 := fun n => g1 n + p2 n) h1 hI r1 (fun n => by have := hg n; have := hp n; omega)
    obtain ⟨C2, f2, i2, t2, s2, e2⟩ := inL_ok (g1 := g1) h2 i1 (r2.to t1) (fun n => rfl)
    exact ⟨C2, f2, i2, t1.trans t2, Rep1.cons0 (s1.to t2) s2, e2.trans e1⟩

theorem inA_ok {k : Nat} {b b' : A} {st' : St} {x : Value} {gx g1 : Nat → Nat} (h : inA st k b = some (b', st')) (hI : InvG w0 E I0 C st a w f g) (hx : Rep1 C w b x gx) (hg : ∀ n, g n = g1 n + gx n) :
    ∃ C' f', InvG w0 E I0 C' st' a w f' g1 ∧ C.To C' ∧ (Rep1 C' w b' x fun _ => 0) ∧ C'.I = C.I := by
  unfold inA at h
  split at h
  case h_2 => exact inC_ok h hI hx hg
  rename_i cs
  split at h
  case h_2 => simp at h
  rename_i ds st1 h1
  simp at h
  obtain ⟨rfl, rfl⟩ := h
  cases hx with
  | agg hf r1 r2 =>
    cases r2 with
    | nil hz =>
    obtain ⟨C1, f1, i1, t1, s1, e1⟩ := inL_ok (g1 := g1) h1 hI r1 (fun n => by have := hg n; have := hf n; have := hz n; omega)
    exact ⟨C1, f1, i1, t1, .agg (fun _ => rfl) s1 z0, e1⟩

theorem inT_ok : ∀ {l l' : List A} {k : Nat} {st st' : St} {C : Ctx} {f g : Nat → Nat} {xs : List Value} {gx g1 : Nat → Nat} (_ : inT st k l = some (l', st')) (_ : InvG w0 E I0 C st a w f g) (_ : RepL C w l xs gx)
    (_ : ∀ n, g n = g1 n + gx n), ∃ C' f', InvG w0 E I0 C' st' a w f' g1 ∧ C.To C' ∧ (RepL C' w l' xs fun _ => 0) ∧ C'.I = C.I
  | [], l', k, st, st', C, f, g, xs, gx, g1, h, hI, hx, hg => by
    simp [inT] at h
    obtain ⟨rfl, rfl⟩ := h
    cases hx
    exact ⟨C, f, hI.congr fun n => by have := hg n; omega, .refl C, z0, rfl⟩
  | b :: l, l', k, st, st', C, f, g, xs, gx, g1, h, hI, hx, hg => by
    simp only [inT] at h
    split at h
    case h_2 => simp at h
    rename_i b1 st1 h1
    split at h
    case h_2 => simp at h
    rename_i l1 st2 h2
    simp at h
    obtain ⟨rfl, rfl⟩ := h
    obtain ⟨x, ys, p1, p2, rfl, hp, r1, r2⟩ := hx.cons
    obtain ⟨C1, f1, i1, t1, s1, e1⟩ := inA_ok (g1 := fun n => g1 n + p2 n) h1 hI r1 (fun n => by have := hg n; have := hp n; omega)
    obtain ⟨C2, f2, i2, t2, s2, e2⟩ := inT_ok (g1 := g1) h2 i1 (r2.to t1) (fun n => rfl)
    exact ⟨C2, f2, i2, t1.trans t2, Rep1.cons0 (s1.to t2) s2, e2.trans e1⟩

theorem inR_ok {k : Nat} {b b' : A} {st' : St} {x : Value} {gx g1 : Nat → Nat} (h : inR st k b = some (b', st')) (hI : InvG w0 E I0 C st a w f g) (hx : Rep1 C w b x gx) (hg : ∀ n, g n = g1 n + gx n) :
    ∃ C' f', InvG w0 E I0 C' st' a w f' g1 ∧ C.To C' ∧ (Rep1 C' w b' x fun _ => 0) ∧ C'.I = C.I := by
  unfold inR at h
  split at h
  case h_2 => exact inA_ok h hI hx hg
  rename_i cs
  split at h
  case h_2 => simp at h
  rename_i ds st1 h1
  simp at h
  obtain ⟨rfl, rfl⟩ := h
  cases hx with
  | tup hf r1 r2 =>
    cases r2 with
    | nil hz =>
    obtain ⟨C1, f1, i1, t1, s1, e1⟩ := inT_ok (g1 := g1) h1 hI r1 (fun n => by have := hg n; have := hf n; have := hz n; omega)
    exact ⟨C1, f1, i1, t1, .tup (fun _ => rfl) s1 z0, e1⟩
end

/-- The entries of what was handed in. -/
def extEntries (X : List Blk) : List (Id × Blk) := X.mapIdx fun j b => (.x j, b)

/-- What a function does, told by content. -/
structure Holds (P : Program) (f : Nat) (args : List A) (X : List Blk) (r : A) (X' : List Blk) : Prop where
  fn : ∃ fn c, P.funcs[f]? = some fn ∧ (fn.name == "runtime.NumGoroutine") = false ∧ fn.body = some c
  calls : ∀ (C : Ctx) (w : World) (xs : List Value) (fx : Nat → Nat), C.F = w.heap.size → (∀ i, C.B i = St.raw ⟨[], [], X⟩ i) → (∀ b, C.I b → b < w.heap.size) → (∀ b ∈ X, b.on = true) →
    MemR C w (extEntries X) fx → (∀ b, fx b ≤ 1) → (∀ b, 1 ≤ fx b → ¬ C.I b) → (RepL C w args xs fun _ => 0) →
    Calls P f xs.toArray w fun
      | .returned v, w' => ∃ D fr fx', D.F = C.F ∧ (∀ i, D.B i = St.raw ⟨[], [], X'⟩ i) ∧ (∀ b, C.I b → D.I b) ∧ (∀ b, D.I b → C.I b ∨ w.heap.size ≤ b) ∧ (∀ b, D.I b → b < w'.heap.size) ∧ (∀ b ∈ X', b.on = true) ∧
          Same (fun b => 1 ≤ fx b) w w' ∧ MemR D w' (extEntries X') fx' ∧ Rep1 D w' r v fr ∧ (∀ b, fx' b + fr b ≤ 1) ∧
          (∀ b, 1 ≤ fx' b + fr b → ¬ D.I b ∧ (1 ≤ fx b ∨ w.heap.size ≤ b) ∧ b < w'.heap.size)
      | _, _ => False

end Go.AM

/- Calls; each operation; a run of operations. -/
namespace Go.AM
open Go

/-- An operation goes on: whatever is wanted of what comes behind it. -/
def OpGoes (T : Tab) (by_ : Nat → Bool) (ann : Ann) (Φ : Known) (P : Program) (w0 : World) (E I0 : Nat → Prop)
    (o : Oper) (a : Act) (w : World) (m : Nat) (K : St → Free) (r : A) (X : List Blk) : Prop :=
  ∀ (next : Act → World → Prop) (Q : Exit → Act → World → Prop), (∀ m' st' a' w' C' f', m' ≤ m → RunsN T by_ ann Φ m' (K st') r X → Inv w0 E I0 C' st' a' w' f' → next a' w') → o.wp P a w next Q

section
variable {T : Tab} {by_ : Nat → Bool} {ann : Ann} {Φ : Known} {P : Program} {w0 : World} {E I0 : Nat → Prop}
  {o : Oper} {a : Act} {w : World} {m : Nat} {K : St → Free} {r : A} {X : List Blk} {C : Ctx} {st : St} {f : Nat → Nat}

theorem OpDone.goes (h : OpDone T by_ ann Φ P w0 E I0 o a w m K r X) : OpGoes T by_ ann Φ P w0 E I0 o a w m K r X := by
  intro next Q hn
  obtain ⟨m', st', x, w', C', f', n, hm, hR, hrun, hx, hI⟩ := h
  unfold Oper.wp
  rw [hrun]
  rcases hx with rfl | ⟨rfl, rfl⟩
  · rw [Oper.upon_value]
    exact hn _ _ _ _ _ _ hm hR hI
  · rw [Oper.upon_skip]
    exact hn _ _ _ _ _ _ hm hR hI

theorem run_enter {f : FuncId} {fn : Func} {c : Code} (hf : P.funcs[f]? = some fn) (hname : (fn.name == "runtime.NumGoroutine") = false) (hb : fn.body = some c) (args : Array Value) (w : World) :
    (callFunc f args).run P w = .ok (.enter f args) w := by
  have h1 : fn.name ≠ "runtime.NumGoroutine" := by simpa using hname
  simp [callFunc, hf, h1, hb]

theorem raw_nil (i : Id) : St.raw ⟨[], [], []⟩ i = none := by cases i <;> simp [St.raw, findB]

theorem callFn_goes {g : Nat} {args : List A} {xs : List Value} (hby : ∀ g, by_ g = false) (hΦ : ∀ f as x a x', Φ.calls f as x a x' → Holds P f as x a x') (hI : Inv w0 E I0 C st a w f)
    (hxs : RepL C w args xs fun _ => 0)
    (hrun : (∃ fn c, P.funcs[g]? = some fn ∧ (fn.name == "runtime.NumGoroutine") = false ∧ fn.body = some c) → (execOp a.eval o).run P w = .ok (.enter g xs.toArray) w)
    (hR : RunsN T by_ ann Φ m (opCallFn by_ st o.dst g args K) r X) : OpGoes T by_ ann Φ P w0 E I0 o a w m K r X := by
  intro next Q hn
  unfold opCallFn at hR
  rw [hby, if_neg (by simp)] at hR
  split at hR
  · exact hR.bad.elim
  rename_i as has
  cases m with
  | zero => exact hR.elim
  | succ m =>
  obtain ⟨b, x', hphi, hR⟩ := hR
  have H := hΦ _ _ _ _ _ hphi
  change RunsN T by_ ann Φ m (if _ then _ else _) r X at hR
  split at hR
  case isFalse => exact hR.bad.elim
  rename_i hc
  obtain ⟨hx0, hfree⟩ := hc
  have hx0 := List.length_eq_zero_iff.1 hx0
  subst hx0
  split at hR
  case h_2 => exact hR.bad.elim
  rename_i b1 st1 hin
  unfold Oper.wp
  rw [hrun H.fn, Oper.upon_enter]
  obtain ⟨D0, hD0⟩ : ∃ D0 : Ctx, D0 = ⟨C.μ, fun _ => none, fun n => C.I n ∨ ((args.any hasMs) = true ∧ 1 ≤ f n), w.heap.size⟩ := ⟨_, rfl⟩
  have hfl : ∀ n, 1 ≤ f n → n < w.heap.size := hI.mem.lt
  have hargs : RepL D0 w as xs fun _ => 0 := argAs_ok has hI hxs (by intro n hn; rw [hD0]; exact .inl hn) (by intro h n hn; rw [hD0]; exact .inr ⟨h, hn⟩)
  have H2 := H.calls D0 w xs (fun _ => 0) (by rw [hD0]) (by intro i; rw [hD0, raw_nil]) (by
      intro n hn
      rw [hD0] at hn
      rcases hn with hn | ⟨_, hn⟩
      · exact hI.below n hn
      · exact hfl n hn) (by simp) (.nil fun _ => rfl) (by simp) (by intro n hn; simp at hn) hargs
  refine Calls.mono H2 ?_
  intro e w' he
  cases e with
  | panicked chain => exact he.elim
  | outgrown => exact he.elim
  | returned v =>
  obtain ⟨D, fr, fx', hF, hB, hup, hold, hlt, hon, hsame, hmem, hrep, hone, hown⟩ := he
  have hfx : ∀ n, fx' n = 0 := by
    cases hmem with
    | nil h => exact h
  have hB0 : ∀ i, D.B i = none := fun i => by rw [hB, raw_nil]
  have hF' : D.F = w.heap.size := by rw [hF, hD0]
  have heap : ∀ n, n < w.heap.size → w'.heap[n]? = w.heap[n]? := fun n hn => hsame.block n hn (by simp)
  obtain ⟨C1, hC1⟩ : ∃ C1 : Ctx, C1 = ⟨C.μ, C.B, fun n => C.I n ∨ (w.heap.size ≤ n ∧ D.I n), C.F⟩ := ⟨_, rfl⟩
  have t1 : C.To C1 := by rw [hC1]; exact ⟨fun _ h => .inl h, rfl, fun i blk h => ⟨blk, h, fun ho => ⟨ho, Nat.le_refl _, fun _ => ⟨rfl, rfl⟩⟩⟩⟩
  have hsz : w0.heap.size ≤ w.heap.size := hI.same.size
  have hrep1 : Rep1 C1 w' b v fr := by
    by_cases hms : (args.any hasMs) = true
    · have hfb : b.free = true := by
        rw [hms] at hfree
        simpa using hfree
      refine RepL.reF hrep (by simp [freeL, hfb]) ?_ (by rw [hC1, hF']; show C.F ≤ _; rw [hI.first]; exact hsz)
      intro n h1 h2
      rw [hC1]
      rw [hF'] at h2
      exact .inr ⟨h2, h1⟩
    · refine RepL.re hrep hB0 ?_ (by rw [hC1, hF']; show C.F ≤ _; rw [hI.first]; exact hsz)
      intro n h1
      rw [hC1]
      rcases hold n h1 with h2 | h2
      · rw [hD0] at h2
        rcases h2 with h2 | ⟨h2, _⟩
        · exact .inl h2
        · exact absurd h2 hms
      · exact .inr ⟨h2, h1⟩
  have hfr : ∀ n, 1 ≤ fr n → ¬ D.I n ∧ w.heap.size ≤ n ∧ n < w'.heap.size := by
    intro n hn
    obtain ⟨h1, h2, h3⟩ := hown n (by omega)
    exact ⟨h1, h2.resolve_left (by simp), h3⟩
  have i1 : InvG w0 E I0 C1 st a w' f fr := {
    defers := hI.defers
    raw := by rw [hC1]; exact hI.raw
    first := by rw [hC1]; exact hI.first
    below := by
      intro n hn
      rw [hC1] at hn
      rcases hn with hn | ⟨_, hn⟩
      · exact Nat.lt_of_lt_of_le (hI.below n hn) hsame.size
      · exact hlt n hn
    old := by
      intro n hn
      rw [hC1] at hn
      rcases hn with hn | ⟨hn, _⟩
      · exact hI.old n hn
      · exact .inr (by omega)
    keep := by intro n hn; rw [hC1]; exact .inl (hI.keep n hn)
    extOn := hI.extOn
    uniq := hI.uniq
    env := (hI.env.frame (fun n hn => heap n (hI.below n hn)) (fun n hn => by simp at hn)).to t1
    mem := (hI.mem.frame (fun n hn => heap n (hI.below n hn)) (fun n hn => heap n (hfl n hn))).to t1 (by intro i _ _ _; rw [hC1])
    one := by
      intro n
      have h1 := hI.one n
      have h2 := hone n
      by_cases h3 : 1 ≤ f n
      · have := hfl n h3
        have : ¬ 1 ≤ fr n := fun h4 => by have := (hfr n h4).2.1; omega
        omega
      · omega
    own := by
      intro n hn
      rw [hC1]
      by_cases h3 : 1 ≤ f n
      · have h4 := hfl n h3
        obtain ⟨h5, h6⟩ := hI.own n h3
        exact ⟨fun h => h.elim h5 fun h => by omega, h6, Nat.lt_of_lt_of_le h4 hsame.size⟩
      · obtain ⟨h5, h6, h7⟩ := hfr n (by omega)
        exact ⟨fun h => h.elim (fun h => by have := hI.below n h; omega) fun h => h5 h.2, .inr (by omega), h7⟩
    same := hI.same.trans ⟨hsame.os, hsame.tape, hsame.output, hsame.size, fun n hn _ => hsame.block n hn (by simp)⟩ }
  obtain ⟨C2, f2, i2, t2, s2, e2⟩ := inR_ok (g1 := fun _ => 0) hin i1 hrep1 (fun n => by omega)
  exact hn m _ _ _ _ _ (Nat.le_succ _) hR ((i2.inv fun _ => rfl).dst o.dst s2)

theorem call_goes {c : Call} (hop : o.op = .call c) (hby : ∀ g, by_ g = false) (hΦ : ∀ f as x a x', Φ.calls f as x a x' → Holds P f as x a x') (hT : TabOk P T) (hI : Inv w0 E I0 C st a w f)
    (hR : RunsN T by_ ann Φ m (opCall T by_ st o.dst c K) r X) : OpGoes T by_ ann Φ P w0 E I0 o a w m K r X := by
  obtain ⟨callee, args, ts⟩ := c
  unfold opCall at hR
  simp only at hR
  split at hR
  · exact ((len_ok hop hT hI hR).done hI).goes
  · split at hR
    case h_2 => exact hR.bad.elim
    rename_i s x t t2 ha ht
    obtain ⟨l⟩ := args
    obtain ⟨l2⟩ := ts
    match l, ha with
    | [y, z], ha =>
      simp only [List.map_cons, List.map_nil, List.cons.injEq, and_true] at ha
      subst ht
      rw [← ha.1, ← ha.2] at hR
      exact (append_ok hop hT hI hR).goes
  · split at hR
    · exact hR.bad.elim
    · rename_i hne
      exact (max_ok hop hI hR hne).goes
  · split at hR
    · exact hR.bad.elim
    · rename_i hne
      exact (min_ok hop hI hR hne).goes
  · rename_i fo
    have hfo := ev_rep hI.env fo
    have hev := evs_rep hI args.toList
    split at hR
    · rename_i g fs cs ef
      rw [ef] at hfo
      have hv := inv_v hfo
      split at hR
      case isFalse => exact hR.bad.elim
      rename_i hz
      obtain ⟨hz1, hz2⟩ := hz
      have hz1 := Array.size_eq_zero_iff.1 hz1
      have hz2 := Array.size_eq_zero_iff.1 hz2
      subst hz1 hz2
      refine callFn_goes hby hΦ hI hev ?_ hR
      rintro ⟨fn, c, h1, h2, h3⟩
      simp only [execOp, hop, resolve, Deferred.ofValue, hv, Sem.run_bind, Sem.run_pure, Result.andThen_ok, invoke]
      rw [run_enter h1 h2 h3]
      congr 2
      apply Array.ext'
      simp
    · rename_i g fs cs ef
      rw [ef] at hfo
      obtain ⟨ys, zs, hv, r1, r2⟩ := inv_fn hfo
      refine callFn_goes (xs := ys ++ args.toList.map a.eval ++ zs) hby hΦ hI ((r1.app hev fun _ => rfl).app r2 fun _ => rfl) ?_ hR
      rintro ⟨fn, c, h1, h2, h3⟩
      simp only [execOp, hop, resolve, Deferred.ofValue, hv, Sem.run_bind, Sem.run_pure, Result.andThen_ok, invoke]
      rw [run_enter h1 h2 h3]
      congr 2
      apply Array.ext'
      simp
    · exact hR.bad.elim
  · exact hR.bad.elim

theorem op1_goes (hby : ∀ g, by_ g = false) (hΦ : ∀ f as x a x', Φ.calls f as x a x' → Holds P f as x a x') (hT : TabOk P T) (hI : Inv w0 E I0 C st a w f)
    (hR : RunsN T by_ ann Φ m (op1 T by_ st o K) r X) : OpGoes T by_ ann Φ P w0 E I0 o a w m K r X := by
  unfold op1 at hR
  simp only at hR
  split at hR
  · rename_i hop; exact ((move_ok (.inl hop) hI hR).done hI).goes
  · rename_i hop; exact ((move_ok (.inr hop) hI hR).done hI).goes
  · rename_i hop; exact ((pick_ok hop hI hR).done hI).goes
  · rename_i hop; exact (allocOp_ok hop hT hI hR).goes
  · rename_i hop; exact (boxOp_ok hop hI hR).goes
  · rename_i hop; exact (build_ok hop hT hI hR).goes
  · rename_i hop; exact (buildSlice_ok hop hT hI hR).goes
  · rename_i hop; exact (load_ok hop hT hI hR).goes
  · rename_i hop
    split at hR
    · rename_i hd; exact (store_ok hop hT hI hd hR).goes
    · exact hR.bad.elim
  · rename_i hop; exact ((bin_ok hop hT hI hR).done hI).goes
  · rename_i hop; exact ((un_ok hop hI hR).done hI).goes
  · rename_i hop; exact (convert_ok hop hT hI hR).goes
  · rename_i hop; exact ((makeFunc_ok hop hI hR).done hI).goes
  · rename_i hop; exact (make_ok hop hT hI hR).goes
  · rename_i hop
    split at hR
    · rename_i hk; exact (slice_ok hop hT hk hI hR).goes
    · rename_i hk
      split at hR
      · rename_i ex; exact (sliceS_ok hop hT hk hI ex hR).goes
      · exact hR.bad.elim
    · exact hR.bad.elim
  · rename_i hop; exact ((fieldAddr_ok hop hT hI hR).done hI).goes
  · rename_i hop; exact ((field_ok hop hT hI hR).done hI).goes
  · rename_i hop; exact ((indexAddr_ok hop hT hI hR).done hI).goes
  · rename_i hop; exact ((index_ok hop hT hI hR).done hI).goes
  · rename_i hop; exact ((extract_ok hop hI hR).done hI).goes
  · rename_i hop; exact call_goes hop hby hΦ hT hI hR
  · exact hR.bad.elim

theorem act_put_same {t : Nat} {v : Value} (h : a.tmps[t]? = some v) : a.put (some t) v = a := by
  obtain ⟨tm, ds⟩ := a
  simp only [Act.put]
  congr 1
  simp only at h
  apply Array.ext_getElem?
  intro j
  rw [Array.getElem?_setIfInBounds]
  by_cases e : t = j
  · subst e
    obtain ⟨hlt, h⟩ := Array.getElem?_eq_some_iff.1 h
    rw [if_pos rfl, if_pos hlt]
    simp [hlt, h]
  · rw [if_neg e]

theorem guard_at {t : Nat} {b : Value} (hI : Inv w0 E I0 C st a w f) (h : st.env.getD t .any = .v b) : a.tmps[t]? = some b := by
  have h1 := hI.env.getD t
  rw [h] at h1
  have h2 := inv_v h1
  have hlt : t < a.tmps.toList.length := by
    rcases Nat.lt_or_ge t a.tmps.toList.length with hl | hl
    · exact hl
    · have hl' : st.env.length ≤ t := by rw [hI.env.length]; exact hl
      rw [List.getD, List.getElem?_eq_none hl'] at h
      cases h
  rw [List.getD, List.getElem?_eq_getElem hlt] at h2
  simp at hlt h2
  rw [Array.getElem?_eq_getElem hlt, h2]

/-- One operation in its place. -/
theorem opG_ok {ops : Array Oper} (hby : ∀ g, by_ g = false) (hΦ : ∀ f as x a x', Φ.calls f as x a x' → Holds P f as x a x') (hT : TabOk P T) (hI : Inv w0 E I0 C st a w f)
    (hR : RunsN T by_ ann Φ m (opG T by_ ops st o K) r X) (next : Act → World → Prop) (Q : Exit → Act → World → Prop)
    (hn : ∀ m' st' a' w' C' f', m' ≤ m → RunsN T by_ ann Φ m' (K st') r X → Inv w0 E I0 C' st' a' w' f' → next a' w') :
    if Region.wanted o (yielded ops a.tmps) then o.wp P a w next Q ∨ (o.asks P a w ∧ LetsOut Q) else next (a.put o.dst undef) w := by
  unfold opG at hR
  split at hR
  · rename_i hg
    have : Region.wanted o (yielded ops a.tmps) = true := by simp [Region.wanted, hg]
    rw [if_pos this]
    exact .inl (op1_goes hby hΦ hT hI hR next Q hn)
  · rename_i j want hg
    split at hR
    · exact hR.bad.elim
    rename_i t ht
    split at hR
    case h_3 => exact hR.bad.elim
    case h_2 =>
      rename_i b hb
      have hat := guard_at hI hb
      have hw : Region.wanted o (yielded ops a.tmps) = false := by
        simp [Region.wanted, hg, yielded, ht, hat]
      rw [hw]
      exact hn m _ _ _ _ _ (Nat.le_refl _) hR (hI.dst o.dst (x := .v (.tuple #[])) (v := undef) (.v z0))
    rename_i b hb
    obtain ⟨m', rfl, hR⟩ := hR.ask
    change RunsN T by_ ann Φ m' (if _ then _ else _) r X at hR
    have hat := guard_at hI hb
    have hI2 : Inv w0 E I0 C (st.dst (some t) (.v (.bool b))) a w f := by
      have := hI.dst (some t) (x := .v (.bool b)) (v := .bool b) (.v z0)
      rwa [act_put_same hat] at this
    have hw : Region.wanted o (yielded ops a.tmps) = (b == want) := by
      simp [Region.wanted, hg, yielded, ht, hat]
    rw [hw]
    split at hR
    · rename_i hbw
      rw [if_pos (by simpa using hbw)]
      exact .inl (op1_goes hby hΦ hT hI2 hR next Q fun m1 st' a' w' C' f' h1 => hn m1 st' a' w' C' f' (by omega))
    · rename_i hbw
      rw [if_neg (by simpa using hbw)]
      exact hn m' _ _ _ _ _ (by omega) hR (hI2.dst o.dst (x := .v (.tuple #[])) (v := undef) (.v z0))

theorem opsG_ok {ops : Array Oper} (hby : ∀ g, by_ g = false) (hΦ : ∀ f as x a x', Φ.calls f as x a x' → Holds P f as x a x') (hT : TabOk P T) (Q : Exit → Act → World → Prop) :
    ∀ (n i : Nat) {m : Nat} {C : Ctx} {st : St} {a : Act} {w : World} {f : Nat → Nat}, i + n = ops.size → Inv w0 E I0 C st a w f → RunsN T by_ ann Φ m (opsG T by_ ops K (ops.toList.drop i) st) r X →
      (∀ m' st' a' w' C' f', m' ≤ m → RunsN T by_ ann Φ m' (K st') r X → Inv w0 E I0 C' st' a' w' f' → Q .normal a' w') → wpOps P ops Q (List.range' i n) a w := by
  intro n
  induction n with
  | zero =>
    intro i m C st a w f hin hI hR hQ
    rw [List.drop_eq_nil_of_le (by simp; omega)] at hR
    exact hQ m _ _ _ _ _ (Nat.le_refl _) hR hI
  | succ n ih =>
    intro i m C st a w f hin hI hR hQ
    have hlt : i < ops.size := by omega
    rw [List.drop_eq_getElem_cons (by simp; omega)] at hR
    simp only [opsG, Array.getElem_toList] at hR
    simp only [List.range'_succ, wpOps, Array.getElem?_eq_getElem hlt]
    exact opG_ok hby hΦ hT hI hR _ _ fun m' st' a' w' C' f' hm hR' hI' => ih (i + 1) (by omega) hI' hR' fun m1 st1 a1 w1 C1 f1 h1 => hQ m1 st1 a1 w1 C1 f1 (by omega)
end
end Go.AM

/- A loop's head: what is kept. -/
namespace Go.AM
open Go

section
variable {C D : Ctx} {w : World} {st : St} {ks : List Nat}

theorem RepL.kept {p : Id → Bool} {l xs f} (h : RepL C w l xs f) (hp : okIL p l = true) (hI : D.I = C.I) (hF : D.F = C.F) (hμ : D.μ = C.μ)
    (hB : ∀ i blk, p i = true → C.B i = some blk → ∃ blk', D.B i = some blk' ∧ blk'.on = blk.on ∧ blk'.es.length = blk.es.length ∧ blk'.k = blk.k) : RepL D w l xs f := by
  have bare : C.bare.To D.bare := ⟨fun b hb => by show D.I b; rw [hI]; exact hb, hF, fun i blk h => by cases h⟩
  induction h with
  | nil h => exact .nil h
  | any _ ih => exact .any (ih (by simpa [okIL, A.okI] using hp) hI hF hμ hB bare)
  | v _ ih => exact .v (ih (by simpa [okIL, A.okI] using hp) hI hF hμ hB bare)
  | ifc _ ih => exact .ifc (ih (by simpa [okIL, A.okI] using hp) hI hF hμ hB bare)
  | agg hf _ _ ih1 ih =>
    simp only [okIL, A.okI, Bool.and_eq_true] at hp
    exact .agg hf (ih1 hp.1 hI hF hμ hB bare) (ih hp.2 hI hF hμ hB bare)
  | tup hf _ _ ih1 ih =>
    simp only [okIL, A.okI, Bool.and_eq_true] at hp
    exact .tup hf (ih1 hp.1 hI hF hμ hB bare) (ih hp.2 hI hF hμ hB bare)
  | nils _ ih => exact .nils (ih (by simpa [okIL, A.okI] using hp) hI hF hμ hB bare)
  | sl hrow hsp hk hcap hsz hI' hs ho hz h1 _ _ ih =>
    exact .sl hrow hsp hk hcap hsz (by rw [hI]; exact hI') (by rw [hF]; exact hs) ho hz (h1.to bare) (ih (by simpa [okIL, A.okI] using hp) hI hF hμ hB bare)
  | ow hrow hsp hk hcap hsz hF' hfz ho he h1 _ _ ih =>
    exact .ow hrow hsp hk hcap hsz (by rw [hF]; exact hF') hfz ho he (h1.to bare) (ih (by simpa [okIL, A.okI] using hp) hI hF hμ hB bare)
  | ms hb h1 hm _ ih =>
    simp only [okIL, A.okI, Bool.and_eq_true] at hp
    obtain ⟨blk', hb', e1, e2, e3⟩ := hB _ _ hp.1 hb
    refine .ms hb' h1 (fun ho => ?_) (ih hp.2 hI hF hμ hB bare)
    rw [e1] at ho
    obtain ⟨m1, m2⟩ := hm ho
    refine ⟨by omega, fun et => ?_⟩
    have := m2 (by omega)
    unfold MsOk at *
    rw [hμ, e3]
    exact this
  | ref hb h1 hm _ ih =>
    simp only [okIL, A.okI, Bool.and_eq_true] at hp
    obtain ⟨blk', hb', e1, e2, e3⟩ := hB _ _ hp.1 hb
    refine .ref hb' h1 (fun ho => ?_) (ih hp.2 hI hF hμ hB bare)
    rw [e1] at ho
    obtain ⟨m1, m2⟩ := hm ho
    refine ⟨by omega, fun et => ?_⟩
    have := m2 (by omega)
    unfold RefOk at *
    rw [hμ, e3]
    exact this
  | ptr hrow hsp hk hsz hI' hi ho hz h1 _ _ ih =>
    exact .ptr hrow hsp hk hsz (by rw [hI]; exact hI') hi ho hz (h1.to bare) (ih (by simpa [okIL, A.okI] using hp) hI hF hμ hB bare)
  | fn hf1 hf2 _ _ _ ih1 ih2 ih =>
    simp only [okIL, A.okI, Bool.and_eq_true] at hp
    exact .fn hf1 hf2 (ih1 hp.1.1 hI hF hμ hB bare) (ih2 hp.1.2 hI hF hμ hB bare) (ih hp.2 hI hF hμ hB bare)

theorem keepC_rep {a : A} {x : Value} (h : Rep1 C w a x fun _ => 0) (hI : D.I = C.I) (hF : D.F = C.F) (hμ : D.μ = C.μ)
    (hB : ∀ i blk, st.kept ks i = true → C.B i = some blk → ∃ blk', D.B i = some blk' ∧ blk'.on = blk.on ∧ blk'.es.length = blk.es.length ∧ blk'.k = blk.k) : Rep1 D w (keepC st ks a) x fun _ => 0 := by
  unfold keepC
  split
  · rename_i hp
    exact RepL.kept h (by simp [okIL, hp]) hI hF hμ hB
  · exact .any z0

theorem keepL_rep (hI : D.I = C.I) (hF : D.F = C.F) (hμ : D.μ = C.μ)
    (hB : ∀ i blk, st.kept ks i = true → C.B i = some blk → ∃ blk', D.B i = some blk' ∧ blk'.on = blk.on ∧ blk'.es.length = blk.es.length ∧ blk'.k = blk.k) :
    ∀ {l : List A} {xs : List Value}, (RepL C w l xs fun _ => 0) → RepL D w (l.map (keepC st ks)) xs fun _ => 0
  | [], xs, h => by cases h; exact z0
  | a :: l, xs, h => by
    obtain ⟨x, ys, rfl, h1, h2⟩ := h.cons0
    exact (keepC_rep h1 hI hF hμ hB).cons0 (keepL_rep hI hF hμ hB h2)

theorem keepEnv_rep (keep : List Nat) : ∀ {l : List A} {xs : List Value} (n : Nat), (RepL C w l xs fun _ => 0) → RepL C w (keepEnv keep n l) xs fun _ => 0
  | [], xs, n, h => by cases h; exact z0
  | a :: l, xs, n, h => by
    obtain ⟨x, ys, rfl, h1, h2⟩ := h.cons0
    have : Rep1 C w (if keep.contains n then a else .any) x fun _ => 0 := by
      split
      · exact h1
      · exact .any z0
    exact this.cons0 (keepEnv_rep keep (n + 1) h2)

theorem keepCells_cells (a : A) : (keepCells st ks a).cells = a.cells.map (keepC st ks) := by
  unfold keepCells
  split
  · rfl
  · rename_i hna
    have ha : a.cells = [a] := by cases a <;> first | rfl | exact (hna _ rfl).elim
    rw [ha]
    unfold keepC
    split
    · simp [ha, *]
    · simp [A.cells, *]

theorem keepCells_flat (es : List A) : flat (es.map (keepCells st ks)) = (flat es).map (keepC st ks) := by
  induction es with
  | nil => rfl
  | cons a l ih =>
    simp only [flat, List.map_cons, List.flatMap_cons, List.map_append] at *
    rw [ih, keepCells_cells]

theorem Blk.keep_on (b : Blk) : (b.keep st ks).on = b.on := by unfold Blk.keep; split <;> rfl
theorem Blk.keep_k (b : Blk) : (b.keep st ks).k = b.k := by unfold Blk.keep; split <;> rfl
theorem Blk.keep_box (b : Blk) : (b.keep st ks).box = b.box := by unfold Blk.keep; split <;> rfl
theorem Blk.keep_len (b : Blk) : (b.keep st ks).es.length = b.es.length := by unfold Blk.keep; split <;> simp

theorem BlkOk.keep {i : Id} {b : Blk} {f : Nat → Nat} (h : BlkOk C w i b f) (hI : D.I = C.I) (hF : D.F = C.F) (hμ : D.μ = C.μ)
    (hB : ∀ i blk, st.kept ks i = true → C.B i = some blk → ∃ blk', D.B i = some blk' ∧ blk'.on = blk.on ∧ blk'.es.length = blk.es.length ∧ blk'.k = blk.k) : BlkOk D w i (b.keep st ks) f := by
  obtain ⟨c, e, fz, h1, h2, h3, h4, h5, hx, h6, h7⟩ := h
  have bare : C.bare.To D.bare := ⟨fun b hb => by show D.I b; rw [hI]; exact hb, hF, fun i blk h => by cases h⟩
  refine ⟨c, e, fz, by rw [hμ]; exact h1, ⟨h2.1, fun k hk => by rw [hμ, hF]; exact h2.2 k hk⟩, ?_, by rw [hμ, Blk.keep_len]; exact h4, by rw [hμ, Blk.keep_k]; exact h5, by rw [Blk.keep_box]; exact hx, by rw [hμ, Blk.keep_len, Blk.keep_k]; exact h6, ?_⟩
  · intro x hx
    rw [Blk.keep_k]
    unfold Blk.keep at hx
    split at hx
    · simp only [List.mem_map] at hx
      obtain ⟨y, hy, rfl⟩ := hx
      rw [keepCells_cells, List.length_map]
      exact h3 y hy
    · exact h3 x hx
  · rw [hμ, Blk.keep_len, Blk.keep_k, Blk.keep_box]
    unfold Blk.keep
    cases hbx : b.box with
    | false =>
      rw [if_neg (by simp)]
      rw [hbx] at h7
      exact h7.to bare
    | true =>
      rw [if_pos rfl]
      simp only [keepCells_flat]
      rw [hbx] at h7
      exact (keepL_rep hI hF hμ hB (RepL.congr h7 fun n => (hx hbx n).symm)).congr fun n => hx hbx n

theorem MemR.keep (hI : D.I = C.I) (hF : D.F = C.F) (hμ : D.μ = C.μ)
    (hB : ∀ i blk, st.kept ks i = true → C.B i = some blk → ∃ blk', D.B i = some blk' ∧ blk'.on = blk.on ∧ blk'.es.length = blk.es.length ∧ blk'.k = blk.k) (q : Id × Blk → Bool) {l : List (Id × Blk)} {f : Nat → Nat} (h : MemR C w l f) :
    ∃ f', (∀ n, f' n ≤ f n) ∧ MemR D w ((l.filter q).map fun p => (p.1, p.2.keep st ks)) f' := by
  induction h with
  | nil h => exact ⟨fun _ => 0, fun n => Nat.zero_le _, .nil fun _ => rfl⟩
  | @off i b r f ho _ ih =>
    obtain ⟨f', hf', h'⟩ := ih
    refine ⟨f', hf', ?_⟩
    rw [List.filter_cons]
    split
    · exact .off (by rw [Blk.keep_on]; exact ho) h'
    · exact h'
  | @nul i b r f ho he hc _ ih =>
    obtain ⟨f', hf', h'⟩ := ih
    refine ⟨f', hf', ?_⟩
    rw [List.filter_cons]
    split
    · exact .nul (by rw [Blk.keep_on]; exact ho) (List.length_eq_zero_iff.1 (by rw [Blk.keep_len, he]; rfl)) (by rw [hμ]; exact hc) h'
    · exact h'
  | @row i b r f f1 f2 ho hb hf _ ih =>
    obtain ⟨f', hf', h'⟩ := ih
    rw [List.filter_cons]
    split
    · exact ⟨fun n => (if n = (D.μ i).blk then 1 else 0) + f1 n + f' n, fun n => by have := hf' n; have := hf n; rw [hμ]; show _ + _ + _ ≤ _; omega,
        .row (by rw [Blk.keep_on]; exact ho) (hb.keep hI hF hμ hB) (fun _ => rfl) h'⟩
    · exact ⟨f', fun n => by have := hf' n; have := hf n; omega, h'⟩
end

section
variable {w0 : World} {E I0 : Nat → Prop} {C : Ctx} {st : St} {a : Act} {w : World} {f : Nat → Nat}

theorem findB_keep {ks : List Nat} {k : Nat} {b : Blk} : ∀ {m : List (Nat × Blk)}, findB m k = some b → b.on = true → ks.contains k = true →
    findB ((m.filter fun p => p.2.on && ks.contains p.1).map fun p => (p.1, p.2.keep st ks)) k = some (b.keep st ks)
  | [], h, _, _ => by simp [findB] at h
  | (j, c) :: m, h, ho, hk => by
    simp only [findB] at h
    by_cases e : j = k
    · subst e
      rw [if_pos rfl] at h
      simp at h
      subst h
      rw [List.filter_cons, if_pos (by simp only [ho, hk, Bool.and_self])]
      simp [findB]
    · rw [if_neg e] at h
      have := findB_keep h ho hk
      rw [List.filter_cons]
      split
      · simp only [List.map_cons, findB, if_neg e]
        exact this
      · exact this

theorem mapIdx_keep (ks : List Nat) : ∀ (l : List Blk), (l.map (Blk.keep st ks)).mapIdx (fun j b => ((.x j : Id), b)) = (l.mapIdx (fun j b => ((.x j : Id), b))).map fun p => (p.1, p.2.keep st ks) := by
  intro l
  apply List.ext_getElem?
  intro i
  simp [List.getElem?_mapIdx]
  cases l[i]? <;> rfl

def keepQ (ks : List Nat) : Id × Blk → Bool
  | (.l k, b) => b.on && ks.contains k
  | (.x _, _) => true

theorem only_entries (e : List A) (ks : List Nat) : (st.onlyK e ks).entries = (st.entries.filter (keepQ ks)).map fun p => (p.1, p.2.keep st ks) := by
  unfold St.entries St.onlyK
  simp only
  rw [List.filter_append, List.map_append, mapIdx_keep]
  congr 1
  · induction st.mem with
    | nil => rfl
    | cons p m ih =>
      by_cases hq : (p.2.on && ks.contains p.1) = true
      · have hq2 : keepQ ks (.l p.1, p.2) = true := hq
        simp only [List.map_cons, List.filter_cons]
        rw [if_pos hq, if_pos hq2]
        simp only [List.map_cons, ih]
      · have hq2 : ¬ keepQ ks (.l p.1, p.2) = true := hq
        simp only [List.map_cons, List.filter_cons]
        rw [if_neg hq, if_neg hq2]
        exact ih
  · congr 1
    symm
    rw [List.filter_eq_self]
    intro p hp
    obtain ⟨i, hi, rfl⟩ := List.mem_mapIdx.1 hp
    rfl

theorem Inv.onlyK (h : Inv w0 E I0 C st a w f) {e : List A} (ks : List Nat) (he : RepL C w e a.tmps.toList fun _ => 0) :
    ∃ C' f', Inv w0 E I0 C' (st.onlyK e ks) a w f' := by
  obtain ⟨D, hD⟩ : ∃ D : Ctx, D = { C with B := fun i => (st.onlyK e ks).raw i } := ⟨_, rfl⟩
  have hI : D.I = C.I := by rw [hD]
  have hF : D.F = C.F := by rw [hD]
  have hμ : D.μ = C.μ := by rw [hD]
  have hB : ∀ i blk, st.kept ks i = true → C.B i = some blk → ∃ blk', D.B i = some blk' ∧ blk'.on = blk.on ∧ blk'.es.length = blk.es.length ∧ blk'.k = blk.k := by
    intro i blk hi hb
    rw [h.raw] at hb
    refine ⟨blk.keep st ks, ?_, Blk.keep_on _, Blk.keep_len _, Blk.keep_k _⟩
    rw [hD]
    cases i with
    | l k =>
      simp only [St.kept, Bool.and_eq_true] at hi
      obtain ⟨h1, h2⟩ := hi
      simp only [St.raw] at hb ⊢
      have hon : blk.on = true := by
        unfold getB at h1
        rw [hb] at h1
        simpa using h1
      exact findB_keep hb hon h2
    | x j =>
      simp only [St.raw] at hb ⊢
      simp only [St.onlyK, List.getElem?_map, hb]
      rfl
  obtain ⟨f', hf', hm⟩ := h.mem.keep hI hF hμ hB (keepQ ks)
  refine ⟨D, f', {
    defers := h.defers
    raw := fun i => by rw [hD]
    first := by rw [hF]; exact h.first
    below := by rw [hI]; exact h.below
    old := by rw [hI]; exact h.old
    keep := by rw [hI]; exact h.keep
    extOn := by
      intro b hb
      obtain ⟨c, hc, rfl⟩ := List.mem_map.1 hb
      rw [Blk.keep_on]
      exact h.extOn c hc
    uniq := by
      rw [only_entries, List.map_map]
      exact List.Sublist.nodup (List.Sublist.map _ List.filter_sublist) h.uniq
    env := keepL_rep hI hF hμ hB he
    mem := by rw [only_entries]; exact hm
    one := fun b => Nat.le_trans (hf' b) (h.one b)
    own := fun b hb => by
      rw [hI]
      exact h.own b (Nat.le_trans hb (hf' b))
    same := h.same }⟩

theorem Inv.only (h : Inv w0 E I0 C st a w f) (keep : List Nat) : ∃ C' f', Inv w0 E I0 C' (st.only keep) a w f' :=
  h.onlyK _ (keepEnv_rep keep 0 h.env)
end
end Go.AM

/- Regions that draw their order. -/
namespace Go.AM
open Go

def stillOp : Op → Bool
  | .move _ | .assign _ | .pick .. | .binOp .. | .unOp .. | .fieldAddr .. | .field .. | .indexAddr .. | .index .. | .extract .. | .makeFunc .. => true
  | .call c => match c.callee with | .builtin .len => true | _ => false
  | _ => false

def stillAt (ops : Array Oper) (i : Nat) : Bool := match ops[i]? with | some o => stillOp o.op | none => false

/-- Whether an order of going through is one that covers all. -/
def Sched.ok (ops : Array Oper) : Sched → Nat → Option (List Nat) → Array Bool → Bool
  | .fin, _, q, listed => q.isNone && (Region.ready .any ops listed).isEmpty
  | .take i s, n, q, listed => q.isNone && n != 0 && stillAt ops i && Region.free .any ops listed i && (Region.ready .any ops listed).contains i && s.ok ops (n - 1) none (listed.setIfInBounds i true)
  | .alt i s rest, n, q, listed => n != 0 && (match q with
    | none => match Region.ready .any ops listed with
      | j :: js => j == i && s.ok ops (n - 1) none (listed.setIfInBounds i true) && rest.ok ops n (some js) listed
      | [] => false
    | some (j :: js) => j == i && s.ok ops (n - 1) none (listed.setIfInBounds i true) && rest.ok ops n (some js) listed
    | some [] => false)
  | .nil, _, q, _ => match q with | some [] => true | _ => false

section
variable {T : Tab} {by_ : Nat → Bool} {ann : Ann} {Φ : Known} {P : Program} {w0 : World} {E I0 : Nat → Prop}
  {o : Oper} {a : Act} {w : World} {m : Nat} {K : St → Free} {r : A} {X : List Blk} {C : Ctx} {st : St} {f : Nat → Nat}

theorem op1_still (hs : stillOp o.op = true) (hT : TabOk P T) (hI : Inv w0 E I0 C st a w f)
    (hR : RunsN T by_ ann Φ m (op1 T by_ st o K) r X) : OpStill T by_ ann Φ P C st o a w m K r X := by
  unfold op1 at hR
  simp only at hR
  split at hR
  · rename_i hop; exact move_ok (.inl hop) hI hR
  · rename_i hop; exact move_ok (.inr hop) hI hR
  · rename_i hop; exact pick_ok hop hI hR
  · rename_i hop; rw [hop] at hs; simp [stillOp] at hs
  · rename_i hop; rw [hop] at hs; simp [stillOp] at hs
  · rename_i hop; rw [hop] at hs; simp [stillOp] at hs
  · rename_i hop; rw [hop] at hs; simp [stillOp] at hs
  · rename_i hop; rw [hop] at hs; simp [stillOp] at hs
  · rename_i hop; rw [hop] at hs; simp [stillOp] at hs
  · rename_i hop; exact bin_ok hop hT hI hR
  · rename_i hop; exact un_ok hop hI hR
  · rename_i hop; rw [hop] at hs; simp [stillOp] at hs
  · rename_i hop; exact makeFunc_ok hop hI hR
  · rename_i hop; rw [hop] at hs; simp [stillOp] at hs
  · rename_i hop; rw [hop] at hs; simp [stillOp] at hs
  · rename_i hop; exact fieldAddr_ok hop hT hI hR
  · rename_i hop; exact field_ok hop hT hI hR
  · rename_i hop; exact indexAddr_ok hop hT hI hR
  · rename_i hop; exact index_ok hop hT hI hR
  · rename_i hop; exact extract_ok hop hI hR
  · rename_i c hop
    rw [hop] at hs
    obtain ⟨callee, args, ts⟩ := c
    simp only [stillOp] at hs
    split at hs
    · unfold opCall at hR
      exact len_ok hop hT hI hR
    · simp at hs
  · exact hR.bad.elim

/-- A still operation in its place: what it tells, whatever the world. -/
theorem opG_still {ops : Array Oper} (hs : stillOp o.op = true) (hT : TabOk P T) (hI : Inv w0 E I0 C st a w f) (hR : RunsN T by_ ann Φ m (opG T by_ ops st o K) r X) :
    ∃ m' st' v, m' ≤ m ∧ RunsN T by_ ann Φ m' (K st') r X ∧ Yields P ops o v a ∧ Inv w0 E I0 C st' (a.put o.dst v) w f := by
  unfold opG at hR
  split at hR
  · rename_i hg
    obtain ⟨m', x, v, hm, hR, hrun, hx⟩ := op1_still hs hT hI hR
    exact ⟨m', _, v, hm, hR, .inl ⟨by simp [Region.wanted, hg], hrun⟩, hI.dst o.dst hx⟩
  · rename_i j want hg
    split at hR
    · exact hR.bad.elim
    rename_i t ht
    split at hR
    case h_3 => exact hR.bad.elim
    case h_2 =>
      rename_i b hb
      have hat := guard_at hI hb
      have hw : Region.wanted o (yielded ops a.tmps) = false := by
        simp [Region.wanted, hg, yielded, ht, hat]
      exact ⟨m, _, undef, Nat.le_refl _, hR, .inr ⟨hw, rfl⟩, hI.dst o.dst (x := .v (.tuple #[])) (v := undef) (.v z0)⟩
    rename_i b hb
    obtain ⟨m', rfl, hR⟩ := hR.ask
    change RunsN T by_ ann Φ m' (if _ then _ else _) r X at hR
    have hat := guard_at hI hb
    have hI2 : Inv w0 E I0 C (st.dst (some t) (.v (.bool b))) a w f := by
      have := hI.dst (some t) (x := .v (.bool b)) (v := .bool b) (.v z0)
      rwa [act_put_same hat] at this
    have hw : Region.wanted o (yielded ops a.tmps) = (b == want) := by
      simp [Region.wanted, hg, yielded, ht, hat]
    split at hR
    · rename_i hbw
      obtain ⟨m2, x, v, hm, hR, hrun, hx⟩ := op1_still hs hT hI2 hR
      exact ⟨m2, _, v, by omega, hR, .inl ⟨by rw [hw]; simpa using hbw, hrun⟩, hI2.dst o.dst hx⟩
    · rename_i hbw
      exact ⟨m', _, undef, by omega, hR, .inr ⟨by rw [hw]; simpa using hbw, rfl⟩, hI2.dst o.dst (x := .v (.tuple #[])) (v := undef) (.v z0)⟩

def onlyNormal (Q : Act → World → Prop) : Exit → Act → World → Prop
  | .normal, a, w => Q a w
  | _, _, _ => False

/-- What a region that draws does, by content. -/
def Draws (P : Program) (ops : Array Oper) (st st1 : St) : Prop :=
  ∀ (w0 : World) (E I0 : Nat → Prop) (C : Ctx) (a : Act) (w : World) (f : Nat → Nat) (Q : Act → World → Prop), Inv w0 E I0 C st a w f →
    (∀ a' w' C' f', Inv w0 E I0 C' st1 a' w' f' → Q a' w') → wpAny P .any ops (onlyNormal Q) ops.size (Array.replicate ops.size false) a w

theorem drawS_ok {ops : Array Oper} (hby : ∀ g, by_ g = false) (hΦ : ∀ f as x a x', Φ.calls f as x a x' → Holds P f as x a x') (hT : TabOk P T) (hns : Region.noSelect ops = true)
    {Q : Act → World → Prop} (hK : ∀ m s, RunsN T by_ ann Φ m (K s) r X → ∀ a' w' C' f', Inv w0 E I0 C' s a' w' f' → Q a' w') :
    ∀ (s : Sched) (n : Nat) (q : Option (List Nat)) (listed : Array Bool) {m : Nat} {C : Ctx} {st : St} {a : Act} {w : World} {f : Nat → Nat},
      s.ok ops n q listed = true → Inv w0 E I0 C st a w f → RunsN T by_ ann Φ m (drawS T by_ ops s st K) r X →
      match q with
      | none => wpAny P .any ops (onlyNormal Q) n listed a w
      | some rs => ∀ i ∈ rs, wpOp P ops (onlyNormal Q) i (wpAny P .any ops (onlyNormal Q) (n - 1) (listed.setIfInBounds i true)) a w := by
  intro s
  induction s with
  | fin =>
    intro n q listed m C st a w f hok hI hR
    simp only [Sched.ok, Bool.and_eq_true, Option.isNone_iff_eq_none, List.isEmpty_iff] at hok
    obtain ⟨rfl, hr⟩ := hok
    exact wpAny_done hr (hK m _ hR _ _ _ _ hI) n
  | take i s ih =>
    intro n q listed m C st a w f hok hI hR
    simp only [Sched.ok, Bool.and_eq_true, Option.isNone_iff_eq_none, bne_iff_ne, ne_eq] at hok
    obtain ⟨⟨⟨⟨⟨rfl, hn⟩, hst⟩, hfree⟩, hready⟩, hok⟩ := hok
    obtain ⟨n, rfl⟩ : ∃ k, n = k + 1 := ⟨n - 1, by omega⟩
    simp only [drawS] at hR
    split at hR
    case h_2 => exact hR.bad.elim
    rename_i o ho
    simp only [stillAt, ho] at hst
    obtain ⟨m', st', v, hm, hR', hy, hI'⟩ := opG_still hst hT hI hR
    exact wpAny_take ho hns hfree hready (fun c a w h => h.elim) hy (ih n none _ hok hI' hR')
  | alt i s rest ihs ihr =>
    intro n q listed m C st a w f hok hI hR
    simp only [Sched.ok, Bool.and_eq_true, bne_iff_ne, ne_eq] at hok
    obtain ⟨hn, hok⟩ := hok
    obtain ⟨n, rfl⟩ : ∃ k, n = k + 1 := ⟨n - 1, by omega⟩
    cases m with
    | zero => exact hR.elim
    | succ m =>
    simp only [drawS] at hR
    obtain ⟨hR1, hR2⟩ := hR
    have one : ∀ j, j = i → s.ok ops n none (listed.setIfInBounds i true) = true → wpOp P ops (onlyNormal Q) j (wpAny P .any ops (onlyNormal Q) n (listed.setIfInBounds j true)) a w := by
      intro j hj hs
      subst hj
      unfold wpOp
      split at hR1
      case h_2 => exact hR1.bad.elim
      rename_i o ho
      rw [ho]
      exact opG_ok hby hΦ hT hI hR1 _ _ fun m' st' a' w' C' f' hm hR' hI' => ihs n none _ hs hI' hR'
    cases q with
    | none =>
      simp only at hok
      split at hok
      case h_2 => simp at hok
      rename_i j js hr
      simp only [Bool.and_eq_true, beq_iff_eq] at hok
      obtain ⟨⟨hj, hs⟩, hrest⟩ := hok
      have hrs := ihr (n + 1) (some js) listed hrest hI hR2
      simp only at hrs
      refine wpAny_all hr (by simp) ?_
      intro k hk
      rcases List.mem_cons.1 hk with rfl | hk
      · exact one k hj (by simpa using hs)
      · exact hrs k hk
    | some rs =>
      cases rs with
      | nil => simp at hok
      | cons j js =>
        simp only [Bool.and_eq_true, beq_iff_eq] at hok
        obtain ⟨⟨hj, hs⟩, hrest⟩ := hok
        have hrs := ihr (n + 1) (some js) listed hrest hI hR2
        simp only at hrs
        simp only
        intro k hk
        rcases List.mem_cons.1 hk with rfl | hk
        · exact one k hj (by simpa using hs)
        · exact hrs k hk
  | nil =>
    intro n q listed m C st a w f hok hI hR
    simp only [Sched.ok] at hok
    split at hok
    · simp
    · simp at hok

/-- A region that draws is known when its operations, in an order of going through that covers all, lead to one state. -/
theorem draws_of {ops : Array Oper} {st1 : St} (s : Sched) (hby : ∀ g, by_ g = false) (hΦ : ∀ f as x a x', Φ.calls f as x a x' → Holds P f as x a x') (hT : TabOk P T)
    (hok : (Region.noSelect ops && s.ok ops ops.size none (Array.replicate ops.size false)) = true)
    (h : ∀ (K : St → Free) (r : A) (X : List Blk), Runs T by_ ann Φ (K st1) r X → Runs T by_ ann Φ (drawS T by_ ops s st K) r X) : Draws P ops st st1 := by
  classical
  intro w0 E I0 C a w f Q hI hQ
  simp only [Bool.and_eq_true] at hok
  obtain ⟨m, hm⟩ := h (fun s => if s = st1 then .ret (.tup []) [] else .bad) (.tup []) [] ⟨1, by simp only [if_true]; exact ⟨trivial, rfl⟩⟩
  refine drawS_ok (K := fun s => if s = st1 then .ret (.tup []) [] else .bad) (r := .tup []) (X := []) hby hΦ hT hok.1 ?_ s ops.size none _ hok.2 hI hm
  intro m s hs a' w' C' f' hI'
  by_cases e : s = st1
  · subst e
    exact hQ a' w' C' f' hI'
  · simp only [if_neg e] at hs
    exact hs.bad.elim
end
end Go.AM

/- The machine is sound. -/
namespace Go.AM
open Go

def Ex.to : Ex → Exit
  | .normal => .normal
  | .exit n => .exit n
  | .ret => .ret

theorem wp_loop_n {P : Program} {Q : Exit → Act → World → Prop} {c : Code} (J : Nat → Act → World → Prop) {m : Nat} {a : Act} {w : World} (h₀ : J m a w)
    (round : ∀ n a w, J n a w → c.wp P (Exit.then (fun a' w' => ∃ n', n' < n ∧ J n' a' w') Q) a w) : (Code.loop c).wp P Q a w := by
  intro b k cs
  have key : ∀ n a w, J n a w → ∃ e a' w', Q e a' w' ∧ Arrives P (lone (b.at a (.code c :: .inLoop c :: k)) cs w) b k cs e a' w' := by
    intro n
    induction n using Nat.strongRecOn with
    | _ n ih =>
      intro a w hI
      obtain ⟨e, a₁, w₁, hq, harr⟩ := round n a w hI b (.inLoop c :: k) cs
      cases e with
      | normal =>
        obtain ⟨n', hlt, hI₁⟩ := hq
        obtain ⟨e₂, a₂, w₂, hq₂, harr₂⟩ := ih n' hlt a₁ w₁ hI₁
        exact ⟨e₂, a₂, w₂, hq₂, .of_steps (Steps.trans harr (.one step_inLoop)) harr₂⟩
      | exit id => exact ⟨_, a₁, w₁, hq, .pass (x := .inLoop c) rfl (fun _ _ => .inl (by simp)) harr⟩
      | goto l => exact ⟨_, a₁, w₁, hq, .pass (x := .inLoop c) rfl (fun _ _ => .inl (by simp)) harr⟩
      | ret => exact ⟨_, a₁, w₁, hq, .pass (x := .inLoop c) rfl (fun _ _ => .inl (by simp)) harr⟩
      | panic ch => exact ⟨_, a₁, w₁, hq, .pass (x := .inLoop c) rfl (fun _ _ => .inl (by simp)) harr⟩
      | outgrown => exact ⟨_, a₁, w₁, hq, .pass (x := .inLoop c) rfl (fun _ _ => .inl (by simp)) harr⟩
  obtain ⟨e, a', w', hq, harr⟩ := key _ a w h₀
  exact ⟨e, a', w', hq, .of_steps (.one step_loop) harr⟩

section
variable {T : Tab} {by_ : Nat → Bool} {ann : Ann} {Φ : Known} {P : Program} {w0 : World} {E I0 : Nat → Prop} {r : A} {X : List Blk}

def Claim (T : Tab) (by_ : Nat → Bool) (ann : Ann) (Φ : Known) (P : Program) (w0 : World) (E I0 : Nat → Prop) (r : A) (X : List Blk) (c : Code) (m : Nat) : Prop :=
  ∀ (n : Nat) (K : Ex → St → Free) (C : Ctx) (st : St) (a : Act) (w : World) (f : Nat → Nat) (Q : Exit → Act → World → Prop), Inv w0 E I0 C st a w f → RunsN T by_ ann Φ m (exec T by_ ann c n st K) r X →
    (∀ m' x st' a' w' C' f', m' ≤ m → RunsN T by_ ann Φ m' (K x st') r X → Inv w0 E I0 C' st' a' w' f' → Q x.to a' w') → c.wp P Q a w

theorem exec_ok (hby : ∀ g, by_ g = false) (hΦ : ∀ f as x a x', Φ.calls f as x a x' → Holds P f as x a x') (hT : TabOk P T) (hm : P.follows .mixedOrders = true)
    (hΨ : ∀ ops st st1, Φ.draws ops st st1 → Draws P ops st st1) : ∀ (m : Nat) (c : Code), Claim T by_ ann Φ P w0 E I0 r X c m := by
  intro m
  induction m using Nat.strongRecOn with
  | _ m ihm =>
  have up : ∀ c, Claim T by_ ann Φ P w0 E I0 r X c m → ∀ m' ≤ m, Claim T by_ ann Φ P w0 E I0 r X c m' := by
    intro c hc m' hm
    rcases Nat.lt_or_eq_of_le hm with h | h
    · exact ihm m' h c
    · rw [h]; exact hc
  intro c
  induction c with
  | skip =>
    intro n K C st a w f Q hI hR hQ
    exact wp_skip (hQ m .normal _ _ _ _ _ (Nat.le_refl _) hR hI)
  | exit id =>
    intro n K C st a w f Q hI hR hQ
    exact wp_exit (hQ m (.exit id) _ _ _ _ _ (Nat.le_refl _) hR hI)
  | ret =>
    intro n K C st a w f Q hI hR hQ
    exact wp_ret (hQ m .ret _ _ _ _ _ (Nat.le_refl _) hR hI)
  | seq x y ihx ihy =>
    intro n K C st a w f Q hI hR hQ
    refine wp_seq (ihx n _ C st a w f _ hI hR ?_)
    intro m' e st' a' w' C' f' hm hR' hI'
    cases e with
    | normal => exact up y ihy m' hm n K C' st' a' w' f' Q hI' hR' fun m1 x1 s1 a1 w1 C1 f1 h1 => hQ m1 x1 s1 a1 w1 C1 f1 (Nat.le_trans h1 hm)
    | exit id => exact hQ m' (.exit id) _ _ _ _ _ hm hR' hI'
    | ret => exact hQ m' .ret _ _ _ _ _ hm hR' hI'
  | region id ops draw =>
    intro n K C st a w f Q hI hR hQ
    simp only [exec] at hR
    cases draw with
    | true =>
      rw [if_pos rfl] at hR
      cases m with
      | zero => exact hR.elim
      | succ m =>
      obtain ⟨st1, hd, hR⟩ := hR
      refine wp_mono (Q := onlyNormal fun a w => Q .normal a w) (wp_region_any hm ?_) ?_
      · refine hΨ _ _ _ hd w0 E I0 C a _ f _ hI.drew ?_
        intro a' w' C' f' hI'
        exact hQ m .normal _ _ _ _ _ (by omega) hR hI'
      · intro e a w he
        cases e with
        | normal => exact he
        | exit => exact he.elim
        | goto => exact he.elim
        | ret => exact he.elim
        | panic => exact he.elim
        | outgrown => exact he.elim
    | false =>
      rw [if_neg (by simp)] at hR
      refine wp_region ?_
      rw [List.range_eq_range']
      refine opsG_ok (K := K .normal) hby hΦ hT Q ops.size 0 (by omega) hI (by simpa using hR) ?_
      intro m' st' a' w' C' f' hm hR' hI'
      exact hQ m' .normal _ _ _ _ _ hm hR' hI'
  | cond c t e iht ihe =>
    intro n K C st a w f Q hI hR hQ
    simp only [exec] at hR
    split at hR
    case h_2 => exact hR.bad.elim
    rename_i b hb
    obtain ⟨m', rfl, hR⟩ := hR.ask
    have hc := ev_rep hI.env c
    rw [hb] at hc
    refine wp_cond (inv_v hc) ?_
    cases b with
    | true =>
      rw [if_pos rfl]
      exact ihm m' (by omega) t n K C st a w f Q hI hR fun m1 x1 s1 a1 w1 C1 f1 h1 => hQ m1 x1 s1 a1 w1 C1 f1 (by omega)
    | false =>
      rw [if_neg (by simp)]
      exact ihm m' (by omega) e n K C st a w f Q hI hR fun m1 x1 s1 a1 w1 C1 f1 h1 => hQ m1 x1 s1 a1 w1 C1 f1 (by omega)
  | block id c ihc =>
    intro n K C st a w f Q hI hR hQ
    simp only [exec] at hR
    refine wp_block (ihc id _ C st a w f _ hI hR ?_)
    intro m' e st' a' w' C' f' hm hR' hI'
    cases e with
    | normal => exact hQ m' .normal _ _ _ _ _ hm hR' hI'
    | ret => exact hQ m' .ret _ _ _ _ _ hm hR' hI'
    | exit j =>
      simp only [Ex.to, Exit.inBlock]
      by_cases hj : j = id
      · simp only [if_pos hj] at hR' ⊢
        exact hQ m' .normal _ _ _ _ _ hm hR' hI'
      · simp only [if_neg hj] at hR' ⊢
        exact hQ m' (.exit j) _ _ _ _ _ hm hR' hI'
  | loop c ihc =>
    intro n K C st a w f Q hI hR hQ
    simp only [exec] at hR
    cases m with
    | zero => exact hR.elim
    | succ m =>
    have hR : RunsN T by_ ann Φ m (exec T by_ ann c n (st.only (ann.of n)) (back (ann.of n) n c K)) r X := hR
    refine wp_loop_n (m := m) (fun m' a w => m' ≤ m ∧ ∃ C st f, Inv w0 E I0 C st a w f ∧ RunsN T by_ ann Φ m' (exec T by_ ann c n (st.only (ann.of n)) (back (ann.of n) n c K)) r X) ⟨Nat.le_refl _, C, st, f, hI, hR⟩ ?_
    rintro m' a' w' ⟨hm', C', st', f', hI', hR'⟩
    obtain ⟨C2, f2, hI2⟩ := hI'.only (ann.of n)
    refine ihm m' (by omega) c n _ C2 _ a' w' f2 _ hI2 hR' ?_
    intro m1 e s1 a1 w1 C1 f1 h1 hR1 hI1
    cases e with
    | normal =>
      cases m1 with
      | zero => exact hR1.elim
      | succ m1 => exact ⟨m1, by omega, by omega, C1, s1, f1, hI1, hR1⟩
    | exit id => exact hQ m1 (.exit id) _ _ _ _ _ (by omega) hR1 hI1
    | ret => exact hQ m1 .ret _ _ _ _ _ (by omega) hR1 hI1
  | rangeFunc => intro n K C st a w f Q hI hR hQ; exact hR.bad.elim
  | scope => intro n K C st a w f Q hI hR hQ; exact hR.bad.elim
  | label => intro n K C st a w f Q hI hR hQ; exact hR.bad.elim
  | goto => intro n K C st a w f Q hI hR hQ; exact hR.bad.elim
  | refuse => intro n K C st a w f Q hI hR hQ; exact hR.bad.elim
end

/-- What one sees of a context from outside. -/
def Ctx.out (C : Ctx) : Ctx := { C with B := fun | .l _ => none | .x j => C.B (.x j) }
theorem Ctx.bareOut (C : Ctx) : C.bare.To C.out := ⟨fun _ h => h, rfl, fun i blk h => by cases h⟩
theorem Ctx.To.out {C D : Ctx} (t : C.To D) : C.out.To D.out := ⟨t.I, t.F, fun i blk h => by
  cases i with
  | l k => cases h
  | x j => exact t.B (.x j) blk h⟩

section
variable {w0 : World} {E I0 : Nat → Prop} {C : Ctx} {st : St} {a : Act} {w : World} {f g : Nat → Nat}

theorem outC_ok {b b' : A} {st' : St} {x : Value} (h : outC st b = some (b', st')) (hI : InvG w0 E I0 C st a w f g) (hx : Rep1 C w b x fun _ => 0) :
    ∃ C' f' gx, InvG w0 E I0 C' st' a w f' (fun n => g n + gx n) ∧ C.To C' ∧ Rep1 C'.out w b' x gx ∧ st'.ext = st.ext ∧ C'.I = C.I := by
  unfold outC at h
  split at h
  · rename_i j off len tot
    simp at h
    obtain ⟨rfl, rfl⟩ := h
    refine ⟨C, f, fun _ => 0, hI, .refl C, ?_, rfl, rfl⟩
    cases hx with
    | ms hb h1 hm h => exact .ms (C := C.out) hb h1 hm z0
  · obtain ⟨C', f', gx, i1, t1, q1, _, _, e2, e3⟩ := insC_ok h hI hx
    exact ⟨C', f', gx, i1, t1, RepL.to q1 C'.bareOut, e2, e3⟩

theorem outL_ok : ∀ {l l' : List A} {st st' : St} {C : Ctx} {f g : Nat → Nat} {xs : List Value} (_ : outL st l = some (l', st')) (_ : InvG w0 E I0 C st a w f g) (_ : RepL C w l xs fun _ => 0),
    ∃ C' f' gx, InvG w0 E I0 C' st' a w f' (fun n => g n + gx n) ∧ C.To C' ∧ RepL C'.out w l' xs gx ∧ st'.ext = st.ext ∧ C'.I = C.I
  | [], l', st, st', C, f, g, xs, h, hI, hx => by
    simp [outL] at h
    obtain ⟨rfl, rfl⟩ := h
    cases hx
    exact ⟨C, f, fun _ => 0, hI, .refl C, z0, rfl, rfl⟩
  | b :: l, l', st, st', C, f, g, xs, h, hI, hx => by
    simp only [outL] at h
    split at h
    case h_2 => simp at h
    rename_i b1 st1 h1
    split at h
    case h_2 => simp at h
    rename_i l1 st2 h2
    simp at h
    obtain ⟨rfl, rfl⟩ := h
    obtain ⟨x, ys, rfl, r1, r2⟩ := hx.cons0
    obtain ⟨C1, f1, g1, i1, t1, q1, e1, ei1⟩ := outC_ok h1 hI r1
    obtain ⟨C2, f2, g2, i2, t2, q2, e2, ei2⟩ := outL_ok h2 i1 (r2.to t1)
    exact ⟨C2, f2, fun n => g1 n + g2 n, i2.congr fun n => by show g n + (g1 n + g2 n) ≤ g n + g1 n + g2 n; omega, t1.trans t2, RepL.app (RepL.to q1 t2.out) q2 (fun _ => rfl), e2.trans e1, ei2.trans ei1⟩

theorem outA_ok {b b' : A} {st' : St} {x : Value} (h : outA st b = some (b', st')) (hI : InvG w0 E I0 C st a w f g) (hx : Rep1 C w b x fun _ => 0) :
    ∃ C' f' gx, InvG w0 E I0 C' st' a w f' (fun n => g n + gx n) ∧ C.To C' ∧ Rep1 C'.out w b' x gx ∧ st'.ext = st.ext ∧ C'.I = C.I := by
  unfold outA at h
  split at h
  · rename_i cs
    split at h
    case h_2 => simp at h
    rename_i ds st1 h1
    simp at h
    obtain ⟨rfl, rfl⟩ := h
    obtain ⟨ys, rfl, hys⟩ := inv_agg hx
    obtain ⟨C1, f1, g1, i1, t1, q1, e1, ei1⟩ := outL_ok h1 hI hys
    exact ⟨C1, f1, g1, i1, t1, .agg (f1 := g1) (f2 := fun _ => 0) (fun n => by simp) q1 z0, e1, ei1⟩
  · exact outC_ok h hI hx

theorem outAs_ok : ∀ {l l' : List A} {st st' : St} {C : Ctx} {f g : Nat → Nat} {xs : List Value} (_ : outAs st l = some (l', st')) (_ : InvG w0 E I0 C st a w f g) (_ : RepL C w l xs fun _ => 0),
    ∃ C' f' gx, InvG w0 E I0 C' st' a w f' (fun n => g n + gx n) ∧ C.To C' ∧ RepL C'.out w l' xs gx ∧ st'.ext = st.ext ∧ C'.I = C.I
  | [], l', st, st', C, f, g, xs, h, hI, hx => by
    simp [outAs] at h
    obtain ⟨rfl, rfl⟩ := h
    cases hx
    exact ⟨C, f, fun _ => 0, hI, .refl C, z0, rfl, rfl⟩
  | b :: l, l', st, st', C, f, g, xs, h, hI, hx => by
    simp only [outAs] at h
    split at h
    case h_2 => simp at h
    rename_i b1 st1 h1
    split at h
    case h_2 => simp at h
    rename_i l1 st2 h2
    simp at h
    obtain ⟨rfl, rfl⟩ := h
    obtain ⟨x, ys, rfl, r1, r2⟩ := hx.cons0
    obtain ⟨C1, f1, g1, i1, t1, q1, e1, ei1⟩ := outA_ok h1 hI r1
    obtain ⟨C2, f2, g2, i2, t2, q2, e2, ei2⟩ := outAs_ok h2 i1 (r2.to t1)
    exact ⟨C2, f2, fun n => g1 n + g2 n, i2.congr fun n => by show g n + (g1 n + g2 n) ≤ g n + g1 n + g2 n; omega, t1.trans t2, RepL.app (RepL.to q1 t2.out) q2 (fun _ => rfl), e2.trans e1, ei2.trans ei1⟩

/-- What a function's end tells, of the model's frame. -/
theorem resultOf_ok {P : Program} {T : Tab} (hT : TabOk P T) (hI : Inv w0 E I0 C st a w f) {v : ResultVar} {b : A} (h : resultOf T st v = some b) :
    ∃ x, ((match v with
      | .tmp t => pure (a.tmps.getD t undef)
      | .cell c t => do loadVar t (← asAddr (a.tmps.getD c undef))) : Sem Value).run P w = .ok x w ∧ Rep1 C w b x fun _ => 0 := by
  cases v with
  | tmp t =>
    simp [resultOf] at h
    have := hI.env.getD t
    refine ⟨a.tmps.getD t undef, rfl, ?_⟩
    rw [← h]
    rw [show a.tmps.getD t undef = a.tmps.toList.getD t undef from by simp [List.getD, Array.getD_eq_getD_getElem?]]
    simpa [List.getD] using this
  | cell t ty =>
    simp only [resultOf] at h
    split at h
    case h_2 => simp at h
    rename_i i ei
    split at h
    case h_2 => simp at h
    rename_i blk hb
    split at h
    case isFalse => simp at h
    rename_i hc
    obtain ⟨hbx, hl, ht, hle⟩ := hc
    simp at h
    have hp := hI.env.getD t
    rw [ei] at hp
    obtain ⟨blk', hB, hon, htt, hx, hlt⟩ := hI.refOk (by simp [St.live, hb, hl]) hp
    have hB' := (hI.get hb).2.1
    rw [hB] at hB'; cases hB'
    rcases hI.blk hb with ⟨he, _⟩ | ⟨fb, ⟨c, e, fz, g1, g2, g3, g4, g5, gx, g6, g7⟩, hfb⟩
    · rw [he] at hl; simp at hl
    have hcl := getD_cells g3 (i := 0) (by omega)
    have hcap : blk.es.length * blk.k ≤ (C.μ i).cap * blk.k := Nat.mul_le_mul_right _ g4
    have h1k : blk.es.length * blk.k = blk.k := by rw [hl, Nat.one_mul]
    obtain ⟨f', hf', hrep⟩ := rep_load (T := T) (t := ty) (o := 0) (i := 0) ht g3 (by omega) (by omega) (by omega) (hT.one ht) g7
    have hrep : Rep1 C w _ _ f' := RepL.to hrep (C.forTo _)
    refine ⟨_, ?_, by rw [← h]; exact RepL.congr hrep fun n => by have := hf' n; have := gx hbx n; show 0 = _; omega⟩
    have hx' : a.tmps.getD t undef = .pointer (some ⟨(C.μ i).blk, (C.μ i).base + 0 * blk.k + 0, none⟩) := by
      rw [show a.tmps.getD t undef = a.tmps.toList.getD t undef from by simp [List.getD, Array.getD_eq_getD_getElem?]]
      exact hx
    simp only [hx', Sem.run_bind, asAddr, Sem.run_pure, Result.andThen_ok]
    exact run_loadVar hT ht g1 (by omega)
end
end Go.AM

/- What a run of the machine tells of a function. -/
namespace Go.AM
open Go

def readResult (a : Act) (v : ResultVar) : Sem Value := match v with
  | .tmp t => pure (a.tmps.getD t undef)
  | .cell c t => do loadVar t (← asAddr (a.tmps.getD c undef))

def pack : List Value → Value
  | [x] => x
  | xs => .tuple xs.toArray
theorem pack_ne {xs : List Value} (h : ∀ y, xs ≠ [y]) : pack xs = .tuple xs.toArray := by
  match xs, h with
  | [], _ => rfl
  | [y], h => exact (h y rfl).elim
  | y :: z :: l, _ => rfl

theorem okIL_cells {p : Id → Bool} {a : A} (h : a.okI p = true) : okIL p a.cells = true := by
  cases a <;> simp_all [A.okI, A.cells, okIL]
theorem okIL_append {p : Id → Bool} {l m : List A} : okIL p (l ++ m) = (okIL p l && okIL p m) := by
  induction l with
  | nil => rfl
  | cons a l ih => simp [okIL, ih, Bool.and_assoc]
theorem okIL_flat {p : Id → Bool} {es : List A} (h : okIL p es = true) : okIL p (flat es) = true := by
  induction es with
  | nil => rfl
  | cons a l ih =>
    simp only [okIL, Bool.and_eq_true] at h
    simp only [flat, List.flatMap_cons] at *
    rw [okIL_append, ih h.2, okIL_cells h.1]
    rfl

section
variable {w0 : World} {E I0 : Nat → Prop} {C : Ctx} {st : St} {a : Act} {w : World} {f g : Nat → Nat}

theorem results_ok {P : Program} {T : Tab} (hT : TabOk P T) (hI : Inv w0 E I0 C st a w f) : ∀ {l : List ResultVar} {bs : List A}, resultsOf T st l = some bs →
    ∃ xs : List Value, (l.mapM (readResult a)).run P w = .ok xs w ∧ RepL C w bs xs fun _ => 0
  | [], bs, h => by
    simp [resultsOf] at h
    subst h
    exact ⟨[], by simp, z0⟩
  | v :: l, bs, h => by
    simp only [resultsOf] at h
    split at h
    case h_2 => simp at h
    rename_i b s hb hs
    simp at h
    subst h
    obtain ⟨x, hx, r1⟩ := resultOf_ok hT hI hb
    obtain ⟨xs, hxs, r2⟩ := results_ok hT hI hs
    have hx : (readResult a v).run P w = .ok x w := hx
    refine ⟨x :: xs, ?_, r1.cons0 r2⟩
    rw [List.mapM_cons]
    simp only [Sem.run_bind, hx, Result.andThen_ok, hxs, Sem.run_pure]

theorem run_results {P : Program} {fn : Func} {xs : List Value} (h : (fn.results.toList.mapM (readResult a)).run P w = .ok xs w) :
    (results fn a.tmps).run P w = .ok (pack xs) w := by
  have e : results fn a.tmps = (do
      let vs ← fn.results.mapM (readResult a)
      pure (if h : vs.size = 1 then vs[0] else .tuple vs)) := rfl
  rw [e, Array.mapM_eq_mapM_toList]
  simp only [Sem.run_bind, h, Result.andThen_ok, Sem.run_pure, map_eq_pure_bind, bind_assoc, pure_bind]
  match xs with
  | [] => rfl
  | [x] => rfl
  | x :: y :: l => simp [pack]

theorem ext_out {i : Id} (hI : ∀ i, C.B i = st.raw i) : C.out.B i = St.raw ⟨[], [], st.ext⟩ i := by
  cases i with
  | l k => rfl
  | x j => exact hI (.x j)

theorem MemR.out {l : List (Id × Blk)} {f : Nat → Nat} (h : MemR C w l f) (hl : ∀ p ∈ l, isXB p.2 = true) : MemR C.out w l f := by
  induction h with
  | nil h => exact .nil h
  | off ho _ ih => exact .off ho (ih fun p hp => hl p (List.mem_cons_of_mem _ hp))
  | nul ho he hc _ ih => exact .nul ho he hc (ih fun p hp => hl p (List.mem_cons_of_mem _ hp))
  | @row i b r f f1 f2 ho hb hf _ ih =>
    refine .row ho ?_ hf (ih fun p hp => hl p (List.mem_cons_of_mem _ hp))
    have hx := hl _ (List.mem_cons_self ..)
    obtain ⟨c, e, fz, h1, h2, h3, h4, h5, h6, h7, h8⟩ := hb
    refine ⟨c, e, fz, h1, h2, h3, h4, h5, h6, h7, ?_⟩
    cases hbx : b.box with
    | false => rw [hbx] at h8; exact h8
    | true =>
      rw [hbx] at h8
      simp only [isXB, hbx, Bool.not_true, Bool.false_or] at hx
      refine RepL.kept h8 (okIL_flat hx) rfl rfl rfl ?_
      intro i blk hi hB
      cases i with
      | l k => simp [isXp] at hi
      | x j => exact ⟨blk, hB, rfl, rfl, rfl⟩

theorem leC_ok {a b : A} {x : Value} {f : Nat → Nat} (h : LeC a b) (hr : Rep1 C w a x f) : Rep1 C w b x f := by
  rcases h with rfl | ⟨rfl, s, rfl⟩
  · exact hr
  · cases hr with
    | v h => exact .nils h
theorem leL_ok : ∀ {l m : List A} {xs : List Value} {f : Nat → Nat}, LeL l m → RepL C w l xs f → RepL C w m xs f
  | [], [], _, _, _, hr => hr
  | a :: l, b :: m, xs, f, h, hr => by
    obtain ⟨x, ys, f1, f2, rfl, hf, h1, h2⟩ := hr.cons
    exact Rep1.cons (leC_ok h.1 h1) (leL_ok h.2 h2) hf
  | [], _ :: _, _, _, h, _ => h.elim
  | _ :: _, [], _, _, h, _ => h.elim
theorem leA_ok {a b : A} {x : Value} {f : Nat → Nat} (h : LeA a b) (hr : Rep1 C w a x f) : Rep1 C w b x f := by
  unfold LeA at h
  split at h
  · cases hr with
    | agg hf h1 h2 => exact .agg hf (leL_ok h h1) h2
  · exact leC_ok h hr
theorem leT_ok : ∀ {l m : List A} {xs : List Value} {f : Nat → Nat}, LeT l m → RepL C w l xs f → RepL C w m xs f
  | [], [], _, _, _, hr => hr
  | a :: l, b :: m, xs, f, h, hr => by
    obtain ⟨x, ys, f1, f2, rfl, hf, h1, h2⟩ := hr.cons
    exact Rep1.cons (leA_ok h.1 h1) (leT_ok h.2 h2) hf
  | [], _ :: _, _, _, h, _ => h.elim
  | _ :: _, [], _, _, h, _ => h.elim
theorem le_ok {a b : A} {x : Value} {f : Nat → Nat} (h : Le a b) (hr : Rep1 C w a x f) : Rep1 C w b x f := by
  unfold Le at h
  split at h
  · cases hr with
    | tup hf h1 h2 => exact .tup hf (leT_ok h h1) h2
  · exact leA_ok h hr

end

theorem rep_any {C : Ctx} {w : World} : ∀ (n : Nat) (v : Value), RepL C w (List.replicate n .any) (List.replicate n v) fun _ => 0
  | 0, _ => z0
  | n + 1, v => .any (rep_any n v)

/-- THE MACHINE IS SOUND: what a run of it comes to is what the function does. -/
theorem holds_of_runs {P : Program} {T : Tab} {by_ : Nat → Bool} {ann : Ann} {Φ : Known} (hT : TabOk P T) (hm : P.follows .mixedOrders = true) (hby : ∀ g, by_ g = false) (hΦ : ∀ f as x a x', Φ.calls f as x a x' → Holds P f as x a x')
    (hΨ : ∀ ops st st1, Φ.draws ops st st1 → Draws P ops st st1)
    {f : Nat} {fn : Func} {c : Code} (hf : P.funcs[f]? = some fn) (hname : (fn.name == "runtime.NumGoroutine") = false) (hb : fn.body = some c) {as : List A} {X X' : List Blk} {r : A}
    (hR : Runs T by_ ann Φ (execFun T by_ ann fn as X) r X') : Holds P f as X r X' := by
  obtain ⟨m, hR⟩ := hR
  refine ⟨⟨fn, c, hf, hname, hb⟩, ?_⟩
  intro C w xs fx hF hB hI hon hmem hone hown hrep
  refine calls_of_wp hf hb ?_
  unfold execFun at hR
  rw [hb] at hR
  simp only at hR
  have hlen := hrep.length
  have hstart : Inv w (fun b => 1 ≤ fx b) C.I C (start fn as X) { tmps := xs.toArray ++ Array.replicate (fn.ntmps - xs.toArray.size) undef, defers := [] } w fx := {
    defers := rfl
    raw := fun i => by rw [hB]; cases i <;> rfl
    first := hF
    below := hI
    old := fun b hb => .inl hb
    keep := fun b hb => hb
    extOn := hon
    uniq := by
      simp only [St.entries, start, List.map_nil, List.nil_append]
      have hm : ∀ (l : List Blk), (l.mapIdx fun j b => ((.x j : Id), b)).map (·.1) = (List.range l.length).map .x := by
        intro l
        apply List.ext_getElem?
        intro i
        simp only [List.getElem?_map, List.getElem?_mapIdx, Option.map_map]
        by_cases hi : i < l.length
        · simp [hi]
        · simp [hi]
      rw [hm]
      exact List.Pairwise.map _ (fun a b h => by intro e; cases e; exact h rfl) List.nodup_range
    env := by
      simp only [start, Array.toList_append, Array.toList_replicate, List.size_toArray]
      rw [hlen]
      exact hrep.app (rep_any _ _) fun _ => rfl
    mem := by
      simp only [St.entries, start, List.map_nil, List.nil_append]
      exact hmem
    one := hone
    own := fun b hb => ⟨hown b hb, .inl hb⟩
    same := .refl _ _ }
  refine exec_ok (r := r) (X := X') hby hΦ hT hm hΨ m c 0 _ C _ _ w fx _ hstart hR ?_
  intro m' x st' a' w' C' f' hm hR' hI'
  have key : RunsN T by_ ann Φ m' (finish T fn.results.toList st') r X' → a'.defers = [] ∧ ∃ v, (results fn a'.tmps).run P w' = .ok v w' ∧
      ∃ D fr fx', D.F = C.F ∧ (∀ i, D.B i = St.raw ⟨[], [], X'⟩ i) ∧ (∀ b, C.I b → D.I b) ∧ (∀ b, D.I b → C.I b ∨ w.heap.size ≤ b) ∧ (∀ b, D.I b → b < w'.heap.size) ∧ (∀ b ∈ X', b.on = true) ∧
          Same (fun b => 1 ≤ fx b) w w' ∧ MemR D w' (extEntries X') fx' ∧ Rep1 D w' r v fr ∧ (∀ b, fx' b + fr b ≤ 1) ∧
          (∀ b, 1 ≤ fx' b + fr b → ¬ D.I b ∧ (1 ≤ fx b ∨ w.heap.size ≤ b) ∧ b < w'.heap.size) := by
    intro hR
    unfold finish at hR
    split at hR
    · exact hR.bad.elim
    rename_i vs hvs
    split at hR
    · exact hR.bad.elim
    rename_i ws st1 hws
    split at hR
    case isFalse => exact hR.bad.elim
    rename_i hx
    obtain ⟨ys, hys, r1⟩ := results_ok hT hI' hvs
    obtain ⟨C1, f1, gx, i1, t1, q1, e1, ei1⟩ := outAs_ok hws hI'.toG r1
    refine ⟨hI'.defers, _, run_results hys, ?_⟩
    have hm := i1.mem
    unfold St.entries at hm
    obtain ⟨k1, k2, hk, m1, m2⟩ := hm.split
    have mext : MemR C1.out w' (extEntries st1.ext) k2 := by
      refine MemR.out m2 ?_
      intro p hp
      obtain ⟨i, hi, rfl⟩ := List.mem_mapIdx.1 hp
      exact List.all_eq_true.1 hx _ (List.getElem_mem hi)
    have fin : ∀ (a : A) (v : Value), Le a r → st1.ext = X' → Rep1 C1.out w' a v gx → ∃ D fr fx', D.F = C.F ∧ (∀ i, D.B i = St.raw ⟨[], [], X'⟩ i) ∧ (∀ b, C.I b → D.I b) ∧ (∀ b, D.I b → C.I b ∨ w.heap.size ≤ b) ∧ (∀ b, D.I b → b < w'.heap.size) ∧ (∀ b ∈ X', b.on = true) ∧
          Same (fun b => 1 ≤ fx b) w w' ∧ MemR D w' (extEntries X') fx' ∧ Rep1 D w' r v fr ∧ (∀ b, fx' b + fr b ≤ 1) ∧
          (∀ b, 1 ≤ fx' b + fr b → ¬ D.I b ∧ (1 ≤ fx b ∨ w.heap.size ≤ b) ∧ b < w'.heap.size) := by
      intro a v hle hX hr
      subst hX
      refine ⟨C1.out, gx, k2, ?_, fun i => ext_out i1.raw, i1.keep, i1.old, i1.below, i1.extOn, i1.same, mext, le_ok hle hr, ?_, ?_⟩
      · show C1.F = C.F
        rw [i1.first, hF]
      · intro b; have := i1.one b; have := hk b; show k2 b + gx b ≤ 1; omega
      · intro b hb
        exact i1.own b (by have := hk b; show 1 ≤ f1 b + (0 + gx b); omega)
    cases m' with
    | zero => exact hR.elim
    | succ m' =>
    split at hR
    · rename_i b
      obtain ⟨hle, hX⟩ := hR
      obtain ⟨y, ys', rfl, s1, s2⟩ : ∃ y ys', ys = y :: ys' ∧ RepL C1.out w' [b] [y] gx ∧ ys' = [] := by
        cases ys with
        | nil => have := q1.length; simp at this
        | cons y l =>
          have hl : l = [] := by have := q1.length; simp at this; exact this
          subst hl
          exact ⟨y, [], rfl, q1, rfl⟩
      subst s2
      exact fin b y hle hX s1
    · rename_i hne
      obtain ⟨hle, hX⟩ := hR
      refine fin _ _ hle hX ?_
      have hys : ∀ y, ys ≠ [y] := by
        rintro y rfl
        have := q1.length
        cases ws with
        | nil => simp at this
        | cons b l =>
          have hl : l = [] := by simp at this; exact this
          subst hl
          exact hne b rfl
      rw [pack_ne hys]
      exact .tup (f1 := gx) (f2 := fun _ => 0) (fun n => by simp) q1 z0
  cases x with
  | exit n => exact hR'.bad.elim
  | normal => exact key hR'
  | ret => exact key hR'


/-- What is known of a program. -/
def known (P : Program) : Known := ⟨Holds P, Draws P⟩
def noBy : Nat → Bool := fun _ => false

/-- The machine as it is used. -/
theorem holds_of {P : Program} {T : Tab} {ann : Ann} (hT : TabOk P T) (hm : P.follows .mixedOrders = true) {f : Nat} {fn : Func} {c : Code} (hf : P.funcs[f]? = some fn) (hname : (fn.name == "runtime.NumGoroutine") = false) (hb : fn.body = some c)
    {as : List A} {X X' : List Blk} {r : A} (hR : Runs T noBy ann (known P) (execFun T noBy ann fn as X) r X') : Holds P f as X r X' :=
  holds_of_runs hT hm (fun _ => rfl) (fun _ _ _ _ _ h => h) (fun _ _ _ h => h) hf hname hb hR

theorem draws_by {P : Program} {T : Tab} {ann : Ann} (hT : TabOk P T) {ops : Array Oper} {st st1 : St} (s : Sched) (hok : (Region.noSelect ops && s.ok ops ops.size none (Array.replicate ops.size false)) = true)
    (h : ∀ (K : St → Free) (r : A) (X : List Blk), Runs T noBy ann (known P) (K st1) r X → Runs T noBy ann (known P) (drawS T noBy ops s st K) r X) : (known P).draws ops st st1 :=
  draws_of s (fun _ => rfl) (fun _ _ _ _ _ h => h) hT hok h

end Go.AM

/- Rules for the machine's use. -/
namespace Go.AM
open Go

section
variable {T : Tab} {by_ : Nat → Bool} {ann : Ann} {Φ : Known}
theorem Free.call_congr {f : Nat} {as as' : List A} {x : List Blk} {k : A → List Blk → Free} (h : as = as') : Free.call f as x k = Free.call f as' x k := by rw [h]
theorem Free.draw_congr {ops : Array Oper} {st st' : St} {k : St → Free} (h : st = st') : Free.draw ops st k = Free.draw ops st' k := by rw [h]
theorem Free.loop_congr {keep : List Nat} {n : Nat} {c : Code} {st st' : St} {k : Ex → St → Free} (h : st = st') : Free.loop keep n c st k = Free.loop keep n c st' k := by rw [h]

/-- A loop: states by what they tell, a measure that falls, what stays. -/
theorem Runs.while {α : Type} {keep : List Nat} {n : Nat} {c : Code} {K : Ex → St → Free} {r : A} {X : List Blk} (S : α → St) (μ : α → Nat) (I : α → Prop) (a0 : α) (h0 : I a0) {st : St} (hst : st.only keep = S a0)
    (step : ∀ a, I a → (∀ a' st', μ a' < μ a → I a' → st'.only keep = S a' → Runs T by_ ann Φ (.loop keep n c st' K) r X) → Runs T by_ ann Φ (exec T by_ ann c n (S a) (back keep n c K)) r X) :
    Runs T by_ ann Φ (.loop keep n c st K) r X := by
  have key : ∀ (m : Nat) (a : α) (st : St), μ a = m → I a → st.only keep = S a → Runs T by_ ann Φ (.loop keep n c st K) r X := by
    intro m
    induction m using Nat.strongRecOn with
    | _ m ih =>
      intro a st hm ha hs
      refine Runs.loop ?_
      rw [hs]
      exact step a ha fun a' st' hlt hi hs' => ih (μ a') (hm ▸ hlt) a' st' rfl hi hs'
  exact key _ a0 st rfl h0 hst
end

section
variable {T : Tab} {by_ : Nat → Bool} {ann : Ann} {Φ : Known} {r : A} {X : List Blk}
theorem Runs.ask_iff {b : Bool} {k : Bool → Free} : Runs T by_ ann Φ (.ask b k) r X ↔ Runs T by_ ann Φ (k b) r X := by
  refine ⟨fun ⟨m, h⟩ => ?_, Runs.ask⟩
  cases m with
  | zero => exact h.elim
  | succ m => exact ⟨m, h⟩
theorem Runs.ask_true {k : Bool → Free} : Runs T by_ ann Φ (.ask true k) r X ↔ Runs T by_ ann Φ (k true) r X := Runs.ask_iff
theorem Runs.ask_false {k : Bool → Free} : Runs T by_ ann Φ (.ask false k) r X ↔ Runs T by_ ann Φ (k false) r X := Runs.ask_iff
theorem Runs.chk_true {k : Free} : Runs T by_ ann Φ (.chk true k) r X ↔ Runs T by_ ann Φ k r X := by
  refine ⟨fun ⟨m, h⟩ => ?_, Runs.chk rfl⟩
  cases m with
  | zero => exact h.elim
  | succ m => exact ⟨m, h.2⟩
theorem Runs.ret_v {v : Value} {x : List Blk} : Runs T by_ ann Φ (.ret (.v v) x) (.v v) x := Runs.ret (.inl rfl) rfl
end

theorem wrap_i64 {n : Int} (h1 : -9223372036854775808 ≤ n) (h2 : n < 9223372036854775808) : IntKind.i64.wrap n = n := by
  unfold IntKind.wrap
  simp only [IntKind.bits, IntKind.signed]
  simp
  omega

end Go.AM

/- A law's arguments, opened: what a reading met, by content. -/
namespace Go.AM
open Go Go.ChangeShapes Go.RowKit

/-- At a law's begin nothing that stands is written. -/
def Ctx.top (w : World) : Ctx := ⟨fun _ => ⟨0, 0, 0⟩, fun _ => none, fun b => b < w.heap.size, w.heap.size⟩

/-- How data of a type are told by content. -/
structure Codec (P : Program) (t : TypeId) (α : Type) where
  k : Nat
  pos : k ≠ 0
  cells : α → List A
  elem : α → A
  ok : α → Prop
  size : ∀ x, (cells x).length = k
  one : ∀ x, (cells x).all A.one = true
  elemCells : ∀ x, (elem x).cells = cells x
  cellsOf : P.cellsOf t = k
  opens : ∀ {H : Type} {enc : TypeId × Value → H} {w : World} {fuel : Nat} {cs : List Value} {d : DataW H × List MemPlace}, DataW.trod enc P w 0 (fun _ => true) true fuel t cs = some d →
    ∃ x, ok x ∧ RepL (Ctx.top w) w (cells x) cs fun _ => 0

section
variable {P : Program}

def Codec.int {t : TypeId} {k : IntKind} (hu : P.underlying t = some (.int k)) (hc : P.cellsOf t = 1) : Codec P t Int where
  k := 1
  pos := by simp
  cells n := [.v (.int k n)]
  elem n := .v (.int k n)
  ok n := k.min ≤ n ∧ n ≤ k.max
  size _ := rfl
  one _ := rfl
  elemCells _ := rfl
  cellsOf := hc
  opens h := by
    obtain ⟨n, rfl, _, hw⟩ := DataW.trod_int hu h
    simp only [Lit.wf, Bool.and_eq_true, decide_eq_true_eq] at hw
    exact ⟨n, hw, .v z0⟩

def Codec.bool {t : TypeId} (hu : P.underlying t = some .bool) (hc : P.cellsOf t = 1) : Codec P t Bool where
  k := 1
  pos := by simp
  cells b := [.v (.bool b)]
  elem b := .v (.bool b)
  ok _ := True
  size _ := rfl
  one _ := rfl
  elemCells _ := rfl
  cellsOf := hc
  opens h := by
    obtain ⟨b, rfl, _⟩ := DataW.trod_bool hu h
    exact ⟨b, trivial, .v z0⟩

def Codec.string {t : TypeId} (hu : P.underlying t = some .string) (hc : P.cellsOf t = 1) : Codec P t ByteArray where
  k := 1
  pos := by simp
  cells s := [.v (.string s)]
  elem s := .v (.string s)
  ok s := s.size ≤ maxLen
  size _ := rfl
  one _ := rfl
  elemCells _ := rfl
  cellsOf := hc
  opens h := by
    obtain ⟨s, rfl, _, hs⟩ := DataW.trod_string hu h
    exact ⟨s, hs, .v z0⟩

theorem flat_map {α : Type} {g : α → A} {cs : α → List A} (h : ∀ x, (g x).cells = cs x) (L : List α) : flat (L.map g) = L.flatMap cs := by
  induction L with
  | nil => rfl
  | cons x l ih => simp only [flat, List.map_cons, List.flatMap_cons] at *; rw [ih, h]

theorem add_zero' (a : Addr) : a.add 0 = a := by simp [Addr.add]
theorem add_block' (a : Addr) (n : Nat) : (a.add n).block = a.block := by unfold Addr.add; split <;> rfl
theorem add_off' (a : Addr) (n : Nat) : (a.add n).off = a.off + n := by
  unfold Addr.add
  split
  · rename_i h; subst h; simp
  · rfl

theorem cell_row {w : World} {a : Addr} {v : Value} (h : w.cell? a = some v) : ∃ c e fz, w.heap[a.block]? = some (.cells c e fz) ∧ a.spot = none ∧ c[a.off]? = some v := by
  unfold World.cell? at h
  split at h
  case h_2 => simp at h
  rename_i c e fz hrow
  split at h
  · simp at h
  rename_i hsp
  exact ⟨c, e, fz, hrow, by simpa using hsp, h⟩

theorem cells_row {w : World} {base : Nat} {a : Addr} {n : Nat} {cs : List Value} (hn : n ≠ 0) (h : w.cells? base a n = some cs) :
    ∃ c e fz, w.heap[a.block]? = some (.cells c e fz) ∧ a.spot = none ∧ a.off + n ≤ c.size ∧ cs = (c.toList.drop a.off).take n := by
  obtain ⟨_, hl, hi⟩ := World.cells?_some h
  have h0 := hi 0 (by omega)
  have hlt : 0 < cs.length := by omega
  rw [List.getElem?_eq_getElem hlt, add_zero'] at h0
  obtain ⟨c, e, fz, hrow, hsp, _⟩ := cell_row h0
  have all : ∀ i, i < n → c[a.off + i]? = cs[i]? := by
    intro i hin
    have h1 := hi i hin
    rw [List.getElem?_eq_getElem (by omega)] at h1
    obtain ⟨c', e', fz', q1, q2, q3⟩ := cell_row h1
    rw [add_block', hrow] at q1
    cases q1
    rw [add_off'] at q3
    rw [q3, List.getElem?_eq_getElem (by omega)]
  have hlast := all (n - 1) (by omega)
  have hsz : a.off + n ≤ c.size := by
    rw [List.getElem?_eq_getElem (by omega)] at hlast
    have := (Array.getElem?_eq_some_iff.1 hlast).1
    omega
  refine ⟨c, e, fz, hrow, hsp, hsz, ?_⟩
  apply List.ext_getElem?
  intro i
  by_cases hin : i < n
  · rw [List.getElem?_take_of_lt hin, List.getElem?_drop, ← all i hin]
    simp
  · rw [List.getElem?_eq_none (by omega), List.getElem?_eq_none (by simp; omega)]

def Codec.slice {t e : TypeId} {α : Type} (c : Codec P e α) (hu : P.underlying t = some (.slice e)) (hc : P.cellsOf t = 1) : Codec P t (List α) where
  k := 1
  pos := by simp
  cells L := [.sl .sh (L.map c.elem)]
  elem L := .sl .sh (L.map c.elem)
  ok L := L.length ≤ maxLen ∧ ∀ x ∈ L, c.ok x
  size _ := rfl
  one _ := rfl
  elemCells _ := rfl
  cellsOf := hc
  opens {H enc w fuel cs d} h := by
    rcases DataW.trod_slice hu h with ⟨rfl, _⟩ | ⟨a, len, cap, elems, rest, n, _, rfl, _, hb, hl, hm, hlen, hel, hsp, _⟩
    · exact ⟨[], ⟨by simp, by simp⟩, .nils z0⟩
    · obtain ⟨hrl, hr⟩ := hsp rfl
      by_cases hcap : cap = 0
      · have h0 : len = 0 := by omega
        subst hcap h0
        exact ⟨[], ⟨by simp, by simp⟩, .nils z0⟩
      have hk := c.cellsOf
      -- the row
      have hrow : ∃ cc e' fz, w.heap[a.block]? = some (.cells cc e' fz) ∧ a.spot = none ∧ a.off ≤ cc.size := by
        by_cases h0 : len = 0
        · have := hr 0 (by omega)
          rw [List.getElem?_eq_getElem (by omega)] at this
          obtain ⟨cs', hcs, _⟩ := Option.bind_eq_some_iff.1 this
          simp only [hk, h0, Nat.add_zero, Nat.zero_mul, add_zero'] at hcs
          obtain ⟨cc, e', fz, h1, h2, h3, _⟩ := cells_row c.pos hcs
          exact ⟨cc, e', fz, h1, h2, by omega⟩
        · have := hel 0 (by omega)
          rw [List.getElem?_eq_getElem (by omega)] at this
          obtain ⟨cs', hcs, _⟩ := Option.bind_eq_some_iff.1 this
          simp only [hk, Nat.zero_mul, add_zero'] at hcs
          obtain ⟨cc, e', fz, h1, h2, h3, _⟩ := cells_row c.pos hcs
          exact ⟨cc, e', fz, h1, h2, by omega⟩
      obtain ⟨cc, e', fz, hr1, hr2, hr3⟩ := hrow
      -- the elements, one behind the other
      have build : ∀ m, m ≤ len → ∃ L : List α, L.length = m ∧ (∀ x ∈ L, c.ok x) ∧ a.off + m * c.k ≤ cc.size ∧ (RepL (Ctx.top w) w (flat (L.map c.elem)) ((cc.toList.drop a.off).take (m * c.k)) fun _ => 0) ∧
          Ones ((cc.toList.drop a.off).take (m * c.k)) := by
        intro m
        induction m with
        | zero => intro _; exact ⟨[], rfl, by simp, by omega, by simpa [flat] using z0, by intro v hv; simp at hv⟩
        | succ m ih =>
          intro hm'
          obtain ⟨L, h1, h2, h3, h4, h5⟩ := ih (by omega)
          have := hel m (by omega)
          rw [List.getElem?_eq_getElem (by omega)] at this
          obtain ⟨cs', hcs, htr⟩ := Option.bind_eq_some_iff.1 this
          rw [hk] at hcs
          obtain ⟨cc', e'', fz', q1, q2, q3, q4⟩ := cells_row c.pos hcs
          rw [add_block'] at q1
          rw [add_off'] at q3 q4
          rw [hr1] at q1
          cases q1
          obtain ⟨x, hx, hrep⟩ := c.opens htr
          have hseg : (cc.toList.drop a.off).take ((m + 1) * c.k) = (cc.toList.drop a.off).take (m * c.k) ++ cs' := by
            rw [Nat.succ_mul, List.take_add, List.drop_drop, q4]
          refine ⟨L ++ [x], by simp [h1], ?_, by rw [Nat.succ_mul]; omega, ?_, ?_⟩
          · intro y hy
            rcases List.mem_append.1 hy with hy | hy
            · exact h2 y hy
            · rw [List.mem_singleton.1 hy]; exact hx
          · rw [hseg, List.map_append]
            have : flat (L.map c.elem ++ [x].map c.elem) = flat (L.map c.elem) ++ c.cells x := by simp [flat, c.elemCells]
            rw [this]
            exact h4.app hrep fun _ => rfl
          · rw [hseg]
            intro v hv
            rcases List.mem_append.1 hv with hv | hv
            · exact h5 v hv
            · exact ones_rep (c.one x) hrep v hv
      obtain ⟨L, h1, h2, h3, h4, h5⟩ := build len (Nat.le_refl _)
      refine ⟨L, ⟨by rw [h1]; omega, h2⟩, ?_⟩
      have hlm : (L.map c.elem).length = len := by simp [h1]
      have : RepL (Ctx.top w) w [.sl .sh (L.map c.elem)] [.slice (some a) (L.map c.elem).length cap] fun _ => 0 :=
        .sl (k := c.k) hr1 hr2 (by intro y hy; obtain ⟨x, _, rfl⟩ := List.mem_map.1 hy; rw [c.elemCells, c.size]) (by rw [hlm]; exact hl) (by rw [hlm]; exact h3) (heap_lt hr1) (.inl rfl) (by rw [hlm]; exact h5) (fun _ => rfl) (by rw [hlm]; exact h4) z0
      rw [hlm] at this
      exact this

/-- The fields of a struct from a place on. -/
structure Fields (P : Program) (off : Nat) (fs : List Field) (α : Type) where
  k : Nat
  cells : α → List A
  ok : α → Prop
  size : ∀ x, (cells x).length = k
  one : ∀ x, (cells x).all A.one = true
  opens : ∀ {H : Type} {enc : TypeId × Value → H} {w : World} {n : Nat} {cs : List Value} {xs : List (DataW H × List MemPlace)}, xs.length = fs.length → off + k ≤ cs.length →
    (∀ (i : Nat) (f : Field), fs[i]? = some f → DataW.trod enc P w 0 (fun _ => true) true n f.type ((cs.drop f.offset).take (P.cellsOf f.type)) = xs[i]?) →
    ∃ x, ok x ∧ RepL (Ctx.top w) w (cells x) ((cs.drop off).take k) fun _ => 0

def Fields.nil {off : Nat} : Fields P off [] Unit where
  k := 0
  cells _ := []
  ok _ := True
  size _ := rfl
  one _ := rfl
  opens _ _ _ := ⟨(), trivial, by simpa using z0⟩

def Fields.cons {off : Nat} {f : Field} {fs : List Field} {α β : Type} (c : Codec P f.type α) (r : Fields P (off + c.k) fs β) (ho : f.offset = off) : Fields P off (f :: fs) (α × β) where
  k := c.k + r.k
  cells x := c.cells x.1 ++ r.cells x.2
  ok x := c.ok x.1 ∧ r.ok x.2
  size x := by rw [List.length_append, c.size, r.size]
  one x := by rw [List.all_append, c.one, r.one]; rfl
  opens {H enc w n cs xs} hl hle h := by
    match xs, hl with
    | y :: ys, hl =>
      have h0 := h 0 f rfl
      simp only [List.getElem?_cons_zero] at h0
      obtain ⟨x1, o1, r1⟩ := c.opens h0
      obtain ⟨x2, o2, r2⟩ := r.opens (cs := cs) (xs := ys) (by simpa using hl) (by omega) (fun i g hg => by simpa using h (i + 1) g (by simpa using hg))
      refine ⟨(x1, x2), ⟨o1, o2⟩, ?_⟩
      rw [ho, c.cellsOf] at r1
      rw [List.take_add, List.drop_drop]
      exact r1.app r2 fun _ => rfl

def Codec.struct {t : TypeId} {fs : Array Field} {α : Type} (F : Fields P 0 fs.toList α) (hu : P.underlying t = some (.struct fs)) (hc : P.cellsOf t = F.k) (hp : F.k ≠ 0) : Codec P t α where
  k := F.k
  pos := hp
  cells := F.cells
  elem x := .agg (F.cells x)
  ok := F.ok
  size := F.size
  one := F.one
  elemCells _ := rfl
  cellsOf := hc
  opens {H enc w fuel cs d} h := by
    obtain ⟨xs, n, _, _, hl, hxs, hf⟩ := DataW.trod_struct hu h
    obtain ⟨x, ho, hr⟩ := F.opens (xs := xs) (by simpa using hxs) (by rw [hl, hc]; omega) (fun i f hi => hf i f (by simpa using hi))
    refine ⟨x, ho, ?_⟩
    rw [List.drop_zero, List.take_of_length_le (by rw [hl, hc]; exact Nat.le_refl _)] at hr
    exact hr

/-- The same data under another shape. -/
def Codec.map {t : TypeId} {α β : Type} (c : Codec P t α) (f : α → β) (g : β → α) (h : ∀ x, g (f x) = x) : Codec P t β where
  k := c.k
  pos := c.pos
  cells y := c.cells (g y)
  elem y := c.elem (g y)
  ok y := c.ok (g y)
  size y := c.size (g y)
  one y := c.one (g y)
  elemCells y := c.elemCells (g y)
  cellsOf := c.cellsOf
  opens hd := by
    obtain ⟨x, ho, hr⟩ := c.opens hd
    exact ⟨f x, by rw [h]; exact ho, by rw [h]; exact hr⟩

/-- An argument of a law. -/
theorem Codec.arg {t : TypeId} {α : Type} (c : Codec P t α) {H : Type} {enc : TypeId × Value → H} {w : World} {v : Value} {d : DataW H} {ps : List MemPlace} (h : DataW.Trod enc P w 0 (fun _ => true) true t v d ps)
    (hv : ∀ x, (∃ cs, c.elem x = .agg cs) → ∃ cs, v = .agg cs) (hv2 : ∀ x, c.cells x = [c.elem x] → v.cells = #[v]) (hx : ∀ x, c.elem x = .agg (c.cells x) ∨ c.cells x = [c.elem x]) :
    ∃ x, c.ok x ∧ Rep1 (Ctx.top w) w (c.elem x) v fun _ => 0 := by
  obtain ⟨fuel, h⟩ := h
  obtain ⟨x, ho, hr⟩ := c.opens h
  refine ⟨x, ho, ?_⟩
  rcases hx x with h1 | h1
  · obtain ⟨cs, rfl⟩ := hv x ⟨_, h1⟩
    rw [h1]
    simp only [Value.cells] at hr
    exact .agg (ys := cs.toList) (fun _ => rfl) hr z0
  · rw [h1, hv2 x h1] at hr
    exact hr

/-- A law's call: it answers, and what stood before stands as it did. -/
theorem Holds.law {f : Nat} {as : List A} {v : Value} (h : Holds P f as [] (.v v) []) {w : World} {xs : List Value} (hr : RepL (Ctx.top w) w as xs fun _ => 0) :
    Calls P f xs.toArray w fun e w' => e = .returned v ∧ Below w.heap.size w w' := by
  have := h.calls (Ctx.top w) w xs (fun _ => 0) rfl (fun i => by rw [raw_nil]; rfl) (fun b hb => hb) (by simp) (.nil fun _ => rfl) (by simp) (by intro b hb; simp at hb) hr
  refine Calls.mono this ?_
  intro e w' he
  cases e with
  | panicked c => exact he.elim
  | outgrown => exact he.elim
  | returned u =>
    obtain ⟨D, fr, fx', _, _, _, _, _, _, hs, _, hrep, _, _⟩ := he
    refine ⟨by rw [inv_v hrep], hs.os, hs.tape, hs.output, hs.size, fun k hk => hs.block k hk (by simp)⟩
end
end Go.AM

/- The machine stepped by rewriting: one law for each step, on states told in full; what comes behind a branching, a call, a round is kept shut until it is reached. -/
namespace Go.AM
open Go

section
variable (T : Tab) (by_ : Nat → Bool) (ann : Ann)

def seqK (b : Code) (n : Nat) (K : Ex → St → Free) : Ex → St → Free := fun x s => match x with
  | .normal => exec T by_ ann b n s K
  | x => K x s
def blockK (m : Nat) (K : Ex → St → Free) : Ex → St → Free := fun x s => match x with
  | .exit j => if j = m then K .normal s else K (.exit j) s
  | x => K x s
def condK (t f : Code) (n : Nat) (st : St) (K : Ex → St → Free) : Bool → Free := fun y => match y with
  | true => exec T by_ ann t n st K
  | false => exec T by_ ann f n st K
def condA (t f : Code) (n : Nat) (st : St) (K : Ex → St → Free) : A → Free
  | .v (.bool b) => .ask b (condK T by_ ann t f n st K)
  | _ => .bad
def finK (rs : List ResultVar) : Ex → St → Free := fun x st => match x with
  | .exit _ => .bad
  | _ => finish T rs st
def opX (st : St) (d : Option Nat) (op : Op) (K : St → Free) : Free := op1 T by_ st ⟨d, op, 0, "", #[], none⟩ K
def guardK (st : St) (t : Nat) (d : Option Nat) (op : Op) (want : Bool) (K : St → Free) : Bool → Free := fun y =>
  if y = want then opX T by_ (st.dst (some t) (.v (.bool y))) d op K
  else K ((st.dst (some t) (.v (.bool y))).dst d (.v (.tuple #[])))
def guardA (st : St) (t : Nat) (d : Option Nat) (op : Op) (want : Bool) (K : St → Free) : A → Free
  | .v (.bool b) => .ask b (guardK T by_ st t d op want K)
  | .v (.tuple _) => K (st.dst d (.v (.tuple #[])))
  | _ => .bad
def guardO (st : St) (d : Option Nat) (op : Op) (want : Bool) (K : St → Free) : Option Nat → Free
  | none => .bad
  | some t => guardA T by_ st t d op want K (st.env.getD t .any)
def pickK (st : St) (d : Option Nat) (a b : A) (K : St → Free) : Bool → Free := fun y => match y with
  | true => K (st.dst d a)
  | false => K (st.dst d b)
def pickA (st : St) (d : Option Nat) (a b : A) (K : St → Free) : A → Free
  | .v (.bool t) => .ask t (pickK st d a b K)
  | _ => .bad
def callK (st : St) (d : Option Nat) (args : List A) (K : St → Free) : A → List Blk → Free := fun r xs =>
  if xs.length = 0 ∧ ((!(args.any hasMs)) || r.free) = true then
    match inR st (keyOf d) r with
    | some (a, st1) => K (st1.dst d a)
    | none => .bad
  else .bad
def callA (st : St) (d : Option Nat) (f : Nat) (args : List A) (K : St → Free) : Option (List A) → Free
  | none => .bad
  | some as => .call f as [] (callK st d args K)
def callF (st : St) (d : Option Nat) (args : List A) (K : St → Free) : A → Free
  | .v (.func (.func g) fs cs) => if fs.size = 0 ∧ cs.size = 0 then opCallFn by_ st d g args K else .bad
  | .fn (.func g) fs cs => opCallFn by_ st d g (fs ++ args ++ cs) K
  | _ => .bad
def lenX (st : St) (d : Option Nat) (K : St → Free) : TK → A → Free
  | .string, x => match x with
    | .v (.string s) => K (st.dst d (.v (.int .i64 s.size)))
    | _ => .bad
  | .slice _, x => match st.lenOf x with
    | some n => K (st.dst d (.v (.int .i64 n)))
    | none => .bad
  | _, _ => .bad
def extractX (st : St) (d : Option Nat) (i : Nat) (K : St → Free) : A → Free
  | .tup vs => match vs[i]? with
    | some a => K (st.dst d a)
    | none => .bad
  | _ => .bad
def indexX (st : St) (d : Option Nat) (K : St → Free) (k : TK) (x : A) (ix : Option Int) : Free :=
  match k, x, ix with
  | .string, .v (.string s), some n => .chk (decide (0 ≤ n ∧ n < s.size)) (K (st.dst d (byteA (s.data.toList.getD n.toNat 0))))
  | .array m et, .agg cs, some n => .chk (decide (0 ≤ n ∧ n < m))
      (if (T.row et).size = 1 ∧ (T.row et).isAgg = false ∧ cs.length = m then K (st.dst d (cs.getD n.toNat .any)) else .bad)
  | _, _, _ => .bad
def fieldX (st : St) (d : Option Nat) (f : Nat) (K : St → Free) (k : TK) (x : A) : Free :=
  match k with
  | .struct fs => match fs[f]?, x with
    | some (off, size, ft), .agg cs => if off + size ≤ cs.length ∧ size = (T.row ft).size ∧ size ≠ 0 then K (st.dst d ((T.row ft).loadFrom (.agg cs) off)) else .bad
    | _, _ => .bad
  | _ => .bad
def fieldAddrX (st : St) (d : Option Nat) (f : Nat) (K : St → Free) (k : TK) (x : A) : Free :=
  match k with
  | .struct fs => match fs[f]?, x with
    | some (off, _, _), .ref b i o' tot => if st.live b tot then K (st.dst d (.ref b i (o' + off) tot)) else .bad
    | some (off, _, _), .ptr es i o' => K (st.dst d (.ptr es i (o' + off)))
    | _, _ => .bad
  | _ => .bad
def sliceX (st : St) (d : Option Nat) (lo hi mx : Option A) (K : St → Free) (k : TK) (x : A) : Free :=
  match k with
  | .slice et => opSliceL st d (T.row et).size x lo hi mx K
  | .string => match x with
    | .v (.string s) => opSliceS st d s lo hi mx K
    | _ => .bad
  | _ => .bad
def storeX (st : St) (t : Nat) (p v : A) (K : St → Free) : Option Nat → Free
  | none => opStore T st t p v K
  | some _ => .bad
def maxX (f : A → A → Option A) (st : St) (d : Option Nat) (K : St → Free) (n : Nat) : List A → Free
  | x :: r => if n = 1 then .bad else match foldA f x r with
    | some a => K (st.dst d a)
    | none => .bad
  | _ => .bad
def appX (st : St) (d : Option Nat) (K : St → Free) : List Nat → List A → Free
  | [t, t2], [s, x] => opAppend T st d t t2 s x K
  | _, _ => .bad
def len1X (st : St) (d : Option Nat) (K : St → Free) : List Nat → List A → Free
  | [t], [x] => lenX st d K (T.row t).kind x
  | _, _ => .bad
end

section
variable {T : Tab} {by_ : Nat → Bool} {ann : Ann} {e : List A} {m : List (Nat × Blk)} {x : List Blk} {n : Nat} {K : Ex → St → Free} {k : St → Free} {d : Option Nat} {st : St}

theorem execFun_eq {name origin : String} {targs params rts : Array TypeId} {nfree ntmps : Nat} {rs : Array ResultVar} {c : Code} {nr ours : Bool} {file : String} {el : Nat} {ln : Option Nat} {met : List Departure} {tn : Array String} {as : List A} {X : List Blk} :
    execFun T by_ ann ⟨name, origin, targs, params, rts, nfree, ntmps, rs, some c, nr, ours, file, el, ln, met, tn⟩ as X = exec T by_ ann c 0 ⟨as ++ List.replicate (ntmps - as.length) .any, [], X⟩ (finK T rs.toList) := Eq.trans rfl rfl
theorem x_skip : exec T by_ ann .skip n ⟨e, m, x⟩ K = K .normal ⟨e, m, x⟩ := Eq.trans rfl rfl
theorem x_seq {a b : Code} : exec T by_ ann (.seq a b) n ⟨e, m, x⟩ K = exec T by_ ann a n ⟨e, m, x⟩ (seqK T by_ ann b n K) := Eq.trans rfl rfl
theorem x_region {i : Nat} {ops : Array Oper} : exec T by_ ann (.region i ops false) n ⟨e, m, x⟩ K = opsG T by_ ops (K .normal) ops.toList ⟨e, m, x⟩ := Eq.trans rfl rfl
theorem x_draw {i : Nat} {ops : Array Oper} : exec T by_ ann (.region i ops true) n ⟨e, m, x⟩ K = .draw ops ⟨e, m, x⟩ (K .normal) := Eq.trans rfl rfl
theorem x_cond {c : Operand} {t f : Code} : exec T by_ ann (.cond c t f) n ⟨e, m, x⟩ K = condA T by_ ann t f n ⟨e, m, x⟩ K (ev e c) := by
  show (match ev e c with | .v (.bool b) => _ | _ => _) = _
  cases ev e c with
  | v y => cases y <;> rfl
  | _ => rfl
theorem x_block {i : Nat} {c : Code} : exec T by_ ann (.block i c) n ⟨e, m, x⟩ K = exec T by_ ann c i ⟨e, m, x⟩ (blockK i K) := Eq.trans rfl rfl
theorem x_loop {c : Code} : exec T by_ ann (.loop c) n ⟨e, m, x⟩ K = .loop (ann.of n) n c ⟨e, m, x⟩ K := Eq.trans rfl rfl
theorem x_exit {j : Nat} : exec T by_ ann (.exit j) n ⟨e, m, x⟩ K = K (.exit j) ⟨e, m, x⟩ := Eq.trans rfl rfl
theorem x_ret : exec T by_ ann .ret n ⟨e, m, x⟩ K = K .ret ⟨e, m, x⟩ := Eq.trans rfl rfl
theorem condA_b {t f : Code} {b : Bool} : condA T by_ ann t f n st K (.v (.bool b)) = .ask b (condK T by_ ann t f n st K) := Eq.trans rfl rfl
theorem condK_t {t f : Code} : condK T by_ ann t f n st K true = exec T by_ ann t n st K := Eq.trans rfl rfl
theorem condK_f {t f : Code} : condK T by_ ann t f n st K false = exec T by_ ann f n st K := Eq.trans rfl rfl
theorem seqK_n {b : Code} : seqK T by_ ann b n K .normal st = exec T by_ ann b n st K := Eq.trans rfl rfl
theorem seqK_e {b : Code} {j : Nat} : seqK T by_ ann b n K (.exit j) st = K (.exit j) st := Eq.trans rfl rfl
theorem seqK_r {b : Code} : seqK T by_ ann b n K .ret st = K .ret st := Eq.trans rfl rfl
theorem blockK_n {i : Nat} : blockK i K .normal st = K .normal st := Eq.trans rfl rfl
theorem blockK_e {i j : Nat} : blockK i K (.exit j) st = if j = i then K .normal st else K (.exit j) st := Eq.trans rfl rfl
theorem blockK_r {i : Nat} : blockK i K .ret st = K .ret st := Eq.trans rfl rfl
theorem back_n {keep : List Nat} {c : Code} : back keep n c K .normal st = .loop keep n c st K := Eq.trans rfl rfl
theorem back_e {keep : List Nat} {c : Code} {j : Nat} : back keep n c K (.exit j) st = K (.exit j) st := Eq.trans rfl rfl
theorem back_r {keep : List Nat} {c : Code} : back keep n c K .ret st = K .ret st := Eq.trans rfl rfl
theorem finK_n {rs : List ResultVar} : finK T rs .normal st = finish T rs st := Eq.trans rfl rfl
theorem finK_r {rs : List ResultVar} : finK T rs .ret st = finish T rs st := Eq.trans rfl rfl
theorem finish_eq {rs : List ResultVar} : finish T rs ⟨e, m, x⟩ = match resultsOf T ⟨e, m, x⟩ rs with
  | none => .bad
  | some vs => match outAs ⟨e, m, x⟩ vs with
    | none => .bad
    | some (ws, st1) => if (st1.ext.all isXB) = true then
        (match ws with
        | [a] => .ret a st1.ext
        | ws => .ret (.tup ws) st1.ext) else .bad := Eq.trans rfl rfl
theorem results_nil : resultsOf T ⟨e, m, x⟩ [] = some [] := Eq.trans rfl rfl
theorem results_cons {v : ResultVar} {r : List ResultVar} : resultsOf T ⟨e, m, x⟩ (v :: r) = match resultOf T ⟨e, m, x⟩ v, resultsOf T ⟨e, m, x⟩ r with
  | some a, some s => some (a :: s)
  | _, _ => none := Eq.trans rfl rfl
theorem result_tmp {t : Nat} : resultOf T ⟨e, m, x⟩ (.tmp t) = some (e.getD t .any) := Eq.trans rfl rfl
theorem result_cell {t ty : Nat} : resultOf T ⟨e, m, x⟩ (.cell t ty) = match e.getD t .any with
    | .ref b 0 0 1 => match St.get ⟨e, m, x⟩ b with
      | some blk => if blk.box = true ∧ blk.es.length = 1 ∧ (T.row ty).size ≠ 0 ∧ (T.row ty).size ≤ (blk.es.getD 0 .any).cells.length then some ((T.row ty).loadFrom (blk.es.getD 0 .any) 0) else none
      | none => none
    | _ => none := Eq.trans rfl rfl

theorem ops_nil {ops : Array Oper} : opsG T by_ ops k [] ⟨e, m, x⟩ = k ⟨e, m, x⟩ := Eq.trans rfl rfl
theorem ops_cons {ops : Array Oper} {o : Oper} {r : List Oper} : opsG T by_ ops k (o :: r) ⟨e, m, x⟩ = opG T by_ ops ⟨e, m, x⟩ o (opsG T by_ ops k r) := Eq.trans rfl rfl
theorem opG_n {ops : Array Oper} {op : Op} {ty : TypeId} {pos : String} {after : Array Edge} : opG T by_ ops ⟨e, m, x⟩ ⟨d, op, ty, pos, after, none⟩ k = opX T by_ ⟨e, m, x⟩ d op k := Eq.trans rfl rfl
theorem opG_s {ops : Array Oper} {op : Op} {ty : TypeId} {pos : String} {after : Array Edge} {j : Nat} {want : Bool} :
    opG T by_ ops ⟨e, m, x⟩ ⟨d, op, ty, pos, after, some (j, want)⟩ k = guardO T by_ ⟨e, m, x⟩ d op want k ((ops[j]?).bind (·.dst)) := by
  show (match (ops[j]?).bind (·.dst) with | none => _ | some t => _) = _
  cases (ops[j]?).bind (·.dst) with
  | none => rfl
  | some t =>
    show (match e.getD t .any with | .v (.bool b) => _ | .v (.tuple _) => _ | _ => _) = guardA T by_ ⟨e, m, x⟩ t d op want k (e.getD t .any)
    cases e.getD t .any with
    | v y => cases y <;> rfl
    | _ => rfl
theorem guardO_s {op : Op} {want : Bool} {t : Nat} : guardO T by_ ⟨e, m, x⟩ d op want k (some t) = guardA T by_ ⟨e, m, x⟩ t d op want k (e.getD t .any) := Eq.trans rfl rfl
theorem guardA_b {op : Op} {want : Bool} {t : Nat} {b : Bool} : guardA T by_ st t d op want k (.v (.bool b)) = .ask b (guardK T by_ st t d op want k) := Eq.trans rfl rfl
theorem guardA_t {op : Op} {want : Bool} {t : Nat} {vs : Array Value} : guardA T by_ st t d op want k (.v (.tuple vs)) = k (st.dst d (.v (.tuple #[]))) := Eq.trans rfl rfl
theorem guardK_tt {op : Op} {t : Nat} : guardK T by_ st t d op true k true = opX T by_ (st.dst (some t) (.v (.bool true))) d op k := Eq.trans rfl rfl
theorem guardK_ff {op : Op} {t : Nat} : guardK T by_ st t d op false k false = opX T by_ (st.dst (some t) (.v (.bool false))) d op k := Eq.trans rfl rfl
theorem guardK_tf {op : Op} {t : Nat} : guardK T by_ st t d op true k false = k ((st.dst (some t) (.v (.bool false))).dst d (.v (.tuple #[]))) := Eq.trans rfl rfl
theorem guardK_ft {op : Op} {t : Nat} : guardK T by_ st t d op false k true = k ((st.dst (some t) (.v (.bool true))).dst d (.v (.tuple #[]))) := Eq.trans rfl rfl

theorem dst_s {t : Nat} {a : A} : St.dst ⟨e, m, x⟩ (some t) a = ⟨e.set t a, m, x⟩ := Eq.trans rfl rfl
theorem dst_n {a : A} : St.dst ⟨e, m, x⟩ none a = ⟨e, m, x⟩ := Eq.trans rfl rfl
theorem ev_t {t : Nat} : ev e (.tmp t) = e.getD t .any := Eq.trans rfl rfl
theorem ev_c {v : Value} : ev e (.const v) = .v v := Eq.trans rfl rfl
theorem ev_g {g : Nat} : ev e (.global g) = .v (.pointer (some ⟨g, 0, none⟩)) := Eq.trans rfl rfl
theorem ev_f {g : Nat} : ev e (.func g) = .v (.func (.func g) #[] #[]) := Eq.trans rfl rfl
theorem get_l {j : Nat} : St.get ⟨e, m, x⟩ (.l j) = getB m j := Eq.trans rfl rfl
theorem get_x {j : Nat} : St.get ⟨e, m, x⟩ (.x j) = x[j]? := Eq.trans rfl rfl
theorem getB_eq {j : Nat} : getB m j = match findB m j with | some b => if b.on then some b else none | none => none := Eq.trans rfl rfl
theorem put_l {j : Nat} {b : Blk} : St.put ⟨e, m, x⟩ (.l j) b = ⟨e, setB m j b, x⟩ := Eq.trans rfl rfl
theorem put_x {j : Nat} {b : Blk} : St.put ⟨e, m, x⟩ (.x j) b = ⟨e, m, x.set j b⟩ := Eq.trans rfl rfl
theorem kill_eq {j : Nat} : St.kill ⟨e, m, x⟩ j = ⟨e, setB m j ⟨false, 0, false, []⟩, x⟩ := Eq.trans rfl rfl
theorem new_eq {j : Nat} {b : Blk} : St.new ⟨e, m, x⟩ j b = ⟨e, addB m j b, x⟩ := Eq.trans rfl rfl
theorem keyOf_s {t : Nat} : keyOf (some t) = t * 64 := Eq.trans rfl rfl
theorem keyOf_n : keyOf none = 0 := Eq.trans rfl rfl

theorem x_move {y : Operand} : opX T by_ ⟨e, m, x⟩ d (.move y) k = k (St.dst ⟨e, m, x⟩ d (ev e y)) := Eq.trans rfl rfl
theorem x_assign {y : Operand} : opX T by_ ⟨e, m, x⟩ d (.assign y) k = k (St.dst ⟨e, m, x⟩ d (ev e y)) := Eq.trans rfl rfl
theorem x_pick {c a b : Operand} : opX T by_ ⟨e, m, x⟩ d (.pick c a b) k = pickA ⟨e, m, x⟩ d (ev e a) (ev e b) k (ev e c) := by
  show (match ev e c with | .v (.bool b) => _ | _ => _) = _
  cases ev e c with
  | v y => cases y <;> rfl
  | _ => rfl
theorem pickA_b {a b : A} {t : Bool} : pickA st d a b k (.v (.bool t)) = .ask t (pickK st d a b k) := Eq.trans rfl rfl
theorem pickK_t {a b : A} : pickK st d a b k true = k (st.dst d a) := Eq.trans rfl rfl
theorem pickK_f {a b : A} : pickK st d a b k false = k (st.dst d b) := Eq.trans rfl rfl
theorem x_alloc {t : Nat} : opX T by_ ⟨e, m, x⟩ d (.alloc t) k = if (T.row t).size = 0 then .bad else opBox ⟨e, m, x⟩ d (T.row t).zeroA k := Eq.trans rfl rfl
theorem x_box {t : Nat} {y : Operand} : opX T by_ ⟨e, m, x⟩ d (.box t y) k = opBox ⟨e, m, x⟩ d (ev e y) k := Eq.trans rfl rfl
theorem opBox_eq {a : A} : opBox ⟨e, m, x⟩ d a k = match findB m (keyOf d) with
  | some _ => .bad
  | none => if a.cells.all A.one = true then k (St.dst ⟨e, addB m (keyOf d) ⟨true, a.cells.length, true, [a]⟩, x⟩ d (.ref (.l (keyOf d)) 0 0 1)) else .bad := Eq.trans rfl rfl
theorem x_build {t : Nat} {ps : Array (Nat × Operand)} : opX T by_ ⟨e, m, x⟩ d (.build t ps) k = opBuild T ⟨e, m, x⟩ d t (ps.toList.map fun p => (p.1, ev e p.2)) k := Eq.trans rfl rfl
theorem opBuild_eq {t : Nat} {ps : List (Nat × A)} : opBuild T ⟨e, m, x⟩ d t ps k =
  match (T.row t).kind with
  | .struct fs => match buildCells fs ((T.row t).zero.map .v) ps with
    | some cs => k (St.dst ⟨e, m, x⟩ d (.agg cs))
    | none => .bad
  | .array n e' =>
    match (if (T.row e').size ≠ 0 then buildCells ((List.range n).map fun i => (i * (T.row e').size, (T.row e').size, e')) ((T.row t).zero.map .v) ps else none) with
    | some cs => k (St.dst ⟨e, m, x⟩ d (.agg cs))
    | none => .bad
  | _ => .bad := Eq.trans rfl rfl
theorem x_buildSlice {t l : Nat} {ps : Array (Nat × Operand)} : opX T by_ ⟨e, m, x⟩ d (.buildSlice t l ps) k = opBuildSlice T ⟨e, m, x⟩ d t l (ps.toList.map fun p => (p.1, ev e p.2)) k := Eq.trans rfl rfl
theorem opBuildSlice_eq {t len : Nat} {ps : List (Nat × A)} : opBuildSlice T ⟨e, m, x⟩ d t len ps k =
  match (T.row t).kind, insAs ⟨e, m, x⟩ (ps.map (·.2)) with
  | .slice e, some (as, st1) => match findB st1.mem (keyOf d) with
    | some _ => .bad
    | none =>
      if (T.row e).size ≠ 0 ∧ len * (T.row e).size ≤ 16777216 ∧ ps.all (fun p => decide (p.1 < len)) = true ∧ as.all (fun a => a.cells.length == (T.row e).size) = true then
        k ((st1.new (keyOf d) ⟨true, (T.row e).size, false, fillA (T.row e).size (List.replicate len (T.row e).zeroA) ((ps.map (·.1)).zip as)⟩).dst d (.ms (.l (keyOf d)) 0 len len))
      else .bad
  | _, _ => .bad := Eq.trans rfl rfl
theorem x_load {t : Nat} {p : Operand} : opX T by_ ⟨e, m, x⟩ d (.load t p) k = opLoad T ⟨e, m, x⟩ d t (ev e p) k := Eq.trans rfl rfl
theorem opLoad_ref {t : Nat} {b : Id} {i off tot : Nat} : opLoad T ⟨e, m, x⟩ d t (.ref b i off tot) k =
  if (T.row t).size = 0 then .bad else match St.get ⟨e, m, x⟩ b with
    | some blk => if tot = blk.es.length ∧ off + (T.row t).size ≤ (blk.es.getD i .any).cells.length ∧ (blk.box || ((T.row t).loadFrom (blk.es.getD i .any) off).plain) = true then k (St.dst ⟨e, m, x⟩ d ((T.row t).loadFrom (blk.es.getD i .any) off)) else .bad
    | none => .bad := Eq.trans rfl rfl
theorem opLoad_ptr {t : Nat} {es : List A} {i off : Nat} : opLoad T ⟨e, m, x⟩ d t (.ptr es i off) k =
  if (T.row t).size = 0 then .bad else
    if off + (T.row t).size ≤ (es.getD i .any).cells.length then k (St.dst ⟨e, m, x⟩ d ((T.row t).loadFrom (es.getD i .any) off)) else .bad := Eq.trans rfl rfl
theorem x_store {t : Nat} {p v : Operand} : opX T by_ ⟨e, m, x⟩ d (.store t p v) k = storeX T ⟨e, m, x⟩ t (ev e p) (ev e v) k d := by cases d <;> rfl
theorem storeX_n {t : Nat} {p v : A} : storeX T ⟨e, m, x⟩ t p v k none = opStore T ⟨e, m, x⟩ t p v k := Eq.trans rfl rfl
theorem opStore_eq {t : Nat} {b : Id} {i off tot : Nat} {v : A} : opStore T ⟨e, m, x⟩ t (.ref b i off tot) v k = match St.get ⟨e, m, x⟩ b with
    | some blk =>
      if blk.box = true then (if v.cells.all A.one = true then storeTo (T.row t) ⟨e, m, x⟩ true b i off tot v k else .bad)
      else match insA ⟨e, m, x⟩ v with
        | some (w, st1) => storeTo (T.row t) st1 false b i off tot w k
        | none => .bad
    | none => .bad := Eq.trans rfl rfl
theorem storeTo_eq {r : TRow} {bx : Bool} {b : Id} {i off tot : Nat} {v : A} : storeTo r ⟨e, m, x⟩ bx b i off tot v k =
  match St.get ⟨e, m, x⟩ b with
  | some blk =>
    if blk.box = bx ∧ tot = blk.es.length ∧ off + r.size ≤ (blk.es.getD i .any).cells.length ∧ v.cells.length = r.size ∧ r.size ≠ 0 then
      k (St.put ⟨e, m, x⟩ b ⟨blk.on, blk.k, blk.box, blk.es.set i (storeIn (blk.es.getD i .any) off v)⟩)
    else .bad
  | none => .bad := Eq.trans rfl rfl
theorem storeIn_agg {cs : List A} {off : Nat} {v : A} : storeIn (.agg cs) off v = .agg (setCells cs off v.cells) := Eq.trans rfl rfl
theorem storeIn_v {y : Value} {off : Nat} {v : A} : storeIn (.v y) off v = v := Eq.trans rfl rfl
theorem storeIn_sl {s : Sh} {es : List A} {off : Nat} {v : A} : storeIn (.sl s es) off v = v := Eq.trans rfl rfl
theorem storeIn_ms {b : Id} {o l t : Nat} {off : Nat} {v : A} : storeIn (.ms b o l t) off v = v := Eq.trans rfl rfl
theorem storeIn_any {off : Nat} {v : A} : storeIn .any off v = v := Eq.trans rfl rfl
theorem x_bin {op : BinOp} {xt yt : Nat} {p q : Operand} : opX T by_ ⟨e, m, x⟩ d (.binOp op xt p q yt) k = opBin T ⟨e, m, x⟩ d xt op (ev e p) (ev e q) k := Eq.trans rfl rfl
theorem opBin_int {op : BinOp} {xt : Nat} {κ κ' : IntKind} {a b : Int} : opBin T ⟨e, m, x⟩ d xt op (.v (.int κ a)) (.v (.int κ' b)) k = match op with
    | .shl => .chk (decide (0 ≤ b)) (k (St.dst ⟨e, m, x⟩ d (.v (.int κ (κ.wrap (a * 2 ^ (min b.toNat κ.bits)))))))
    | .shr => .chk (decide (0 ≤ b)) (k (St.dst ⟨e, m, x⟩ d (.v (.int κ (a.fdiv (2 ^ (min b.toNat κ.bits)))))))
    | op => if κ = κ' then (match intBin op κ a b with
        | some r => if isDiv op then .chk (decide (b ≠ 0)) (k (St.dst ⟨e, m, x⟩ d (.v r))) else k (St.dst ⟨e, m, x⟩ d (.v r))
        | none => .bad) else .bad := Eq.trans rfl rfl
theorem opBin_str {op : BinOp} {xt : Nat} {a b : ByteArray} : opBin T ⟨e, m, x⟩ d xt op (.v (.string a)) (.v (.string b)) k = match op with
    | .add => .chk (decide (a.size + b.size ≤ 1073741824)) (k (St.dst ⟨e, m, x⟩ d (.v (.string (a ++ b)))))
    | .eql => k (St.dst ⟨e, m, x⟩ d (.v (.bool (a.toList == b.toList))))
    | .neq => k (St.dst ⟨e, m, x⟩ d (.v (.bool !(a.toList == b.toList))))
    | _ => .bad := Eq.trans rfl rfl
theorem opBin_bool {op : BinOp} {xt : Nat} {a b : Bool} : opBin T ⟨e, m, x⟩ d xt op (.v (.bool a)) (.v (.bool b)) k = match op, (T.row xt).kind with
    | .eql, .bool => k (St.dst ⟨e, m, x⟩ d (.v (.bool (a == b))))
    | .neq, .bool => k (St.dst ⟨e, m, x⟩ d (.v (.bool !(a == b))))
    | _, _ => .bad := Eq.trans rfl rfl
theorem x_un {op : UnOp} {xt : Nat} {p : Operand} : opX T by_ ⟨e, m, x⟩ d (.unOp op xt p) k = opUn ⟨e, m, x⟩ d op (ev e p) k := Eq.trans rfl rfl
theorem opUn_not {b : Bool} : opUn ⟨e, m, x⟩ d .not (.v (.bool b)) k = k (St.dst ⟨e, m, x⟩ d (.v (.bool !b))) := Eq.trans rfl rfl
theorem opUn_neg {κ : IntKind} {n : Int} : opUn ⟨e, m, x⟩ d .neg (.v (.int κ n)) k = k (St.dst ⟨e, m, x⟩ d (.v (.int κ (κ.wrap (0 - n))))) := Eq.trans rfl rfl
theorem opUn_xor {κ : IntKind} {n : Int} : opUn ⟨e, m, x⟩ d .xor (.v (.int κ n)) k = k (St.dst ⟨e, m, x⟩ d (.v (.int κ (κ.wrap (BitVec.ofInt κ.bits (if κ.signed then -1 else κ.max) ^^^ BitVec.ofInt κ.bits n).toNat)))) := Eq.trans rfl rfl
theorem x_convert {s t : Nat} {p : Operand} : opX T by_ ⟨e, m, x⟩ d (.convert s t p) k = opConvert T ⟨e, m, x⟩ d s t (ev e p) k := Eq.trans rfl rfl
theorem opConvert_eq {s t : Nat} {a : A} : opConvert T ⟨e, m, x⟩ d s t a k =
  if (T.row s).size = 0 then .bad else
  match (T.row t).kind, a with
  | .int κ, .v (.int _ n) => k (St.dst ⟨e, m, x⟩ d (.v (.int κ (κ.wrap n))))
  | .string, .v (.string s) => k (St.dst ⟨e, m, x⟩ d (.v (.string s)))
  | .slice e', .v (.string s) => match (T.row e').kind, findB m (keyOf d) with
    | .int .u8, none => .chk (decide (s.size ≤ 1073741824))
        (k (St.dst ⟨e, addB m (keyOf d) ⟨true, 1, false, s.data.toList.map byteA⟩, x⟩ d (.ms (.l (keyOf d)) 0 s.size s.size)))
    | _, _ => .bad
  | .string, y => match (T.row s).kind, St.elems ⟨e, m, x⟩ y with
    | .slice e', some es => match (T.row e').kind with
      | .int .u8 => if es.all isByte then k (St.dst ⟨e, m, x⟩ d (.v (.string ⟨(es.map byteOf).toArray⟩))) else .bad
      | _ => .bad
    | _, _ => .bad
  | _, _ => .bad := Eq.trans rfl rfl
theorem x_makeFunc {fn : Fn} {fs cs : Array Operand} : opX T by_ ⟨e, m, x⟩ d (.makeFunc fn fs cs) k = k (St.dst ⟨e, m, x⟩ d (.fn fn (fs.toList.map (ev e)) (cs.toList.map (ev e)))) := Eq.trans rfl rfl
theorem x_makeSlice {t : Nat} {l c : Operand} : opX T by_ ⟨e, m, x⟩ d (.makeSlice t l c) k = opMake T ⟨e, m, x⟩ d t (ev e l) (ev e c) k := Eq.trans rfl rfl
theorem opMake_eq {t : Nat} {l c : A} : opMake T ⟨e, m, x⟩ d t l c k =
  match (T.row t).kind, natOf l, natOf c, findB m (keyOf d) with
  | .slice e', some n, some c', none => if (T.row e').size ≠ 0 then .chk (decide (0 ≤ n ∧ n ≤ 1073741824 ∧ c' = n))
      (k (St.dst ⟨e, addB m (keyOf d) ⟨true, (T.row e').size, false, List.replicate n.toNat (T.row e').zeroA⟩, x⟩ d (.ms (.l (keyOf d)) 0 n.toNat n.toNat))) else .bad
  | _, _, _, _ => .bad := Eq.trans rfl rfl
theorem x_slice {t : Nat} {p : Operand} {lo hi mx : Option Operand} : opX T by_ ⟨e, m, x⟩ d (.slice t p lo hi mx) k = sliceX T ⟨e, m, x⟩ d (lo.map (ev e)) (hi.map (ev e)) (mx.map (ev e)) k (T.row t).kind (ev e p) := Eq.trans rfl rfl
theorem sliceX_l {et : Nat} {lo hi mx : Option A} {a : A} : sliceX T ⟨e, m, x⟩ d lo hi mx k (.slice et) a = opSliceL ⟨e, m, x⟩ d (T.row et).size a lo hi mx k := Eq.trans rfl rfl
theorem sliceX_s {lo hi mx : Option A} {s : ByteArray} : sliceX T ⟨e, m, x⟩ d lo hi mx k .string (.v (.string s)) = opSliceS ⟨e, m, x⟩ d s lo hi mx k := Eq.trans rfl rfl
theorem opSliceS_eq {lo hi mx : Option A} {s : ByteArray} : opSliceS ⟨e, m, x⟩ d s lo hi mx k = match optNat 0 lo, optNat s.size hi, mx with
  | some l, some h, none => .chk (decide (0 ≤ l ∧ l ≤ h ∧ h ≤ s.size)) (k (St.dst ⟨e, m, x⟩ d (.v (.string (s.extract l.toNat h.toNat)))))
  | _, _, _ => .bad := Eq.trans rfl rfl
theorem opSliceL_eq {lo hi mx : Option A} {c : Nat} {a : A} : opSliceL ⟨e, m, x⟩ d c a lo hi mx k = match St.lenOf ⟨e, m, x⟩ a with
  | none => .bad
  | some len => match optNat 0 lo, optNat len hi with
    | some l, some h => match optNat h mx with
      | some m' => if c ≠ 0 ∧ St.fits ⟨e, m, x⟩ c a = true ∧ (mx.isNone || hi.isSome) = true then
          .chk (decide (0 ≤ l ∧ l ≤ h ∧ h ≤ len ∧ h ≤ m' ∧ m' ≤ len)) (k (St.dst ⟨e, m, x⟩ d (sliceOf a l.toNat h.toNat))) else .bad
      | none => .bad
    | _, _ => .bad := Eq.trans rfl rfl
theorem x_fieldAddr {t : Nat} {p : Operand} {f : Nat} : opX T by_ ⟨e, m, x⟩ d (.fieldAddr t p f) k = fieldAddrX ⟨e, m, x⟩ d f k (T.row t).kind (ev e p) := Eq.trans rfl rfl
theorem fieldAddrX_ref {fs : List (Nat × Nat × Nat)} {f : Nat} {b : Id} {i o tot : Nat} : fieldAddrX ⟨e, m, x⟩ d f k (.struct fs) (.ref b i o tot) = match fs[f]? with
    | some (off, _, _) => if St.live ⟨e, m, x⟩ b tot then k (St.dst ⟨e, m, x⟩ d (.ref b i (o + off) tot)) else .bad
    | none => .bad := by
  simp only [fieldAddrX]
  rcases fs[f]? with - | ⟨_, _, _⟩ <;> rfl
theorem fieldAddrX_ptr {fs : List (Nat × Nat × Nat)} {f : Nat} {es : List A} {i o : Nat} : fieldAddrX ⟨e, m, x⟩ d f k (.struct fs) (.ptr es i o) = match fs[f]? with
    | some (off, _, _) => k (St.dst ⟨e, m, x⟩ d (.ptr es i (o + off)))
    | none => .bad := by
  simp only [fieldAddrX]
  rcases fs[f]? with - | ⟨_, _, _⟩ <;> rfl
theorem x_field {t : Nat} {p : Operand} {f : Nat} : opX T by_ ⟨e, m, x⟩ d (.field t p f) k = fieldX T ⟨e, m, x⟩ d f k (T.row t).kind (ev e p) := Eq.trans rfl rfl
theorem fieldX_agg {fs : List (Nat × Nat × Nat)} {f : Nat} {cs : List A} : fieldX T ⟨e, m, x⟩ d f k (.struct fs) (.agg cs) = match fs[f]? with
    | some (off, size, ft) => if off + size ≤ cs.length ∧ size = (T.row ft).size ∧ size ≠ 0 then k (St.dst ⟨e, m, x⟩ d ((T.row ft).loadFrom (.agg cs) off)) else .bad
    | none => .bad := by
  simp only [fieldX]
  rcases fs[f]? with - | ⟨_, _, _⟩ <;> rfl
theorem x_indexAddr {t : Nat} {p q : Operand} : opX T by_ ⟨e, m, x⟩ d (.indexAddr t p q) k = opIndexAddr T ⟨e, m, x⟩ d t (ev e p) (ev e q) k := Eq.trans rfl rfl
theorem opIndexAddr_eq {t : Nat} {a : A} {κ : IntKind} {n : Int} : opIndexAddr T ⟨e, m, x⟩ d t a (.v (.int κ n)) k =
    match (T.row t).kind with
    | .slice e' =>
      match a with
      | .sl _ es => .chk (decide (0 ≤ n ∧ n < es.length))
          (if (es.getD n.toNat .any).cells.length = (T.row e').size ∧ (T.row e').size ≠ 0 then k (St.dst ⟨e, m, x⟩ d (.ptr es n.toNat 0)) else .bad)
      | .ms b off len tot => match St.get ⟨e, m, x⟩ b with
        | some blk => if blk.box = false ∧ tot = blk.es.length ∧ blk.k = (T.row e').size ∧ (T.row e').size ≠ 0 then
            .chk (decide (0 ≤ n ∧ n < len)) (k (St.dst ⟨e, m, x⟩ d (.ref b (off + n.toNat) 0 tot))) else .bad
        | none => .bad
      | _ => .bad
    | .array c e' =>
      if (T.row e').size = 0 then .bad else
      match a with
      | .ref b i o tot => if St.live ⟨e, m, x⟩ b tot then .chk (decide (0 ≤ n ∧ n < c)) (k (St.dst ⟨e, m, x⟩ d (.ref b i (o + n.toNat * (T.row e').size) tot))) else .bad
      | .ptr es i o => .chk (decide (0 ≤ n ∧ n < c)) (k (St.dst ⟨e, m, x⟩ d (.ptr es i (o + n.toNat * (T.row e').size))))
      | _ => .bad
    | _ => .bad := Eq.trans rfl rfl
theorem x_index {t : Nat} {p q : Operand} : opX T by_ ⟨e, m, x⟩ d (.index t p q) k = indexX T ⟨e, m, x⟩ d k (T.row t).kind (ev e p) (natOf (ev e q)) := Eq.trans rfl rfl
theorem indexX_s {s : ByteArray} {n : Int} : indexX T ⟨e, m, x⟩ d k .string (.v (.string s)) (some n) = .chk (decide (0 ≤ n ∧ n < s.size)) (k (St.dst ⟨e, m, x⟩ d (byteA (s.data.toList.getD n.toNat 0)))) := Eq.trans rfl rfl
theorem indexX_a {c et : Nat} {cs : List A} {n : Int} : indexX T ⟨e, m, x⟩ d k (.array c et) (.agg cs) (some n) = .chk (decide (0 ≤ n ∧ n < c))
      (if (T.row et).size = 1 ∧ (T.row et).isAgg = false ∧ cs.length = c then k (St.dst ⟨e, m, x⟩ d (cs.getD n.toNat .any)) else .bad) := Eq.trans rfl rfl
theorem x_extract {p : Operand} {i : Nat} : opX T by_ ⟨e, m, x⟩ d (.extract p i) k = extractX ⟨e, m, x⟩ d i k (ev e p) := by
  show (match ev e p with | .tup vs => _ | _ => _) = _
  cases ev e p <;> rfl
theorem extractX_t {vs : List A} {i : Nat} : extractX ⟨e, m, x⟩ d i k (.tup vs) = match vs[i]? with
    | some a => k (St.dst ⟨e, m, x⟩ d a)
    | none => .bad := Eq.trans rfl rfl

theorem x_len {as : Array Operand} {ts : Array TypeId} : opX T by_ ⟨e, m, x⟩ d (.call ⟨.builtin .len, as, ts⟩) k = len1X T ⟨e, m, x⟩ d k ts.toList (as.toList.map (ev e)) := by
  show (match as.toList.map (ev e), ts.toList with | [x], [t] => _ | _, _ => _) = _
  rcases as.toList.map (ev e) with - | ⟨a, - | ⟨b, r⟩⟩ <;> rcases ts.toList with - | ⟨t, - | ⟨t2, s⟩⟩ <;> try rfl
  show (match (T.row t).kind with | .string => _ | .slice _ => _ | _ => _) = lenX _ _ _ (T.row t).kind a
  cases (T.row t).kind <;> try rfl
  all_goals cases a <;> try rfl
  all_goals rename_i y; cases y <;> rfl
theorem len1X_eq {t : Nat} {a : A} : len1X T ⟨e, m, x⟩ d k [t] [a] = lenX ⟨e, m, x⟩ d k (T.row t).kind a := Eq.trans rfl rfl
theorem lenX_s {s : ByteArray} : lenX ⟨e, m, x⟩ d k .string (.v (.string s)) = k (St.dst ⟨e, m, x⟩ d (.v (.int .i64 s.size))) := Eq.trans rfl rfl
theorem lenX_l {et : Nat} {a : A} : lenX ⟨e, m, x⟩ d k (.slice et) a = match St.lenOf ⟨e, m, x⟩ a with
    | some n => k (St.dst ⟨e, m, x⟩ d (.v (.int .i64 n)))
    | none => .bad := Eq.trans rfl rfl
theorem x_append {as : Array Operand} {ts : Array TypeId} : opX T by_ ⟨e, m, x⟩ d (.call ⟨.builtin .append, as, ts⟩) k = appX T ⟨e, m, x⟩ d k ts.toList (as.toList.map (ev e)) := by
  show (match as.toList.map (ev e), ts.toList with | [s, x], [t, t2] => _ | _, _ => _) = _
  rcases as.toList.map (ev e) with - | ⟨a, - | ⟨b, - | ⟨c, r⟩⟩⟩ <;> rcases ts.toList with - | ⟨t, - | ⟨t2, - | ⟨t3, s⟩⟩⟩ <;> rfl
theorem appX_eq {t t2 : Nat} {a b : A} : appX T ⟨e, m, x⟩ d k [t, t2] [a, b] = opAppend T ⟨e, m, x⟩ d t t2 a b k := Eq.trans rfl rfl
theorem opAppend_eq {t t2 : Nat} {s y : A} : opAppend T ⟨e, m, x⟩ d t t2 s y k =
  match (T.row t).kind, (match (T.row t2).kind with | .slice _ => true | .string => true | _ => false), appElems ⟨e, m, x⟩ y with
  | .slice _, true, some (xs, st1) =>
    if (T.row (T.row t).elem).size ≠ 0 ∧ xs.all (fun a => a.cells.length == (T.row (T.row t).elem).size) = true then
      match s with
      | .v (.slice none 0 0) => match findB st1.mem (keyOf d) with
        | none => .chk (decide (xs.length ≤ 1073741824)) (k ((st1.new (keyOf d) ⟨true, (T.row (T.row t).elem).size, false, xs⟩).dst d (.ms (.l (keyOf d)) 0 xs.length xs.length)))
        | some _ => .bad
      | .ms b off len tot => match st1.get b with
        | some blk => if blk.box = false ∧ tot = blk.es.length ∧ off = 0 ∧ len = tot ∧ blk.k = (T.row (T.row t).elem).size then
            .chk (decide (tot + xs.length ≤ 1073741824))
              (k ((st1.put b ⟨blk.on, blk.k, blk.box, blk.es ++ xs⟩).dst d (.ms b 0 (tot + xs.length) (tot + xs.length)))) else .bad
        | none => .bad
      | _ => .bad
    else .bad
  | _, _, _ => .bad := Eq.trans rfl rfl
theorem x_max {as : Array Operand} {ts : Array TypeId} : opX T by_ ⟨e, m, x⟩ d (.call ⟨.builtin .max, as, ts⟩) k = maxX max2A ⟨e, m, x⟩ d k as.size (as.toList.map (ev e)) := by
  show (if as.size = 1 then _ else match as.toList.map (ev e) with | x :: r => _ | _ => _) = _
  rcases as.toList.map (ev e) with - | ⟨a, r⟩
  · show (if as.size = 1 then Free.bad else Free.bad) = Free.bad
    split <;> rfl
  · rfl
theorem x_min {as : Array Operand} {ts : Array TypeId} : opX T by_ ⟨e, m, x⟩ d (.call ⟨.builtin .min, as, ts⟩) k = maxX min2A ⟨e, m, x⟩ d k as.size (as.toList.map (ev e)) := by
  show (if as.size = 1 then _ else match as.toList.map (ev e) with | x :: r => _ | _ => _) = _
  rcases as.toList.map (ev e) with - | ⟨a, r⟩
  · show (if as.size = 1 then Free.bad else Free.bad) = Free.bad
    split <;> rfl
  · rfl
theorem maxX_eq {f : A → A → Option A} {a : A} {r : List A} : maxX f ⟨e, m, x⟩ d k n (a :: r) = if n = 1 then .bad else match foldA f a r with
    | some a => k (St.dst ⟨e, m, x⟩ d a)
    | none => .bad := Eq.trans rfl rfl
theorem x_call {f : Operand} {as : Array Operand} {ts : Array TypeId} : opX T by_ ⟨e, m, x⟩ d (.call ⟨.value f, as, ts⟩) k = callF by_ ⟨e, m, x⟩ d (as.toList.map (ev e)) k (ev e f) := by
  show (match ev e f with | .v (.func (.func g) fs cs) => _ | .fn (.func g) fs cs => _ | _ => _) = _
  cases ev e f with
  | v y => cases y with
    | func g fs cs => cases g <;> rfl
    | _ => rfl
  | fn g fs cs => cases g <;> rfl
  | _ => rfl
theorem callF_f {g : Nat} {as : List A} : callF noBy ⟨e, m, x⟩ d as k (.v (.func (.func g) #[] #[])) = callA ⟨e, m, x⟩ d g as k (argAs ⟨e, m, x⟩ as) := by
  show (match argAs ⟨e, m, x⟩ as with | none => _ | some as => _) = _
  cases argAs ⟨e, m, x⟩ as <;> rfl
theorem callF_c {g : Nat} {as fs cs : List A} : callF noBy ⟨e, m, x⟩ d as k (.fn (.func g) fs cs) = callA ⟨e, m, x⟩ d g (fs ++ as ++ cs) k (argAs ⟨e, m, x⟩ (fs ++ as ++ cs)) := by
  show (match argAs ⟨e, m, x⟩ (fs ++ as ++ cs) with | none => _ | some as => _) = _
  cases argAs ⟨e, m, x⟩ (fs ++ as ++ cs) <;> rfl
theorem callA_s {g : Nat} {as bs : List A} : callA st d g as k (some bs) = .call g bs [] (callK st d as k) := Eq.trans rfl rfl
theorem callK_eq {as : List A} {r : A} : callK ⟨e, m, x⟩ d as k r [] = if ((!(as.any hasMs)) || r.free) = true then (match inR ⟨e, m, x⟩ (keyOf d) r with
    | some (a, st1) => k (st1.dst d a)
    | none => .bad) else .bad := by
  unfold callK
  simp only [List.length_nil, true_and]

/-- A drawn order, gone through. -/
def schedK (T : Tab) (by_ : Nat → Bool) (ops : Array Oper) (s : Sched) (K : St → Free) : St → Free := fun st => drawS T by_ ops s st K
theorem draw_fin {ops : Array Oper} : drawS T by_ ops .fin ⟨e, m, x⟩ k = k ⟨e, m, x⟩ := Eq.trans rfl rfl
theorem draw_take {ops : Array Oper} {i : Nat} {s : Sched} : drawS T by_ ops (.take i s) ⟨e, m, x⟩ k = match ops[i]? with
    | some o => opG T by_ ops ⟨e, m, x⟩ o (schedK T by_ ops s k)
    | none => .bad := Eq.trans rfl rfl
theorem draw_alt {ops : Array Oper} {i : Nat} {s r : Sched} : drawS T by_ ops (.alt i s r) ⟨e, m, x⟩ k = .both (match ops[i]? with
    | some o => opG T by_ ops ⟨e, m, x⟩ o (schedK T by_ ops s k)
    | none => .bad) (drawS T by_ ops r ⟨e, m, x⟩ k) := Eq.trans rfl rfl
theorem draw_nil {ops : Array Oper} : drawS T by_ ops .nil ⟨e, m, x⟩ k = .done := Eq.trans rfl rfl
theorem schedK_eq {ops : Array Oper} {s : Sched} : schedK T by_ ops s k ⟨e, m, x⟩ = drawS T by_ ops s ⟨e, m, x⟩ k := Eq.trans rfl rfl
end

section
variable {α : Type} {a b c d e f g h : α} {l : List α} {z : α} {n : Nat}
theorem getD0 : (a :: l).getD 0 z = a := Eq.trans rfl rfl
theorem getD1 : (a :: b :: l).getD 1 z = b := Eq.trans rfl rfl
theorem getD2 : (a :: b :: c :: l).getD 2 z = c := Eq.trans rfl rfl
theorem getD3 : (a :: b :: c :: d :: l).getD 3 z = d := Eq.trans rfl rfl
theorem getD4 : (a :: b :: c :: d :: e :: l).getD 4 z = e := Eq.trans rfl rfl
theorem getD5 : (a :: b :: c :: d :: e :: f :: l).getD 5 z = f := Eq.trans rfl rfl
theorem getD6 : (a :: b :: c :: d :: e :: f :: g :: l).getD 6 z = g := Eq.trans rfl rfl
theorem getD7 : (a :: b :: c :: d :: e :: f :: g :: h :: l).getD 7 z = h := Eq.trans rfl rfl
theorem getD8 : (a :: b :: c :: d :: e :: f :: g :: h :: l).getD (n + 8) z = l.getD n z := Eq.trans rfl rfl
theorem set0 : (a :: l).set 0 z = z :: l := Eq.trans rfl rfl
theorem set1 : (a :: b :: l).set 1 z = a :: z :: l := Eq.trans rfl rfl
theorem set2 : (a :: b :: c :: l).set 2 z = a :: b :: z :: l := Eq.trans rfl rfl
theorem set3 : (a :: b :: c :: d :: l).set 3 z = a :: b :: c :: z :: l := Eq.trans rfl rfl
theorem set4 : (a :: b :: c :: d :: e :: l).set 4 z = a :: b :: c :: d :: z :: l := Eq.trans rfl rfl
theorem set5 : (a :: b :: c :: d :: e :: f :: l).set 5 z = a :: b :: c :: d :: e :: z :: l := Eq.trans rfl rfl
theorem set6 : (a :: b :: c :: d :: e :: f :: g :: l).set 6 z = a :: b :: c :: d :: e :: f :: z :: l := Eq.trans rfl rfl
theorem set7 : (a :: b :: c :: d :: e :: f :: g :: h :: l).set 7 z = a :: b :: c :: d :: e :: f :: g :: z :: l := Eq.trans rfl rfl
theorem set8 : (a :: b :: c :: d :: e :: f :: g :: h :: l).set (n + 8) z = a :: b :: c :: d :: e :: f :: g :: h :: l.set n z := Eq.trans rfl rfl
end

attribute [go_sem]  execFun_eq x_skip x_seq x_region x_draw x_cond x_block x_loop x_exit x_ret condA_b condK_t condK_f seqK_n seqK_e seqK_r blockK_n blockK_e blockK_r
  back_n back_e back_r finK_n finK_r finish_eq results_nil results_cons result_tmp result_cell ops_nil ops_cons opG_n opG_s guardO_s guardA_b guardA_t guardK_tt
  guardK_ff guardK_tf guardK_ft dst_s dst_n ev_t ev_c ev_g ev_f get_l get_x getB_eq put_l put_x kill_eq new_eq keyOf_s keyOf_n x_move x_assign x_pick
  pickA_b pickK_t pickK_f x_alloc x_box opBox_eq x_build opBuild_eq x_buildSlice opBuildSlice_eq x_load opLoad_ref opLoad_ptr x_store storeX_n
  opStore_eq storeTo_eq storeIn_agg storeIn_v storeIn_sl storeIn_ms storeIn_any x_bin opBin_int opBin_str opBin_bool x_un opUn_not opUn_neg opUn_xor
  x_convert opConvert_eq x_makeFunc x_makeSlice opMake_eq x_slice sliceX_l sliceX_s opSliceS_eq opSliceL_eq x_fieldAddr fieldAddrX_ref fieldAddrX_ptr
  x_field fieldX_agg x_indexAddr opIndexAddr_eq x_index indexX_s indexX_a x_extract extractX_t x_len len1X_eq lenX_s lenX_l x_append appX_eq opAppend_eq
  x_max x_min maxX_eq x_call callF_f callF_c callA_s callK_eq draw_fin draw_take draw_alt draw_nil schedK_eq getD0 getD1 getD2 getD3 getD4 getD5 getD6
  getD7 getD8 set0 set1 set2 set3 set4 set5 set6 set7 set8
attribute [go_sem]  natOf St.lenOf St.elems St.live St.fits intBin isDiv max2A min2A foldA appElems sliceOf optNat setCells buildCells fillA findB addB setB insA insC
  insL insAs inR inT inA inC inL argAs argA argC argL hasMs A.free freeL dnL A.dn outAs outA outC outL isXB A.cells A.one A.plain plainL TRow.loadFrom
  TRow.isAgg TRow.elem TRow.zeroA Value.oneCell' byteA isByte AM.byteOf List.replicate
attribute [go_sem]  Runs.ask_true Runs.ask_false Runs.chk_true List.map_cons List.map_nil List.cons_append List.nil_append List.length_cons List.length_nil
  List.length_map List.getElem?_toArray Option.bind_some Option.map_some Option.map_none List.any_cons List.any_nil List.all_cons List.all_nil
  List.getElem?_cons_zero List.getElem?_cons_succ List.take_zero List.drop_zero List.take_succ_cons List.drop_succ_cons List.zip_cons_cons List.zip_nil_left List.flatMap_cons List.flatMap_nil
  Nat.zero_add Nat.add_zero Nat.le_refl Nat.sub_zero Nat.lt_irrefl Int.toNat_natCast Nat.one_ne_zero ne_eq not_false_eq_true not_true_eq_false and_self
  and_true true_and if_true if_false Bool.false_eq_true Bool.not_true Bool.not_false Bool.or_true Bool.true_or Bool.or_false Bool.false_or Bool.and_true
  Bool.true_and Bool.and_false Bool.false_and A.ms.injEq decide_true decide_false beq_self_eq_true bne_self_eq_false
attribute [go_sem] St.only St.onlyK St.keys keepEnv keepC idKeys keyL A.ids cellIds A.okI okIL St.kept Blk.keep keepCells Ann.of
section
variable {T : Tab} {by_ : Nat → Bool} {ann : Ann} {Φ : Known} {r : A} {X : List Blk} {k : Free}
theorem Runs.chk_iff {p : Prop} [Decidable p] (h : p) : Runs T by_ ann Φ (.chk (decide p) k) r X ↔ Runs T by_ ann Φ k r X := by rw [decide_eq_true h]; exact Runs.chk_true
theorem Runs.both_iff {a b : Free} : Runs T by_ ann Φ (.both a b) r X ↔ Runs T by_ ann Φ a r X ∧ Runs T by_ ann Φ b r X :=
  ⟨fun ⟨m, h⟩ => match m, h with | m + 1, h => ⟨⟨m, h.1⟩, ⟨m, h.2⟩⟩, fun h => Runs.both h.1 h.2⟩
theorem Runs.done_iff : Runs T by_ ann Φ .done r X ↔ True := ⟨fun _ => trivial, fun _ => Runs.done⟩
theorem getD_map' {α : Type} {L : List α} {g : α → A} {i : Nat} {z : A} (h : i < L.length) : (L.map g).getD i z = g L[i] := by simp [List.getD, h]
theorem take_map_len {α β : Type} {L : List α} {g : α → β} : List.take L.length (L.map g) = L.map g := by rw [← List.map_take, List.take_length]
theorem wrap_u8 {n : Int} (h1 : 0 ≤ n) (h2 : n < 256) : IntKind.u8.wrap n = n := by
  unfold IntKind.wrap
  simp only [IntKind.bits, IntKind.signed]
  simp
  omega
theorem wrap_i32 {n : Int} (h1 : -2147483648 ≤ n) (h2 : n < 2147483648) : IntKind.i32.wrap n = n := by
  unfold IntKind.wrap
  simp only [IntKind.bits, IntKind.signed]
  simp
  omega
theorem wrap_u32 {n : Int} (h1 : 0 ≤ n) (h2 : n < 4294967296) : IntKind.u32.wrap n = n := by
  unfold IntKind.wrap
  simp only [IntKind.bits, IntKind.signed]
  simp
  omega
theorem wrap_u64 {n : Int} (h1 : 0 ≤ n) (h2 : n < 18446744073709551616) : IntKind.u64.wrap n = n := by
  unfold IntKind.wrap
  simp only [IntKind.bits, IntKind.signed]
  simp
  omega
end
/-- Plain data, as the machine has it. -/
def strA (s : ByteArray) : A := .v (.string s)
def intA (n : Int) : A := .v (.int .i64 n)
def u8A (n : Int) : A := .v (.int .u8 n)
def boolA (b : Bool) : A := .v (.bool b)
theorem dn_strA (L : List ByteArray) : dnL (L.map strA) = L.map strA := by rw [dnL_map]; rfl
theorem dn_intA (L : List Int) : dnL (L.map intA) = L.map intA := by rw [dnL_map]; rfl
theorem dn_u8A (L : List Int) : dnL (L.map u8A) = L.map u8A := by rw [dnL_map]; rfl
theorem dn_boolA (L : List Bool) : dnL (L.map boolA) = L.map boolA := by rw [dnL_map]; rfl
theorem pl_strA (L : List ByteArray) : plainL (L.map strA) = true := by rw [plainL_map]; simp [strA, A.plain]
theorem pl_intA (L : List Int) : plainL (L.map intA) = true := by rw [plainL_map]; simp [intA, A.plain]
theorem pl_u8A (L : List Int) : plainL (L.map u8A) = true := by rw [plainL_map]; simp [u8A, A.plain]
theorem pl_boolA (L : List Bool) : plainL (L.map boolA) = true := by rw [plainL_map]; simp [boolA, A.plain]
theorem fr_strA (L : List ByteArray) : freeL (L.map strA) = true := by induction L with | nil => rfl | cons a l ih => simp [freeL, ih, strA, A.free]
theorem fr_intA (L : List Int) : freeL (L.map intA) = true := by induction L with | nil => rfl | cons a l ih => simp [freeL, ih, intA, A.free]
theorem fr_u8A (L : List Int) : freeL (L.map u8A) = true := by induction L with | nil => rfl | cons a l ih => simp [freeL, ih, u8A, A.free]
theorem fr_boolA (L : List Bool) : freeL (L.map boolA) = true := by induction L with | nil => rfl | cons a l ih => simp [freeL, ih, boolA, A.free]
theorem LeL.refl : ∀ l, LeL l l
  | [] => trivial
  | _ :: r => ⟨.inl rfl, LeL.refl r⟩
theorem LeA.refl : ∀ a, LeA a a
  | .agg cs => LeL.refl cs
  | .any | .ifc | .v _ | .tup _ | .sl .. | .ms .. | .ref .. | .ptr .. | .fn .. => .inl rfl
theorem LeT.refl : ∀ l, LeT l l
  | [] => trivial
  | a :: r => ⟨LeA.refl a, LeT.refl r⟩
theorem Le.refl : ∀ a, Le a a
  | .tup vs => LeT.refl vs
  | .agg cs => LeL.refl cs
  | .any | .ifc | .v _ | .sl .. | .ms .. | .ref .. | .ptr .. | .fn .. => .inl rfl
theorem Runs.ret_refl {T : Tab} {by_ : Nat → Bool} {ann : Ann} {Φ : Known} {a : A} {x : List Blk} : Runs T by_ ann Φ (.ret a x) a x := Runs.ret (Le.refl a) rfl
attribute [go_sem] Runs.both_iff Runs.done_iff Runs.chk_iff getD_map' take_map_len wrap_i64 wrap_u8 wrap_i32 wrap_u32 wrap_u64 strA intA u8A boolA dn_strA dn_intA dn_u8A dn_boolA pl_strA pl_intA pl_u8A pl_boolA fr_strA fr_intA fr_u8A fr_boolA
end Go.AM

/- A law as a whole: its arguments opened, its answer shut, its arguments read behind the call as they read before. -/
namespace Go.AM
open Go Go.ChangeShapes Go.RowKit Go.WideShapes

section
variable {P : Program}

/-- A law's arguments. -/
structure Args (P : Program) (ts : List TypeId) (α : Type) where
  dat : α → List A
  ok : α → Prop
  opens : ∀ {H : Type} {enc : TypeId × Value → H} {w : World} {b : Nat} {vs : List Value} {ds : List (DataW H)} {ps : List MemPlace},
    DataW.TrodAll enc P w 0 (fun _ => true) true ts vs ds ps → (∀ (j : Nat) (t : TypeId) (v : Value), ts[j]? = some t → vs[j]? = some v → Value.okWide P w .any b t v) →
    ∃ x, ok x ∧ RepL (Ctx.top w) w (dat x) vs fun _ => 0

def Args.nil : Args P [] Unit where
  dat _ := []
  ok _ := True
  opens h _ := by
    obtain ⟨rfl, rfl, rfl⟩ := trodAll_nil h
    exact ⟨(), trivial, z0⟩

def oneKind : Option TypeDesc → Bool
  | some (.int _) | some .bool | some .string | some (.slice _) => true
  | _ => false

theorem not_agg {t : TypeId} {w : World} {b : Nat} {v : Value} (ho : oneKind (P.underlying t) = true) (h : Value.okWide P w .any b t v) : v.cells = #[v] := by
  cases v with
  | agg cs =>
    exfalso
    cases hu : P.underlying t with
    | none => rw [hu] at ho; simp [oneKind] at ho
    | some u => cases u <;> rw [hu] at ho <;> simp [oneKind] at ho <;> simp [Value.okWide, Cell.okWide, Cell.ok, hu] at h
  | _ => rfl

theorem rep_cons {C : Ctx} {w : World} {a : A} {v : Value} {l : List A} {vs : List Value} (h : Rep1 C w a v fun _ => 0) (hs : RepL C w l vs fun _ => 0) : RepL C w (a :: l) (v :: vs) fun _ => 0 :=
  show RepL C w ([a] ++ l) ([v] ++ vs) _ from RepL.app h hs fun _ => rfl

def Args.cons {t : TypeId} {ts : List TypeId} {α β : Type} (c : Codec P t α) (ht : oneKind (P.underlying t) = true) (hx : ∀ x, c.cells x = [c.elem x]) (r : Args P ts β) : Args P (t :: ts) (α × β) where
  dat x := c.elem x.1 :: r.dat x.2
  ok x := c.ok x.1 ∧ r.ok x.2
  opens h hv := by
    obtain ⟨v, vs, d, ds, p, q, rfl, rfl, rfl, h0, h1⟩ := trodAll_cons h
    have hc := not_agg ht (hv 0 t v rfl rfl)
    obtain ⟨fuel, h0⟩ := h0
    obtain ⟨x, ho, hr⟩ := c.opens h0
    rw [hx x, hc] at hr
    obtain ⟨y, hoy, hry⟩ := r.opens h1 fun j t' v' h2 h3 => hv (j + 1) t' v' (by simpa using h2) (by simpa using h3)
    exact ⟨(x, y), ⟨ho, hoy⟩, rep_cons hr hry⟩

def Args.consS {t : TypeId} {fs : Array Field} {ts : List TypeId} {α β : Type} (c : Codec P t α) (hu : P.underlying t = some (.struct fs)) (hx : ∀ x, c.elem x = .agg (c.cells x)) (r : Args P ts β) : Args P (t :: ts) (α × β) where
  dat x := c.elem x.1 :: r.dat x.2
  ok x := c.ok x.1 ∧ r.ok x.2
  opens h hv := by
    obtain ⟨v, vs, d, ds, p, q, rfl, rfl, rfl, h0, h1⟩ := trodAll_cons h
    have hc : ∃ cs, v = .agg cs := by
      have := hv 0 t v rfl rfl
      simp only [Value.okWide, hu] at this
      obtain ⟨cs, h, _⟩ := this
      exact ⟨cs, h⟩
    obtain ⟨cs, rfl⟩ := hc
    obtain ⟨fuel, h0⟩ := h0
    obtain ⟨x, ho, hr⟩ := c.opens h0
    obtain ⟨y, hoy, hry⟩ := r.opens h1 fun j t' v' h2 h3 => hv (j + 1) t' v' (by simpa using h2) (by simpa using h3)
    refine ⟨(x, y), ⟨ho, hoy⟩, rep_cons ?_ hry⟩
    rw [hx]
    simp only [Value.cells] at hr
    exact .agg (ys := cs.toList) (fun _ => rfl) hr z0

theorem trod_length {H : Type} {enc : TypeId × Value → H} {W : World} : ∀ {ts : List TypeId} {vs : List Value} {ds : List (DataW H)} {ps : List MemPlace}, DataW.TrodAll enc P W 0 (fun _ => true) true ts vs ds ps → ds.length = ts.length := by
  intro ts
  induction ts with
  | nil => intro vs ds p h; obtain ⟨rfl, rfl, rfl⟩ := trodAll_nil h; rfl
  | cons t ts ih =>
    intro vs ds p h
    obtain ⟨v, vs, d, ds, p, q, rfl, rfl, rfl, h0, h1⟩ := trodAll_cons h
    simp [ih h1]

theorem below_all {H : Type} {enc : TypeId × Value → H} (hl : laidOutB P = true) {W W' : World} (bel : Below W.heap.size W W') :
    ∀ {ts : List TypeId} {vs : List Value} {ds : List (DataW H)} {ps : List MemPlace}, ts.all (fun t => P.readableRec t && decide (t < P.types.size)) = true → (∀ x ∈ ps, x.block < W.heap.size) →
      DataW.TrodAll enc P W 0 (fun _ => true) true ts vs ds ps → DataW.TrodAll enc P W' 0 (fun b => decide (b < W.heap.size)) true ts vs ds ps := by
  intro ts
  induction ts with
  | nil =>
    intro vs ds ps _ _ h
    obtain ⟨rfl, rfl, rfl⟩ := trodAll_nil h
    exact trodAll_mk0
  | cons t ts ih =>
    intro vs ds ps hr hlt h
    obtain ⟨v, vs, d, ds, p, q, rfl, rfl, rfl, h0, h1⟩ := trodAll_cons h
    simp only [List.all_cons, Bool.and_eq_true, decide_eq_true_eq] at hr
    exact trodAll_cons_mk (Below.trod hl hr.1.1 hr.1.2 h0 bel fun x hx => hlt x (List.mem_append_left _ hx)) (ih hr.2 (fun x hx => hlt x (List.mem_append_right _ hx)) h1)

/-- What a law's row asks of a call. -/
theorem law_calls {H : Type} {enc : TypeId × Value → H} (hl : laidOutB P = true) {f : Nat} {fn : Func} {s : ChangeSpec} {α : Type} (Ar : Args P fn.params.toList α) (hlaw : ∀ x, Ar.ok x → Holds P f (Ar.dat x) [] (.v (.bool true)) [])
    (hread : fn.params.toList.all (fun t => P.readableRec t && decide (t < P.types.size)) = true) {tb : TypeId} (hres : fn.resultTypes = #[tb]) (hb : P.underlying tb = some .bool) (hvars : s.vars = [])
    (hs : ∀ (ds : List (DataW H)), ds.length = fn.params.toList.length → (s.fn H (ds ++ [])).results = [.lit (.bool true)] ∧ (s.fn H (ds ++ [])).args = ds ∧ (s.fn H (ds ++ [])).vars = [])
    {W : World} {base : Nat} {args : Array Value} {ds gs : List (DataW H)} {before : List MemPlace}
    (hval : ∀ (j : Nat) t v, fn.params[j]? = some t → args[j]? = some v → Value.okWide P W .any base t v)
    (hW : DataW.Whole enc P fn.params.toList s.vars false W args.toList ds gs before) :
    Calls P f args W fun e W' => ∃ v, e = .returned v ∧ s.post enc P fn false true false false W args v W' := by
  have hW' := hW
  have hlt := hW.lt
  obtain ⟨p, q, hA, hV, rfl, hfz, hnd⟩ := hW
  obtain ⟨x, hok, hrep⟩ := Ar.opens (b := base) hA fun j t v h1 h2 => hval j t v (by simpa using h1) (by simpa using h2)
  have hc := (hlaw x hok).law hrep
  rw [Array.toArray_toList] at hc
  rw [hvars] at hV
  obtain ⟨rfl, rfl⟩ := trodVars_none hV
  have hlen : ds.length = fn.params.toList.length := trod_length hA
  obtain ⟨s1, s2, s3⟩ := hs ds hlen
  refine Calls.mono hc fun e W' ⟨he, bel⟩ => ⟨_, he, ds, [], _, [], p, [], hW', ?_, ?_, ?_, bel.frame _, fun h => by cases h⟩
  · rw [hres, s1]
    exact trodAll_mk1 (shut_bool hb _)
  · rw [s2]
    exact below_all hl bel hread (fun x hx => hlt x (List.mem_append_left _ hx)) hA
  · rw [s3, hvars]
    rfl
end
end Go.AM
