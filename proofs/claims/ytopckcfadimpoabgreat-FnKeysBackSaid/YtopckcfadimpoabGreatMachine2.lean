import Derived.Laws.BytesString
import Derived.Lib.ConvBytes
import Derived.Laws.Tables
import Derived.DataBytes
import Derived.Orders
import Derived.Test.YtopckcfadimpoabGreatMachine1
set_option linter.unusedVariables false
set_option linter.unusedSimpArgs false
namespace Go.AM
open Go
section
variable {P : Program} {w : World}
theorem run_load_at {g off : Nat} {c : Array Value} {e : TypeId} {fz : Nat × Nat} (hrow : w.heap[g]? = some (.cells c e fz)) {n : Nat} (h : off + n ≤ c.size) :
  (loadCells ⟨g, off, none⟩ n).run P w = .ok ((c.toList.drop off).take n).toArray w := by
 have hlen : ((c.toList.drop off).take n).length = n := by simp; omega
 have := run_loadCells_list (P := P) w ⟨g, off, none⟩ ((c.toList.drop off).take n) (fun j v hv => by
   rw [addr_add, cell_of_row w g (off + j) c e fz hrow]
   rw [List.getElem?_take] at hv
   split at hv
   ·simpa [List.getElem?_drop] using hv
   ·simp at hv)
 rw [hlen] at this
 exact this
theorem run_load_zero (a : Addr) : (loadCells a 0).run P w = .ok #[] w := rfl
theorem run_append_fits {t t2 e : TypeId} {d2 : TypeDesc} {i : TypeInfo} (ht : P.underlying t = some (.slice e)) (ht2 : P.underlying t2 = some d2) (hd2 : ∀ k, d2 ≠ .int k) (hi : P.info? e = some i)
  {ty : TypeId} {base : Option Addr} {sLen sCap n : Nat} {x : Value} {news : Array Value} {w' : World} (hlen : (Builtin.lenOf x).run P w = .ok n w) (hnew : (Builtin.firstCells i.size n x).run P w = .ok news w)
  (hroom : sLen + n ≤ sCap) (hst : ∀ b, base = some b → (storeCells (b.add (sLen * i.size)) news.toList).run P w = .ok () w') (hno : base = none → w' = w) :
  (Builtin.append_ #[t, t2] ty #[.slice base sLen sCap, x]).run P w = .ok (.slice base (sLen + n) sCap) w' := by
 have hz : (match d2 with | .int _ => true | _ => false) = false := by cases d2 <;> first | rfl | exact absurd rfl (hd2 _)
 cases base with
 | none =>
  have := hno rfl
  subst this
  simp [Builtin.append_, run_underlying ht, run_underlying ht2, sizeOf, typeInfo, hi, hz, hlen, hnew, hroom]
 | some b =>
  have := hst b rfl
  simp [Builtin.append_, run_underlying ht, run_underlying ht2, sizeOf, typeInfo, hi, hz, hlen, hnew, hroom, this]
theorem run_append_grows {t t2 e : TypeId} {d2 : TypeDesc} {i : TypeInfo} {z : Value} (ht : P.underlying t = some (.slice e)) (ht2 : P.underlying t2 = some d2) (hd2 : ∀ k, d2 ≠ .int k) (hi : P.info? e = some i) (hz0 : i.zero = some z)
  {ty : TypeId} {base : Option Addr} {sLen sCap n : Nat} {x : Value} {olds news : Array Value} (hlen : (Builtin.lenOf x).run P w = .ok n w)
  (hold : (Builtin.firstCells i.size sLen (.slice base sLen sCap)).run P w.drew = .ok olds w.drew) (hnew : (Builtin.firstCells i.size n x).run P w.drew = .ok news w.drew)
  (hroom : sCap < sLen + n) (h63 : sLen + n ≤ 1073741824) (hb : i.bytes ≤ 65536) :
  (Builtin.append_ #[t, t2] ty #[.slice base sLen sCap, x]).run P w = .ok (.slice (some ⟨w.heap.size, 0, none⟩) (sLen + n) (grownCap w (sLen + n) sCap e))
   (w.drew.alloc (.cells (olds ++ news ++ Builtin.zeroCells z.cells (grownCap w (sLen + n) sCap e - (sLen + n))) e)) := by
 have hz : (match d2 with | .int _ => true | _ => false) = false := by cases d2 <;> first | rfl | exact absurd rfl (hd2 _)
 have hn : ¬ (sLen + n ≤ sCap) := by omega
 have h63' : ¬ (9223372036854775807 < ((sLen : Int) + (n : Int))) := by omega
 have h48 : Builtin.nextslicecap (sLen + n) sCap * i.bytes ≤ 281474976710656 := by
  have h1 := nextslicecap_le (need := sLen + n) (old := sCap) hroom
  calc Builtin.nextslicecap (sLen + n) sCap * i.bytes ≤ (2 * 1073741824) * 65536 := Nat.mul_le_mul (by omega) hb
   _ ≤ 281474976710656 := by decide
 have h48' : ¬ (281474976710656 < Builtin.nextslicecap (sLen + n) sCap * i.bytes) := by omega
 simp [Builtin.append_, run_underlying ht, run_underlying ht2, sizeOf, typeInfo, zeroValue, hi, hz0, hz, hlen, hn, h63', h48', Question.forced, hold, hnew, newRow, grownCap]
end
section
variable {T : Tab} {by_ : Nat → Mode} {ann : Ann} {Φ : Known} {P : Program} {w0 : World} {E : Nat → Prop} {I0 : Ctx}
 {o : Oper} {a : Act} {w : World} {m : Nat} {K : St → Free} {r : A} {X : List Blk} {C : Ctx} {st : St} {f g : Nat → Nat}
theorem plainL_flat {l : List A} (h : plainL l = true) : plainL (flat l) = true := by
 induction l with
 | nil => rfl
 | cons a r ih =>
  simp only [plainL, Bool.and_eq_true] at h
  have ih := ih h.2
  simp only [flat, List.flatMap_cons]
  have app : ∀ l m : List A, plainL (l ++ m) = (plainL l && plainL m) := by
   intro l m
   induction l with
   | nil => rfl
   | cons b l ih => simp [plainL, ih, Bool.and_assoc]
  rw [app]
  simp only [flat] at ih
  rw [ih, Bool.and_true]
  cases a <;> simp_all [A.cells, plainL, A.plain]
theorem read_zero {k : Nat} {sa : Option Addr} {cap : Nat} {w : World} : (Builtin.firstCells k 0 (.slice sa 0 cap)).run P w = .ok #[] w := by
 cases sa <;> simp [Builtin.firstCells, loadCells, loadCellsFrom]
theorem sl_read {s : Sh} {es : List A} {x : Value} {k : Nat} {fz : Nat → Nat} (hk : ∀ y ∈ es, y.cells.length = k) (hx : Rep1 C w (.sl s es) x fz) :
  ∃ news fn sa cap, x = .slice sa es.length cap ∧ RepL C.bare w (flat es) news fn ∧ Ones news ∧ (∀ n, fn n ≤ fz n) ∧
   ∀ w' : World, w'.heap = w.heap → (Builtin.firstCells k es.length x).run P w' = .ok news.toArray w' := by
 have hkk : ∀ k', (∀ y ∈ es, y.cells.length = k') → es.length * k = es.length * k' := by
  intro k' h
  cases es with
  | nil => simp
  | cons y r => rw [← hk y (List.mem_cons_self ..), h y (List.mem_cons_self ..)]
 cases hx with
 | @nils _ _ _ sa _ _ _ h => exact ⟨[], fun _ => 0, sa, 0, rfl, by simpa [flat] using z0, (by intro v hv; cases hv), fun n => Nat.zero_le _, fun w' _ => read_zero⟩
 | @sl _ _ _ _ ad cap k' c e z _ _ _ f1 hrow hsp hk' hcap hsz hI' hs ho hf h1 h =>
  refine ⟨_, f1, _, _, rfl, h1, ho, fun n => by rw [hf]; exact Nat.zero_le _, fun w' hw => ?_⟩
  rw [addr_eq hsp]
  simp only [Builtin.firstCells, hkk k' hk']
  exact run_load_at (by rw [hw]; exact hrow) hsz
 | @ow _ _ k' _ ad cap c e z _ _ _ f1 f2 hrow hsp hk' hcap hsz hF hfz ho hf h1 h =>
  have hck : es.length * k' ≤ cap * k' := Nat.mul_le_mul_right _ hcap
  refine ⟨_, f1, _, _, rfl, h1, ho, fun n => by rw [hf]; omega, fun w' hw => ?_⟩
  rw [addr_eq hsp]
  simp only [Builtin.firstCells, hkk k' hk']
  exact run_load_at (by rw [hw]; exact hrow) (by omega)
theorem appElems_ok {b : A} {xs : List A} {st' : St} {x : Value} {k : Nat} (h : appElems st b = some (xs, st')) (hk : ∀ y ∈ xs, y.cells.length = k) (hI : InvG w0 E I0 C st a w f g) (hx : Rep1 C w b x fun _ => 0) :
  ∃ C' f' gx, InvG w0 E I0 C' st' a w f' (fun n => g n + gx n) ∧ C.To C' ∧ st'.env = st.env ∧ st'.ext = st.ext ∧
   ∃ news : List Value, RepL C'.bare w (flat xs) news gx ∧ Ones news ∧ (∀ w' : World, (Builtin.lenOf x).run P w' = .ok xs.length w') ∧
    ∀ w' : World, w'.heap = w.heap → (Builtin.firstCells k xs.length x).run P w' = .ok news.toArray w' := by
 unfold appElems at h
 split at h
 ·rename_i s es
  simp at h
  obtain ⟨rfl, rfl⟩ := h
  obtain ⟨news, fn, sa, cap, rfl, r1, r2, r3, r4⟩ := sl_read (P := P) hk hx
  exact ⟨C, f, fun _ => 0, hI, .refl C, rfl, rfl, news, r1.congr fun n => by have := r3 n; show 0 = fn n; simp at this; omega, r2, fun _ => rfl, r4⟩
 ·simp at h
  obtain ⟨rfl, rfl⟩ := h
  obtain rfl := inv_v hx
  exact ⟨C, f, fun _ => 0, hI, .refl C, rfl, rfl, [], z0, (by intro v hv; cases hv), fun _ => rfl, fun w' _ => rfl⟩
 ·rename_i s
  simp at h
  obtain ⟨rfl, rfl⟩ := h
  obtain rfl := inv_v hx
  have hl : (s.data.toList.map byteA).length = s.size := by simp only [List.length_map, Array.length_toList]; rfl
  refine ⟨C, f, fun _ => 0, hI, .refl C, rfl, rfl, s.data.toList.map (fun u => .int .u8 u.toNat), ?_, ?_, fun _ => by rw [hl]; rfl, fun w' _ => ?_⟩
  ·have e : flat (s.data.toList.map byteA) = (s.data.toList.map (fun u => (.int .u8 u.toNat : Value))).map .v := by
    simp only [flat, byteA, List.flatMap_map, List.map_map]
    induction s.data.toList with
    | nil => rfl
    | cons u l ih => simpa [A.cells] using ih
   rw [e]
   exact vs_rep _
  ·intro v hv
   simp at hv
   obtain ⟨u, _, rfl⟩ := hv
   rfl
  ·simp only [Builtin.firstCells, hl, Sem.run_pure]
   congr 1
   rw [ByteArray.extract_zero_size]
   apply Array.ext'
   simp
 ·rename_i b off len tot
  split at h
  case h_2 => simp at h
  rename_i blk hb
  split at h
  case isFalse => simp at h
  rename_i hc
  obtain ⟨hc1, hc2, hc3⟩ := hc
  split at h
  ·rename_i hpl
   simp at h
   obtain ⟨rfl, rfl⟩ := h
   have hms := hI.msOk hb hc2 hx
   obtain ⟨sa, cp, rfl, p1, p2, p3, p4⟩ := hms
   obtain ⟨l1, l2, f1, f2, e1, e2, m1, m2, n1, n2, hcase⟩ := hI.focus hb
   have hlen' : ((blk.es.drop off).take len).length = len := by simp; omega
   rw [hlen']
   by_cases hl0 : len = 0
   ·subst hl0
    refine ⟨C, f, fun _ => 0, hI, .refl C, rfl, rfl, [], by simpa [flat] using z0, (by intro v hv; cases hv), fun _ => rfl, fun w' _ => read_zero⟩
   rcases hcase with ⟨he, hcap, hf⟩ | ⟨fb, ⟨c, e, fz, g1, g2, g3, g4, g5, gbx, g6, g7⟩, hf⟩
   ·omega
   ·have p4 := p4 (by omega)
    subst p4
    have hlk : (off + len) * blk.k ≤ blk.es.length * blk.k := Nat.mul_le_mul_right _ (by omega)
    have hck : blk.es.length * blk.k ≤ (C.μ b).cap * blk.k := Nat.mul_le_mul_right _ g4
    rw [Nat.add_mul] at hlk
    obtain ⟨fx, hfx, hr⟩ := g7.extract (off * blk.k) (len * blk.k) (by rw [flat_length g3]; omega)
    rw [← flat_sub g3, hc1, Ctx.for_false] at hr
    have e3 : (((c.toList.drop (C.μ b).base).take (blk.es.length * blk.k)).drop (off * blk.k)).take (len * blk.k) = (c.toList.drop ((C.μ b).base + off * blk.k)).take (len * blk.k) := by
     rw [List.drop_take, List.drop_drop, List.take_take, Nat.min_eq_left (by omega)]
    refine ⟨C, f, fun _ => 0, hI, .refl C, rfl, rfl, _, plainL_zero (plainL_flat hpl) hr, fun v hv => g6 v (List.mem_of_mem_drop (List.mem_of_mem_take hv)), fun _ => rfl, fun w' hw => ?_⟩
    have hkk : blk.k = k := by
     have hne : (blk.es.drop off).take len ≠ [] := by
      intro h0; rw [h0] at hlen'; simp at hlen'; omega
     obtain ⟨y, hy⟩ := List.exists_mem_of_ne_nil _ hne
     rw [← g3 y (List.mem_of_mem_drop (List.mem_of_mem_take hy)), hk y hy]
    rw [e3]
    simp only [Builtin.firstCells, ← hkk]
    exact run_load_at (by rw [hw]; exact g1) (by omega)
  ·split at h
   case h_2 => simp at h
   rename_i kk
   split at h
   case isFalse => simp at h
   rename_i h0
   subst h0
   simp at h
   obtain ⟨rfl, rfl⟩ := h
   obtain ⟨f', gx, i1, t1, r1⟩ := hI.kill hb hc2 (by omega) hc1 hx
   obtain ⟨news, fn, sa, cap, rfl, q1, q2, q3, q4⟩ := sl_read (P := P) hk r1
   exact ⟨_, f', fn, i1.congr fun n => by have := q3 n; omega, t1, rfl, rfl, news, q1, q2, fun _ => rfl, q4⟩
 ·simp at h
theorem InvG.allocNul (h : InvG w0 E I0 C st a w f g) {k n : Nat} (hk : findB st.mem k = none) :
  InvG w0 E I0 (C.up (.l k) ⟨0, 0, 0⟩ ⟨true, n, false, []⟩) (st.new k ⟨true, n, false, []⟩) a w f g ∧ C.To (C.up (.l k) ⟨0, 0, 0⟩ ⟨true, n, false, []⟩) := by
 have hB : C.B (.l k) = none := by rw [h.raw]; exact hk
 have t := Ctx.up_new (l := ⟨0, 0, 0⟩) (b := ⟨true, n, false, []⟩) hB
 obtain ⟨l1, l2, e1, e2⟩ := St.new_split (b := ⟨true, n, false, []⟩) hk
 have hm := h.mem
 have hnone := entries_none hk
 have hu := h.uniq
 rw [e1] at hm hnone hu
 obtain ⟨f1, f2, hf, m1, m2⟩ := hm.split
 refine ⟨{
      defers := h.defers, first := h.first, firstX := h.firstX, below := h.below, old := h.old, keep := h.keep, ext0 := Ctx.ToX.trans h.firstX.symm h.ext0 t.x, extOn := h.extOn, one := h.one, own := h.own, same := h.same
      raw := fun i => by rw [St.raw_new hk]; simp only [Ctx.up, h.raw]
      uniq := ?_
      env := h.env.to t
      mem := ?_ }, t⟩
 ·rw [e2]
  simp only [List.map_append, List.map_cons] at hu ⊢
  refine (List.perm_middle.nodup_iff).2 (List.nodup_cons.2 ⟨fun hm => ?_, hu⟩)
  obtain ⟨p, hp, hp2⟩ := List.mem_map.1 (by rw [← List.map_append] at hm; exact hm)
  obtain ⟨q, b⟩ := p
  simp at hp2
  subst hp2
  exact hnone b hp
 ·rw [e2]
  exact (m1.up t fun b' hb' => absurd (List.mem_append_left _ hb') (hnone b')).app (MemR.nul rfl rfl (by simp [Ctx.up]) (m2.up t fun b' hb' => absurd (List.mem_append_right _ hb') (hnone b'))) hf
theorem setB_same {m : List (Nat × Blk)} {k : Nat} {b : Blk} (h : findB m k = some b) : setB m k b = m := by
 obtain ⟨l1, l2, e1, e2⟩ := findB_split h
 rw [e2, ← e1]
theorem put_same {i : Id} {b : Blk} (h : st.raw i = some b) : st.put i b = st := by
 cases i with
 | l k => simp only [St.put]; rw [setB_same h]
 | x j =>
  have : st.ext.set j b = st.ext := by
   apply List.ext_getElem?
   intro n
   rw [List.getElem?_set]
   split
   ·rename_i e
    subst e
    have h' : st.ext[j]? = some b := h
    rw [h']
    simp [(List.getElem?_eq_some_iff.1 h').1]
   ·rfl
  simp only [St.put, this]
theorem flat_app {es xs : List A} : flat (es ++ xs) = flat es ++ flat xs := by simp [flat]
theorem zeroCells_size {z : Array Value} {n : Nat} : (Builtin.zeroCells z n).size = n * z.size := by simp [Builtin.zeroCells]
theorem sliceN_ok {t e : TypeId} {x : Operand} {lo hi mx : Option Operand} (hop : o.op = .slice t x lo hi mx) (hT : TabOk P T) (hk : (T.row t).kind = .slice e) (hI : Inv w0 E I0 C st a w f) (hn : isNilL (ev st.env x) = true)
  (hR : RunsN T by_ ann Φ m (opSliceN st o.dst (T.row e).size (lo.map (ev st.env)) (hi.map (ev st.env)) (mx.map (ev st.env)) K) r X) : OpDone T by_ ann Φ P w0 E I0 o a w m K r X := by
 have hx := ev_rep hI.env x
 unfold opSliceN at hR
 split at hR
 case h_2 => exact hR.bad.elim
 rename_i k1 h k2 m1 hl hh hm hfr
 split at hR
 case isFalse => exact hR.bad.elim
 rename_i hk0
 obtain ⟨m', rfl, hp, hR2⟩ := hR.chk
 clear hR
 obtain ⟨rfl, rfl⟩ := of_decide_eq_true hp
 have hlo : lo = none := by cases lo <;> simp_all
 obtain ⟨ho, rfl, eh⟩ : ∃ ho, hi = some ho ∧ ev st.env ho = .v (.int k1 0) := by
  cases hi with
  | none => simp at hh
  | some ho => exact ⟨ho, rfl, by simpa using hh⟩
 obtain ⟨mo, rfl, em⟩ : ∃ mo, mx = some mo ∧ ev st.env mo = .v (.int k2 0) := by
  cases mx with
  | none => simp at hm
  | some mo => exact ⟨mo, rfl, by simpa using hm⟩
 subst hlo
 have vh := ev_rep hI.env ho
 rw [eh] at vh
 have vh := inv_v vh
 have vm := ev_rep hI.env mo
 rw [em] at vm
 have vm := inv_v vm
 obtain ⟨sa, cap, hv⟩ : ∃ sa cap, a.eval x = .slice sa 0 cap := by
  unfold isNilL at hn
  split at hn
  ·rename_i s ex
   rw [ex] at hx
   rcases inv_sl0 hx with ⟨_, sa, h1⟩ | ⟨ad, cap, k', c, e', fz, h1, _⟩
   ·exact ⟨sa, 0, h1⟩
   ·exact ⟨some ad, cap, h1⟩
  ·simp at hn
 have hrun : (execOp a.eval o).run P w = .ok (.value (.slice (if (0 : Nat) = 0 then sa else sa.map (·.add (0 * (T.row e).size))) 0 0)) w := by
  simp only [execOp, hop, Instr.sliceAt, Sem.run_bind, run_underlying' (hT.slice hk), Result.andThen_ok, hv, Instr.slice, Sem.run_pure]
  have hb := run_bounds (P := P) (w := w) (isSlice := true) (lo := (none : Option Operand).map a.eval) (hi := (some ho).map a.eval) (mx := (some mo).map a.eval) (l := 0) (h := 0) (m := 0) (len := 0) (cap := cap) (.inl ⟨rfl, rfl⟩) (.inr ⟨k1, by simp [vh]⟩) (.inr ⟨⟨k2, by simp [vm]⟩, rfl⟩) ⟨by omega, by omega, by omega, by omega⟩
  rw [hb]
  simp only [Result.andThen_ok, hT.run_size hk0]
  simp
 obtain ⟨i2, t2'⟩ := hI.toG.allocNul (n := (T.row e).size) hfr
 have i3 := i2.inv fun _ => rfl
 refine ⟨m', _, _, _, _, _, _, Nat.le_succ _, hR2, hrun, .inl rfl, i3.dst o.dst ?_⟩
 refine .ms (blk := ⟨true, (T.row e).size, false, []⟩) (by simp [Ctx.up]) rfl (fun _ => ⟨by simp, fun _ => ?_⟩) z0
 exact ⟨_, 0, rfl, by simp, by simp, by simp, by simp⟩
theorem append_ok {s x : Operand} {t t2 : TypeId} (hop : o.op = .call ⟨.builtin .append, #[s, x], #[t, t2]⟩) (hT : TabOk P T) (hI : Inv w0 E I0 C st a w f)
  (hR : RunsN T by_ ann Φ m (opAppend T st o.dst t t2 (ev st.env s) (ev st.env x) K) r X) : OpDone T by_ ann Φ P w0 E I0 o a w m K r X := by
 have hs := ev_rep hI.env s
 have hx := ev_rep hI.env x
 unfold opAppend at hR
 simp only at hR
 split at hR
 case h_2 => exact hR.bad.elim
 rename_i e0 xs st1 hk hk2 happ
 split at hR
 case isFalse => exact hR.bad.elim
 rename_i hc
 obtain ⟨hk0, hxs⟩ := hc
 simp only [List.all_eq_true, beq_iff_eq] at hxs
 have ht := hT.slice hk
 have he0 : (T.row t).elem = e0 := by simp [TRow.elem, hk]
 rw [he0] at hk0 hxs hR
 have ht2 : ∃ d2, P.underlying t2 = some d2 ∧ ∀ k, d2 ≠ .int k := by
  split at hk2
  ·rename_i e2 h2; exact ⟨_, hT.slice h2, by simp⟩
  ·rename_i h2; exact ⟨_, hT.string h2, by simp⟩
  ·cases hk2
 obtain ⟨d2, ht2, hd2⟩ := ht2
 obtain ⟨i, d, z, row⟩ := hT.get hk0
 obtain ⟨C1, f1, gx, i1, t1, ee1, ex1, news, r1, r2, r3, r4⟩ := appElems_ok (P := P) (k := (T.row e0).size) happ hxs hI.toG hx
 have i1 : InvG w0 E I0 C1 st1 a w f1 gx := i1.congr fun n => by simp
 have hnl : news.length = xs.length * (T.row e0).size := by rw [← r1.length, flat_length hxs]
 rw [← row.size] at r4 hnl
 have hflat : (flat xs).length = xs.length * i.size := by rw [flat_length hxs, row.size]
 have hz : z.cells.size = i.size := by rw [row.size, ← row.len, ← row.zeros]; simp
 have hzo : Ones z.cells.toList := by rw [row.zeros]; exact row.ones
 have call : ∀ {v : Value} {w' : World}, (Builtin.append_ #[t, t2] o.type #[a.eval s, a.eval x]).run P w = .ok v w' → (execOp a.eval o).run P w = .ok (.value v) w' := by
  intro v w' h
  refine run_call_builtin hop ?_
  simp [builtin, h]
 have i1d : InvG w0 E I0 C1 st1 a w.drew f1 gx := i1.drew
 split at hR
 ·-- onto nil
  rename_i es
  rw [es] at hs
  have hs := inv_v hs
  split at hR
  case h_2 => exact hR.bad.elim
  rename_i hfr
  obtain ⟨m', rfl, hp, hR⟩ := hR.chk
  have hp := of_decide_eq_true hp
  by_cases hn : xs.length = 0
  ·have hxn : xs = [] := List.length_eq_zero_iff.1 hn
   subst hxn
   obtain ⟨i2, t2'⟩ := i1.allocNul (n := (T.row e0).size) hfr
   have hrun := call (v := .slice none 0 0) (w' := w) (by
    rw [hs]
    have := run_append_fits (P := P) (w := w) ht ht2 hd2 row.info (ty := o.type) (base := none) (sLen := 0) (sCap := 0) (n := 0) (x := a.eval x) (news := news.toArray) (w' := w) (r3 w) (r4 w rfl) (by omega) (fun b hb => by cases hb) (fun _ => rfl)
    simpa using this)
   have i3 := (i2.congr (g' := fun _ => 0) fun n => Nat.zero_le _).inv fun _ => rfl
   refine ⟨m', _, _, _, _, _, _, Nat.le_succ _, hR, hrun, .inl rfl, i3.dst o.dst ?_⟩
   refine .ms (blk := ⟨true, (T.row e0).size, false, []⟩) (by simp [Ctx.up]) rfl (fun _ => ⟨by simp, fun _ => ?_⟩) z0
   exact ⟨none, 0, rfl, by simp, by simp, by simp, by simp⟩
  ·have hrun := call (by
    rw [hs]
    exact run_append_grows (P := P) (w := w) ht ht2 hd2 row.info row.zero (ty := o.type) (base := none) (sLen := 0) (sCap := 0) (n := xs.length) (x := a.eval x) (olds := #[]) (news := news.toArray) (r3 w) rfl (r4 _ rfl) (by omega) (by omega) (by rw [row.bytes]; exact row.small))
   simp only [Nat.zero_add, Array.empty_append] at hrun
   have hge := grownCap_ge w xs.length 0 e0
   obtain ⟨f2, i2, t2'⟩ := i1d.alloc (k := keyOf o.dst) (n := (T.row e0).size) (cap := grownCap w xs.length 0 e0) (box := false) (es := xs) (c := news.toArray ++ Builtin.zeroCells z.cells (grownCap w xs.length 0 e0 - xs.length)) (e := e0) (fz := (0, 0)) (gx := gx) (g1 := fun _ => 0)
    hfr (fun n => by simp) hxs hge (by simp only [Array.size_append, List.size_toArray, zeroCells_size, hnl, hz, ← row.size]; rw [← Nat.add_mul]; exact Nat.mul_le_mul_right _ (by omega)) (by intro q _ h; omega) (by have := grownCap_le_maxLen w xs.length 0 e0 (by unfold maxLen; omega); unfold maxLen at this; unfold capM; omega)
    (by rw [← row.size]; simp only [Array.toList_append, List.take_append_of_le_length (show xs.length * i.size ≤ news.length by omega)]; rw [List.take_of_length_le (by omega)]; exact r2)
    (fun h => by cases h) (by rw [← row.size]; simp only [Array.toList_append, List.take_append_of_le_length (show xs.length * i.size ≤ news.length by omega)]; rw [List.take_of_length_le (by omega)]; exact r1.frame (fun _ _ => rfl) (fun _ _ => rfl))
   have i3 := i2.inv fun _ => rfl
   refine ⟨m', _, _, _, _, _, _, Nat.le_succ _, hR, hrun, .inl rfl, i3.dst o.dst ?_⟩
   refine .ms (blk := ⟨true, (T.row e0).size, false, xs⟩) (by simp [Ctx.up]) rfl (fun _ => ⟨by simp, fun _ => ?_⟩) z0
   exact ⟨_, _, rfl, hge, by simp [Ctx.up], by simp, fun _ => by simp [Ctx.up]⟩
 ·-- onto a row
  rename_i b off len tot es
  rw [es] at hs
  split at hR
  case h_2 => exact hR.bad.elim
  rename_i blk hb
  split at hR
  case isFalse => exact hR.bad.elim
  rename_i hc
  obtain ⟨hc1, hc2, rfl, hc4, hc5⟩ := hc
  obtain ⟨m', rfl, hp, hR⟩ := hR.chk
  have hp := of_decide_eq_true hp
  subst hc4
  have hraw := (i1.get hb).1
  obtain ⟨sa, cp, hsv, p1, p2, p3, p4⟩ := i1.msOk hb hc2 (RepL.to hs t1)
  by_cases hn : xs.length = 0
  ·have hxn : xs = [] := List.length_eq_zero_iff.1 hn
   subst hxn
   have hnn : news = [] := by simpa using hnl
   subst hnn
   have hrun := call (v := .slice sa len cp) (w' := w) (by
    rw [hsv]
    exact run_append_fits (P := P) (w := w) ht ht2 hd2 row.info (ty := o.type) (base := sa) (sLen := len) (sCap := cp) (n := 0) (x := a.eval x) (news := #[]) (w' := w) (r3 w) (r4 w rfl) (by omega) (fun b hb => by simp [storeCells]) (fun _ => rfl))
   have hput : st1.put b { blk with es := blk.es ++ [] } = st1 := by rw [List.append_nil]; exact put_same hraw
   rw [hput] at hR
   have i3 := (i1.congr (g' := fun _ => 0) fun n => Nat.zero_le _).inv fun _ => rfl
   exact ⟨m', _, _, _, _, _, _, Nat.le_succ _, hR, hrun, .inl rfl, i3.dst o.dst (by rw [← hsv]; exact RepL.to hs t1)⟩
  ·obtain ⟨l1, l2, k1, k2, e1, e2, m1, m2, n1, n2, hcase⟩ := i1.focus hb
   have hold : ∃ olds : List Value, ∃ fb, RepL C1.bare w (flat blk.es) olds fb ∧ Ones olds ∧ (∀ n, k1 n + fb n + k2 n ≤ f1 n) ∧ (∀ w' : World, w'.heap = w.heap → (Builtin.firstCells i.size len (.slice sa len cp)).run P w' = .ok olds.toArray w') := by
    rcases hcase with ⟨he, hcap, hf⟩ | ⟨fb, ⟨c, e, fz, g1, g2, g3, g4, g5, gbx, g6, g7⟩, hf⟩
    ·rw [he]
     have h0 : len = 0 := by rw [he] at hc2; simpa using hc2
     subst h0
     exact ⟨[], fun _ => 0, by simpa [flat] using z0, (by intro v hv; cases hv), fun n => by have := hf n; show k1 n + 0 + k2 n ≤ f1 n; omega, fun w' _ => read_zero⟩
    ·by_cases hl0 : len = 0
     ·subst hl0
      have he : blk.es = [] := List.length_eq_zero_iff.1 hc2.symm
      rw [he]
      exact ⟨[], fun _ => 0, by simpa [flat] using z0, (by intro v hv; cases hv), fun n => by have := hf n; show k1 n + 0 + k2 n ≤ f1 n; omega, fun w' _ => read_zero⟩
     ·have p4 := p4 (by omega)
      subst p4
      have hck : blk.es.length * blk.k ≤ (C1.μ b).cap * blk.k := Nat.mul_le_mul_right _ g4
      rw [hc1, Ctx.for_false] at g7
      refine ⟨_, fb, g7, g6, fun n => by have := hf n; omega, fun w' hw => ?_⟩
      have hkk : len * i.size = blk.es.length * blk.k := by rw [hc2, hc5, row.size]
      simp only [Builtin.firstCells, hkk, Nat.zero_mul, Nat.add_zero]
      exact run_load_at (by rw [hw]; exact g1) (by omega)
   obtain ⟨olds, fb, q1, q2, q3, q4⟩ := hold
   have hes : ∀ y ∈ blk.es, y.cells.length = blk.k := by
    rcases hcase with ⟨he, _⟩ | ⟨_, ⟨c, e, fz, g1, g2, g3, _⟩, _⟩
    ·rw [he]; simp
    ·exact g3
   have hol : olds.length = len * i.size := by rw [← q1.length, flat_length hes, hc5, hc2, row.size]
   have hes' : ∀ y ∈ blk.es ++ xs, y.cells.length = blk.k := by
    intro y hy
    rcases List.mem_append.1 hy with hy | hy
    ·exact hes y hy
    ·rw [hc5]; exact hxs y hy
   have hrep : RepL C1.bare w (flat (blk.es ++ xs)) (olds ++ news) (fun n => fb n + gx n) := by rw [flat_app]; exact q1.app r1 fun _ => rfl
   have hones : Ones (olds ++ news) := by
    intro v hv
    rcases List.mem_append.1 hv with hv | hv
    ·exact q2 v hv
    ·exact r2 v hv
   have hll : (blk.es ++ xs).length * blk.k = (olds ++ news).length := by
    simp only [List.length_append, hol, hnl, ← Nat.add_mul, hc2, hc5, row.size]
   by_cases hroom : len + xs.length ≤ cp
   ·-- in place
    have p4 := p4 (by omega)
    subst p4
    rcases hcase with ⟨he, hcap, hf⟩ | ⟨fb', hbk, hf⟩
    ·omega
    obtain ⟨c, e, fz, g1, g2, g3, g4, g5, gbx, g6, g7⟩ := id hbk
    have hck : (len + xs.length) * blk.k ≤ (C1.μ b).cap * blk.k := Nat.mul_le_mul_right _ (by omega)
    have hst := run_storeCells_free (P := P) (C1.μ b).blk ((C1.μ b).base + len * i.size) e fz news 0 c w g1 g2.1 (by
     rw [Nat.add_mul, hc5, ← row.size] at hck
     rw [hc5, ← row.size] at g5
     simp only [hnl]; omega) r2
    have hlk : (len + xs.length) * i.size = len * i.size + xs.length * i.size := Nat.add_mul ..
    have hkk : blk.k = i.size := by rw [hc5, row.size]
    rw [hkk] at hck g5 g6 g7
    simp only [Nat.add_zero, hnl] at hst
    have hrun := call (by
     rw [hsv]
     exact run_append_fits (P := P) (w := w) ht ht2 hd2 row.info (ty := o.type) (base := some ⟨(C1.μ b).blk, (C1.μ b).base + 0 * blk.k, none⟩) (sLen := len) (sCap := cp) (n := xs.length) (x := a.eval x) (news := news.toArray) (r3 w) (r4 w rfl) hroom
      (fun b' hb' => by
       simp only [Option.some.injEq] at hb'
       subst hb'
       rw [addr_add, Nat.zero_mul, Nat.add_zero]
       exact hst) (fun h => by cases h))
    have hseg : ((c.toList.take ((C1.μ b).base + len * i.size) ++ news ++ c.toList.drop ((C1.μ b).base + len * i.size + xs.length * i.size)).drop (C1.μ b).base).take ((len + xs.length) * i.size) = (c.toList.drop (C1.μ b).base).take (len * i.size) ++ news := by
     have := seg_swap (xs := c.toList) (V := news) (A := (C1.μ b).base) (S := (len + xs.length) * i.size) (p := len * i.size) hnl (by omega) (by simp; omega)
     rw [this, List.take_take, Nat.min_eq_left (by omega)]
     have hnil : ((c.toList.drop (C1.μ b).base).take ((len + xs.length) * i.size)).drop (len * i.size + xs.length * i.size) = [] := List.drop_eq_nil_of_le (by simp only [List.length_take]; omega)
     rw [hnil, List.append_nil]
    rw [← hc2] at g6 g7
    obtain ⟨f2, i2, t2'⟩ := i1.write (b' := { blk with es := blk.es ++ xs }) hb hbk e2 m1 m2 n1 n2 hf (c' := (c.toList.take ((C1.μ b).base + len * i.size) ++ news ++ c.toList.drop ((C1.μ b).base + len * i.size + xs.length * i.size)).toArray)
     g1 (by simp only [List.size_toArray, List.length_append, List.length_take, List.length_drop, hnl, Array.length_toList]; omega) (i1.get hb).2.2 rfl (by simp) hes' (by simp only [List.length_append, ← hc2]; omega) (gx := gx) (g1 := fun _ => 0) (fun n => by simp) (fb' := fun n => fb' n + gx n) (fun n => Nat.le_refl _)
     (fun hb0 => by simp only [hc1] at hb0; cases hb0)
     (by
      simp only [List.length_append, ← hc2, hkk, hseg]
      intro v hv
      rcases List.mem_append.1 hv with hv | hv
      ·exact g6 v hv
      ·exact r2 v hv)
     (by
      simp only [List.length_append, ← hc2, hkk, hseg, flat_app]
      rw [hc1, Ctx.for_false] at g7 ⊢
      exact g7.app r1 fun _ => rfl)
    have i3 := i2.inv fun _ => rfl
    refine ⟨m', _, _, _, _, _, _, Nat.le_succ _, hR, hrun, .inl rfl, i3.dst o.dst ?_⟩
    refine .ms (blk := { blk with es := blk.es ++ xs }) (by simp [Ctx.up]) rfl (fun _ => ⟨by simp [hc2], fun _ => ?_⟩) z0
    exact ⟨_, _, rfl, hroom, by simp [Ctx.up]; omega, by omega, fun _ => by simp [Ctx.up]⟩
   ·-- a new row
    have hrun := call (by
     rw [hsv]
     exact run_append_grows (P := P) (w := w) ht ht2 hd2 row.info row.zero (ty := o.type) (base := sa) (sLen := len) (sCap := cp) (n := xs.length) (x := a.eval x) (olds := olds.toArray) (news := news.toArray) (r3 w) (q4 _ rfl) (r4 _ rfl) (by omega) (by omega) (by rw [row.bytes]; exact row.small))
    have hge := grownCap_ge w (len + xs.length) cp e0
    have hkk : blk.k = i.size := by rw [hc5, row.size]
    have hlk : (len + xs.length) * i.size = len * i.size + xs.length * i.size := Nat.add_mul ..
    have hcl : (olds.toArray ++ news.toArray ++ Builtin.zeroCells z.cells (grownCap w (len + xs.length) cp e0 - (len + xs.length))).toList.take ((blk.es ++ xs).length * blk.k) = olds ++ news := by
     rw [hll]
     simp only [Array.toList_append, List.take_left']
    obtain ⟨f2, i2, t2'⟩ := i1d.move (b' := { blk with es := blk.es ++ xs }) hb e2 (m1.frame (fun _ _ => rfl) (fun _ _ => rfl)) (m2.frame (fun _ _ => rfl) (fun _ _ => rfl)) n1 n2 q3
     (c' := olds.toArray ++ news.toArray ++ Builtin.zeroCells z.cells (grownCap w (len + xs.length) cp e0 - (len + xs.length))) (e := e0) (fz := (0, 0)) (cap := grownCap w (len + xs.length) cp e0) (by intro q _ h; omega) (by have := grownCap_le_maxLen w (len + xs.length) cp e0 (by unfold maxLen; omega); unfold maxLen at this; unfold capM; omega)
     (i1.get hb).2.2 (by simp only [List.length_append]; omega) hes' (by simp only [List.length_append, ← hc2]; exact hge)
     (by
      simp only [Array.size_append, List.size_toArray, zeroCells_size, hol, hnl, hz, hkk]
      rw [← Nat.add_mul, ← Nat.add_mul]; exact Nat.mul_le_mul_right _ (by omega))
     (gx := gx) (g1 := fun _ => 0) (fun n => by simp) (fb' := fun n => fb n + gx n) (fun n => Nat.le_refl _) (fun hb0 => by simp only [hc1] at hb0; cases hb0)
     (by simp only [hcl]; exact hones) (by simp only [hcl]; rw [hc1, Ctx.for_false]; exact hrep.frame (fun _ _ => rfl) (fun _ _ => rfl))
    have i3 := i2.inv fun _ => rfl
    refine ⟨m', _, _, _, _, _, _, Nat.le_succ _, hR, hrun, .inl rfl, i3.dst o.dst ?_⟩
    refine .ms (blk := { blk with es := blk.es ++ xs }) (by simp [Ctx.up]) rfl (fun _ => ⟨by simp [hc2], fun _ => ?_⟩) z0
    exact ⟨_, _, rfl, hge, by simp [Ctx.up], by omega, fun _ => by simp [Ctx.up]⟩
 ·exact hR.bad.elim
end
end Go.AM

namespace Go.AM
open Go
inductive Parts (C : Ctx) (w : World) : List A → List Value → (Nat → Nat) → Prop
 | nil {f : Nat → Nat} (h : ∀ b, f b = 0) : Parts C w [] [] f
 | cons {b : A} {x : Value} {l : List A} {xs : List Value} {f f1 f2 : Nat → Nat} (hf : ∀ n, f n = f1 n + f2 n) (h1 : RepL C w b.cells x.cells.toList f1) (ho : Ones x.cells.toList) (h : Parts C w l xs f2) : Parts C w (b :: l) (x :: xs) f
section
variable {T : Tab} {by_ : Nat → Mode} {ann : Ann} {Φ : Known} {P : Program} {w0 : World} {E : Nat → Prop} {I0 : Ctx}
 {o : Oper} {a : Act} {w : World} {m : Nat} {K : St → Free} {r : A} {X : List Blk} {C : Ctx} {st : St} {f g : Nat → Nat}
theorem flat_replicate {x : A} {n : Nat} : flat (List.replicate n x) = (List.replicate n x.cells).flatten := by
 induction n with
 | zero => rfl
 | succ n ih => simp only [flat, List.replicate_succ, List.flatMap_cons, List.flatten_cons] at *; rw [ih]
theorem rep_replicate {x : A} {z : Value} (h : RepL C w x.cells z.cells.toList fun _ => 0) (n : Nat) : RepL C w (flat (List.replicate n x)) (List.replicate n z.cells.toList).flatten fun _ => 0 := by
 rw [flat_replicate]
 induction n with
 | zero => exact z0
 | succ n ih => simp only [List.replicate_succ, List.flatten_cons]; exact h.app ih fun _ => rfl
theorem zeros_row {z : Array Value} {n : Nat} (h : z.size ≠ 0) : ((Array.range (n * z.size)).map (z[· % z.size]!)).toList = (List.replicate n z.toList).flatten := by
 simp only [Array.toList_map, Array.toList_range]
 induction n with
 | zero => simp
 | succ n ih =>
  rw [Nat.succ_mul, List.range_add, List.map_append, ih, List.replicate_succ', List.flatten_append]
  congr 1
  simp only [List.map_map, List.flatten_cons, List.flatten_nil, List.append_nil]
  apply List.ext_getElem
  ·simp
  ·intro k h1 h2
   simp at h1
   simp [Nat.mod_eq_of_lt h1, h1]
theorem ones_replicate {l : List Value} (h : Ones l) (n : Nat) : Ones (List.replicate n l).flatten := by
 intro v hv
 obtain ⟨l', hl, hv⟩ := List.mem_flatten.1 hv
 rw [(List.mem_replicate.1 hl).2] at hv
 exact h v hv
theorem make_ok {t : TypeId} {l c : Operand} (hop : o.op = .makeSlice t l c) (hT : TabOk P T) (hI : Inv w0 E I0 C st a w f)
  (hR : RunsN T by_ ann Φ m (opMake T st o.dst t (ev st.env l) (ev st.env c) K) r X) : OpDone T by_ ann Φ P w0 E I0 o a w m K r X := by
 unfold opMake at hR
 split at hR
 case h_2 => exact hR.bad.elim
 rename_i e0 n m1 hk hl hc hfr
 split at hR
 case isFalse => exact hR.bad.elim
 rename_i hk0
 obtain ⟨m', rfl, hp, hR⟩ := hR.chk
 have hp := of_decide_eq_true hp
 obtain ⟨hp1, hp2, rfl⟩ := hp
 obtain ⟨kl, hl⟩ := inv_nat hl (ev_rep hI.env l)
 obtain ⟨kc, hc⟩ := inv_nat hc (ev_rep hI.env c)
 obtain ⟨i, d, z, row⟩ := hT.get hk0
 have hz : z.cells.size = (T.row e0).size := by rw [← row.len, ← row.zeros]; simp
 have hw : IntKind.i64.wrap m1 = m1 := by unfold IntKind.wrap; simp [IntKind.bits, IntKind.signed]; omega
 have hb1 : i.bytes ≤ 65536 := by rw [row.bytes]; exact row.small
 have hbig : ¬ ((i.bytes : Int) * m1 > 281474976710656) := by
  have : (i.bytes : Int) * m1 ≤ 65536 * 1073741824 := Int.mul_le_mul (by omega) hp2 hp1 (by omega)
  omega
 have hrun : (execOp a.eval o).run P w = .ok (.value (.slice (some ⟨w.heap.size, 0, none⟩) m1.toNat m1.toNat)) (w.alloc (.cells ((Array.range (m1.toNat * (T.row e0).size)).map (z.cells[· % z.cells.size]!)) e0)) := by
  have hn1 : ¬ m1 < 0 := by omega
  by_cases h0 : m1.toNat = 0
  ·simp [execOp, hop, Instr.makeSlice, run_underlying (hT.slice hk), hl, hc, asInt, asIntOf, typeInfo, row.info, hw, hn1, hbig, sizeOf, h0, newRow, show Array.range 0 = #[] from rfl]
  ·simp [execOp, hop, Instr.makeSlice, run_underlying (hT.slice hk), hl, hc, asInt, asIntOf, typeInfo, row.info, hw, hn1, hbig, sizeOf, row.size, h0, hk0, zeroValue, row.zero, newRow]
   intro h
   rcases Nat.mul_eq_zero.1 h with h | h <;> omega
 obtain ⟨hone, hlen⟩ := zero_one hT hk0
 have hzr := zero_rep (C := C.bare) (w := w) hT hk0 row.agg
 obtain ⟨q1, q2⟩ := rep_cells hone hzr
 have hrow := zeros_row (z := z.cells) (n := m1.toNat) (by omega)
 rw [hz] at hrow hrun
 obtain ⟨f', hI', t'⟩ := hI.toG.alloc (k := keyOf o.dst) (n := (T.row e0).size) (cap := m1.toNat) (box := false) (es := List.replicate m1.toNat (T.row e0).zeroA) (c := (Array.range (m1.toNat * (T.row e0).size)).map (z.cells[· % (T.row e0).size]!)) (e := e0) (fz := (0, 0)) (gx := fun _ => 0) (g1 := fun _ => 0)
  hfr (fun _ => rfl) (by intro y hy; rw [(List.mem_replicate.1 hy).2]; exact hlen) (by simp) (by simp) (by intro q _ h; omega) (by unfold capM; omega)
  (by rw [hrow]; intro v hv; exact ones_replicate q2 _ v (List.mem_of_mem_take hv)) (fun h => by cases h)
  (by
   rw [hrow, List.take_of_length_le (by simp [hz])]
   exact rep_replicate q1 _)
 have i3 := hI'.inv fun _ => rfl
 refine ⟨m', _, _, _, _, _, _, Nat.le_succ _, hR, hrun, .inl rfl, i3.dst o.dst ?_⟩
 refine .ms (blk := ⟨true, (T.row e0).size, false, List.replicate m1.toNat (T.row e0).zeroA⟩) (by simp [Ctx.up]) rfl (fun _ => ⟨by simp, fun _ => ?_⟩) z0
 exact ⟨_, _, rfl, Nat.le_refl _, by simp [Ctx.up], by simp, fun _ => by simp [Ctx.up]⟩
theorem Parts.to {C D : Ctx} {w l xs f} (h : Parts C w l xs f) (t : C.To D) : Parts D w l xs f := by
 induction h with
 | nil h => exact .nil h
 | cons hf h1 ho _ ih => exact .cons hf (h1.to t) ho ih
theorem insAs_ok : ∀ {l l' : List A} {st st' : St} {C : Ctx} {f g : Nat → Nat} {xs : List Value} (_ : insAs st l = some (l', st')) (_ : InvG w0 E I0 C st a w f g) (_ : RepL C w l xs fun _ => 0),
  ∃ C' f' gx, InvG w0 E I0 C' st' a w f' (fun n => g n + gx n) ∧ C.To C' ∧ Parts C'.bare w l' xs gx ∧ st'.env = st.env ∧ st'.ext = st.ext ∧ C'.I = C.I
 | [], l', st, st', C, f, g, xs, h, hI, hx => by
  simp [insAs] at h
  obtain ⟨rfl, rfl⟩ := h
  cases hx
  exact ⟨C, f, fun _ => 0, hI, .refl C, .nil fun _ => rfl, rfl, rfl, rfl⟩
 | b :: l, l', st, st', C, f, g, xs, h, hI, hx => by
  simp only [insAs] at h
  split at h
  case h_2 => simp at h
  rename_i b1 st1 h1
  split at h
  case h_2 => simp at h
  rename_i l1 st2 h2
  simp at h
  obtain ⟨rfl, rfl⟩ := h
  obtain ⟨x, ys, rfl, r1, r2⟩ := hx.cons0
  obtain ⟨C1, f1, g1, i1, t1, q1, o1, e1, e1', ei1, _⟩ := insA_ok h1 hI r1
  obtain ⟨C2, f2, g2, i2, t2, q2, e2, e2', ei2⟩ := insAs_ok h2 i1 (r2.to t1)
  exact ⟨C2, f2, fun n => g1 n + g2 n, i2.congr fun n => by show g n + (g1 n + g2 n) ≤ g n + g1 n + g2 n; omega, t1.trans t2, .cons (fun _ => rfl) (q1.to t2.bare) o1 q2, e2.trans e1, e2'.trans e1', ei2.trans ei1⟩
def setAt (off : Nat) (cs : Array Value) (p : Value × Nat) : Array Value := cs.setIfInBounds (off + p.2) p.1
theorem foldl_set (off : Nat) : ∀ (vs : List Value) (j : Nat) (cs : Array Value), off + j + vs.length ≤ cs.size →
  ((vs.zipIdx j).foldl (setAt off) cs).toList = cs.toList.take (off + j) ++ vs ++ cs.toList.drop (off + j + vs.length)
 | [], j, cs, h => by simp
 | v :: r, j, cs, h => by
  simp only [List.length_cons] at h
  simp only [List.zipIdx_cons, List.foldl_cons]
  rw [foldl_set off r (j + 1) _ (by simp [setAt]; omega)]
  have := list_seg_step cs.toList (off + j) v r (by simp; omega)
  simpa [setAt, Array.toList_setIfInBounds, Nat.add_assoc] using this
theorem fill_ok {k len : Nat} (hk0 : k ≠ 0) : ∀ (ps : List Nat) (as : List A) (xs : List Value) (es : List A) (cs : Array Value) (fe gx : Nat → Nat),
  ps.length = xs.length → (∀ p ∈ ps, p < len) → (∀ y ∈ as, y.cells.length = k) → (∀ y ∈ es, y.cells.length = k) → es.length = len → cs.size = len * k → RepL C w (flat es) cs.toList fe → Ones cs.toList → Parts C w as xs gx →
  ∃ cs' : Array Value, ∃ f', Instr.fill (fun i => some (i * k, k)) cs (ps.zip xs) = some cs' ∧ cs'.size = len * k ∧ RepL C w (flat (fillA k es (ps.zip as))) cs'.toList f' ∧ (∀ n, f' n ≤ fe n + gx n) ∧ Ones cs'.toList ∧
   (fillA k es (ps.zip as)).length = len ∧ ∀ y ∈ fillA k es (ps.zip as), y.cells.length = k := by
 intro ps
 induction ps with
 | nil =>
  intro as xs es cs fe gx h1 h2 h3 h4 h5 h6 h7 h8 h9
  exact ⟨cs, fe, rfl, h6, h7, fun n => Nat.le_add_right _ _, h8, h5, h4⟩
 | cons p ps ih =>
  intro as xs es cs fe gx h1 h2 h3 h4 h5 h6 h7 h8 h9
  cases h9 with
  | nil h => simp at h1
  | @cons b x l xs' _ f1 f2 hf q1 q2 q3 =>
   have hb := h3 b (List.mem_cons_self ..)
   have hp := h2 p (List.mem_cons_self ..)
   have hx : x.cells.size = k := by rw [← hb, q1.length]; simp
   have hpk : p * k + k ≤ len * k := by rw [← Nat.succ_mul]; exact Nat.mul_le_mul_right _ hp
   have hfl := foldl_set (p * k) x.cells.toList 0 cs (by simp [hx]; omega)
   simp only [Nat.add_zero, Array.length_toList, hx] at hfl
   obtain ⟨f', hf', hr⟩ := h7.swap q1 hb (p := p * k) (by rw [flat_length h4, h5]; omega)
   have hfs := flat_set h4 (i := p) (off := 0) (v := b) (by omega) (by omega) (by omega)
   have hst : ∀ y ∈ es.set p b, y.cells.length = k := by
    intro y hy
    rcases List.mem_or_eq_of_mem_set hy with hy | hy
    ·exact h4 y hy
    ·rw [hy]; exact hb
   have hflat : flat (es.set p b) = (flat es).take (p * k) ++ b.cells ++ (flat es).drop (p * k + k) := by
    have e1 : flat (es.set p b) = flat (es.set p (storeIn (es.getD p .any) 0 b)) := by
     have hc : (storeIn (es.getD p .any) 0 b).cells = b.cells := by
      have hd := getD_cells h4 (i := p) (by omega)
      rw [storeIn_cells (by omega) (by omega), hb, List.drop_eq_nil_of_le (by omega)]; simp
     have gen : ∀ (l : List A) (n : Nat) (u v : A), u.cells = v.cells → flat (l.set n u) = flat (l.set n v) := by
      intro l
      induction l with
      | nil => intro n u v _; rfl
      | cons y l ih =>
       intro n u v huv
       cases n with
       | zero => simp [flat, huv]
       | succ n => have := ih n u v huv; simp only [flat, List.set_cons_succ, List.flatMap_cons] at *; rw [this]
     exact gen _ _ _ _ hc.symm
    rw [e1, hfs, hb]
    simp
   rw [← hflat] at hr
   have hones : Ones (cs.toList.take (p * k) ++ x.cells.toList ++ cs.toList.drop (p * k + k)) := by
    intro v hv
    rcases List.mem_append.1 hv with hv | hv
    ·rcases List.mem_append.1 hv with hv | hv
     ·exact h8 v (List.mem_of_mem_take hv)
     ·exact q2 v hv
    ·exact h8 v (List.mem_of_mem_drop hv)
   rw [← hfl] at hr hones
   have hfe : x.cells.zipIdx.foldl (fun cs (c, j) => cs.setIfInBounds (p * k + j) c) cs = (x.cells.toList.zipIdx 0).foldl (setAt (p * k)) cs := by
    rw [← Array.foldl_toList, Array.toList_zipIdx]
    rfl
   have hsz : ((x.cells.toList.zipIdx 0).foldl (setAt (p * k)) cs).size = len * k := by
    have := congrArg List.length hfl
    simp only [Array.length_toList, List.length_append, List.length_take, List.length_drop, hx] at this
    omega
   have hlenps : ps.length = xs'.length := by simpa using h1
   obtain ⟨cs', f'', e1, e2, e3, e4, e5, e6, e7⟩ := ih l xs' (es.set p b) _ f' f2 hlenps (fun q hq => h2 q (List.mem_cons_of_mem _ hq)) (fun y hy => h3 y (List.mem_cons_of_mem _ hy)) hst (by simpa using h5) hsz hr hones q3
   refine ⟨cs', f'', ?_, e2, by simpa [fillA] using e3, fun n => by have := e4 n; have := hf' n; have := hf n; omega, e5, by simpa [fillA] using e6, by simpa [fillA] using e7⟩
   have hcond : ¬ ((decide (x.cells.size ≠ k) || decide (p * k + x.cells.size > cs.size)) = true) := by rw [hx, h6]; simp; omega
   simp only [List.zip_cons_cons, Instr.fill]
   rw [if_neg hcond]
   have hfe' : Array.foldl (fun cs x => cs.setIfInBounds (p * k + x.snd) x.fst) cs x.cells.zipIdx = (x.cells.toList.zipIdx 0).foldl (setAt (p * k)) cs := hfe
   rw [hfe']
   exact e1
theorem evC_rep (hI : Inv w0 E I0 C st a w f) (x : Operand) : Rep1 C w (evC st.env x) (a.eval x) fun _ => 0 := by
 cases x with
 | const v =>
  cases v <;> first | exact .v z0 | skip
  rename_i cs
  show RepL C w [.agg (cs.toList.map .v)] [Value.agg cs] fun _ => 0
  have : RepL C w [.agg (cs.toList.map .v)] [Value.agg cs.toList.toArray] fun _ => 0 := .agg (fun _ => rfl) (vs_rep _) z0
  simpa using this
 | tmp t => exact ev_rep hI.env (.tmp t)
 | global t => exact ev_rep hI.env (.global t)
 | func t => exact ev_rep hI.env (.func t)
theorem evCs_rep (hI : Inv w0 E I0 C st a w f) (l : List Operand) : RepL C w (l.map (evC st.env)) (l.map a.eval) fun _ => 0 := by
 induction l with
 | nil => exact z0
 | cons x l ih => exact (evC_rep hI x).cons0 ih
theorem buildSlice_ok {t : TypeId} {len : Nat} {ps : Array (Nat × Operand)} (hop : o.op = .buildSlice t len ps) (hT : TabOk P T) (hI : Inv w0 E I0 C st a w f)
  (hR : RunsN T by_ ann Φ m (opBuildSlice T st o.dst t len (ps.toList.map fun p => (p.1, evC st.env p.2)) K) r X) : OpDone T by_ ann Φ P w0 E I0 o a w m K r X := by
 unfold opBuildSlice at hR
 split at hR
 case h_2 => exact hR.bad.elim
 rename_i e0 as st1 hk has
 split at hR
 ·exact hR.bad.elim
 rename_i hfr
 split at hR
 case isFalse => exact hR.bad.elim
 rename_i hc
 obtain ⟨hk0, hl, hps, has2⟩ := hc
 simp only [List.all_map, List.all_eq_true, Function.comp, decide_eq_true_eq] at hps
 simp only [List.all_eq_true, beq_iff_eq] at has2
 have hev : RepL C w ((ps.toList.map fun p => (p.1, evC st.env p.2)).map (·.2)) (ps.toList.map fun p => a.eval p.2) fun _ => 0 := by
  have := evCs_rep hI (ps.toList.map (·.2))
  rw [List.map_map, List.map_map] at this
  rw [List.map_map]
  exact this
 obtain ⟨C1, f1, gx, i1, t1, q1, e1, e2, ei⟩ := insAs_ok has hI.toG hev
 have i1 : InvG w0 E I0 C1 st1 a w f1 gx := i1.congr fun n => by simp
 obtain ⟨i, d, z, row⟩ := hT.get hk0
 have hz : z.cells.size = (T.row e0).size := by rw [← row.len, ← row.zeros]; simp
 obtain ⟨hone, hlen⟩ := zero_one hT hk0
 obtain ⟨q2, q3⟩ := rep_cells hone (zero_rep (C := C1.bare) (w := w) hT hk0 row.agg)
 have hrow := zeros_row (z := z.cells) (n := len) (by omega)
 have hzr : RepL C1.bare w (flat (List.replicate len (T.row e0).zeroA)) ((Array.range (len * z.cells.size)).map (z.cells[· % z.cells.size]!)).toList fun _ => 0 := by rw [hrow]; exact rep_replicate q2 _
 have hzo : Ones ((Array.range (len * z.cells.size)).map (z.cells[· % z.cells.size]!)).toList := by rw [hrow]; exact ones_replicate q3 _
 have hmap : ((ps.toList.map fun p => (p.1, evC st.env p.2)).map (·.1)) = ps.toList.map (·.1) := by simp [List.map_map, Function.comp]
 rw [hmap] at hR
 obtain ⟨cs', f', g1, g2, g3, g4, g5, g6, g7⟩ := fill_ok (len := len) hk0 (ps.toList.map (·.1)) as (ps.toList.map fun p => a.eval p.2) (List.replicate len (T.row e0).zeroA) ((Array.range (len * z.cells.size)).map (z.cells[· % z.cells.size]!)) (fun _ => 0) gx
  (by simp) (by intro p hp; obtain ⟨q, hq, rfl⟩ := List.mem_map.1 hp; exact hps q hq) has2 (by intro y hy; rw [(List.mem_replicate.1 hy).2]; exact hlen) (by simp) (by simp [hz]) hzr hzo q1
 have hzip : (ps.toList.map (·.1)).zip (ps.toList.map fun p => a.eval p.2) = ps.toList.map fun p => (p.1, a.eval p.2) := by
  induction ps.toList with
  | nil => rfl
  | cons p l ih => simp [ih]
 rw [hzip, hz] at g1
 have hrun : (execOp a.eval o).run P w = .ok (.value (.slice (some ⟨w.heap.size, 0, none⟩) len len)) (w.alloc (.cells cs' e0)) := by
  have hbig : ¬ (16777216 < len * (T.row e0).size) := by omega
  have hparts : (ps.map fun x => (x.1, a.eval x.2)).toList = ps.toList.map fun p => (p.1, a.eval p.2) := by simp
  by_cases h0 : len = 0
  ·subst h0
   have g1' : Instr.fill (fun i => some (i * (T.row e0).size, (T.row e0).size)) #[] (ps.toList.map fun p => (p.1, a.eval p.2)) = some cs' := by
    rw [← g1]; congr 1; simp [show Array.range 0 = #[] from rfl]
   simp [execOp, hop, Instr.buildSlice, run_underlying (hT.slice hk), hT.run_size hk0, newRow, show Array.range 0 = #[] from rfl, g1']
  ·have hne : ¬ (len * (T.row e0).size = 0) := by intro h; rcases Nat.mul_eq_zero.1 h with h | h <;> omega
   rw [← hz] at g1 hne hbig
   have hrs := hT.run_size hk0 w
   rw [← hz] at hrs
   simp only [execOp, hop, Instr.buildSlice, Sem.run_bind, run_underlying (hT.slice hk), Result.andThen_ok, hrs, Sem.run_ite, if_neg hbig, if_neg hne]
   simp [zeroValue, typeInfo, row.info, row.zero, newRow, g1]
 obtain ⟨f2, i2, t2⟩ := i1.alloc (k := keyOf o.dst) (n := (T.row e0).size) (cap := len) (box := false) (es := fillA (T.row e0).size (List.replicate len (T.row e0).zeroA) ((ps.toList.map (·.1)).zip as)) (c := cs') (e := e0) (fz := (0, 0)) (gx := f') (g1 := fun n => gx n - f' n)
  hfr (fun n => by have := g4 n; simp at this; omega) g7 (by omega) (by omega) (by intro q _ h; omega) (by have : len * 1 ≤ len * (T.row e0).size := Nat.mul_le_mul_left _ (by omega); unfold capM; omega) (fun v hv => g5 v (List.mem_of_mem_take hv)) (fun h => by cases h)
  (by rw [g6, List.take_of_length_le (by simp [g2])]; exact g3)
 have i3 := (i2.congr (g' := fun _ => 0) fun n => Nat.zero_le _).inv fun _ => rfl
 refine ⟨m, _, _, _, _, _, _, Nat.le_refl _, hR, hrun, .inl rfl, i3.dst o.dst ?_⟩
 refine .ms (blk := ⟨true, (T.row e0).size, false, fillA (T.row e0).size (List.replicate len (T.row e0).zeroA) ((ps.toList.map (·.1)).zip as)⟩) (by simp only [Ctx.up, if_true]) rfl (fun _ => ⟨by simp only [g6]; exact Nat.le_refl _, fun _ => ?_⟩) z0
 exact ⟨_, _, rfl, Nat.le_refl _, by simp [Ctx.up], by simp, fun _ => by simp [Ctx.up]⟩
theorem plain_cnt {l : List A} {xs : List Value} {f : Nat → Nat} (h : RepL C w l xs f) (hp : plainL l = true) : ∀ b, f b = 0 := by
 induction h with
 | nil h => exact h
 | any _ ih => simp [plainL, A.plain] at hp
 | v _ ih => exact ih (by simpa [plainL, A.plain] using hp)
 | ifc _ ih => exact ih (by simpa [plainL, A.plain] using hp)
 | agg hf _ _ ih1 ih => simp only [plainL, A.plain, Bool.and_eq_true] at hp; intro b; rw [hf, ih1 hp.1, ih hp.2]
 | tup hf _ _ ih1 ih => simp [plainL, A.plain] at hp
 | nils _ ih => simp only [plainL, A.plain, Bool.and_eq_true] at hp; exact ih hp.2
 | sl hrow hsp hk hcap hsz hI hs ho hf h1 _ ih1 ih => simp only [plainL, A.plain, Bool.and_eq_true] at hp; exact ih hp.2
 | ow hrow hsp hk hcap hsz hF hfz ho hf h1 _ ih1 ih => simp [plainL, A.plain, Sh.own] at hp
 | ms hb h1 hm _ ih => simp [plainL, A.plain] at hp
 | ref hb h1 hm _ ih => simp [plainL, A.plain] at hp
 | ptr hrow hsp hk hsz hI hi ho hf h1 _ ih1 ih => simp [plainL, A.plain] at hp
 | fn hf1 hf2 _ _ _ ih1 ih2 ih => simp [plainL, A.plain] at hp
 | own hrow hsz hfz ho hp' hf h1 _ _ ih => simp [plainL, A.plain] at hp
theorem plain_parts {k : Nat} : ∀ {l : List A} {xs : List Value}, RepL C w l xs (fun _ => 0) → l.all (fun a => a.cells.length == k && a.cells.all A.one && plainL a.cells) = true → Parts C.bare w l xs fun _ => 0
 | [], xs, h, _ => by cases h with | nil h => exact .nil fun _ => rfl
 | b :: l, xs, h, hl => by
  simp only [List.all_cons, Bool.and_eq_true] at hl
  obtain ⟨x, ys, rfl, r1, r2⟩ := h.cons0
  obtain ⟨q1, q2⟩ := rep_cells hl.1.1.2 r1
  exact .cons (fun _ => rfl) (plain_bare q1 hl.1.2) q2 (plain_parts r2 hl.2)
theorem plain_cells_all {k : Nat} {l : List A} (hl : l.all (fun a => a.cells.length == k && a.cells.all A.one && plainL a.cells) = true) : ∀ y ∈ l, y.cells.length = k := by
 intro y hy
 have := List.all_eq_true.1 hl y hy
 simp only [Bool.and_eq_true, beq_iff_eq] at this
 exact this.1.1
theorem plain_flat : ∀ {l : List A}, plainL l = true → plainL (flat l) = true
 | [], _ => rfl
 | a :: l, h => by
  simp only [plainL, Bool.and_eq_true] at h
  have app : ∀ (u v : List A), plainL u = true → plainL v = true → plainL (u ++ v) = true := by
   intro u v h1 h2
   induction u with
   | nil => exact h2
   | cons y u ih => simp only [plainL, Bool.and_eq_true] at h1; simp only [List.cons_append, plainL, Bool.and_eq_true]; exact ⟨h1.1, ih h1.2⟩
  have hc : plainL a.cells = true := by
   cases a <;> simp_all [A.cells, A.plain, plainL]
  exact app _ _ hc (plain_flat h.2)
theorem buildF_ok {t : TypeId} {len : Nat} {ps : Array (Nat × Operand)} (hop : o.op = .buildSlice t len ps) (hT : TabOk P T) (hI : Inv w0 E I0 C st a w f)
  (hR : RunsN T by_ ann Φ m (opBuildF T st o.dst t len (ps.toList.map fun p => (p.1, evC st.env p.2)) K) r X) : OpDone T by_ ann Φ P w0 E I0 o a w m K r X := by
 unfold opBuildF at hR
 split at hR
 case h_2 => exact hR.bad.elim
 rename_i e0 hk
 split at hR
 case isFalse => exact hR.bad.elim
 rename_i hc
 obtain ⟨hk0, hl, hl0, hps, has2, hpl⟩ := hc
 simp only [List.all_map, List.all_eq_true, Function.comp, decide_eq_true_eq] at hps
 have hev : RepL C w ((ps.toList.map fun p => (p.1, evC st.env p.2)).map (·.2)) (ps.toList.map fun p => a.eval p.2) fun _ => 0 := by
  have := evCs_rep hI (ps.toList.map (·.2))
  rw [List.map_map, List.map_map] at this
  rw [List.map_map]
  exact this
 obtain ⟨i, d, z, row⟩ := hT.get hk0
 have hz : z.cells.size = (T.row e0).size := by rw [← row.len, ← row.zeros]; simp
 obtain ⟨hone, hlen⟩ := zero_one hT hk0
 obtain ⟨q2, q3⟩ := rep_cells hone (zero_rep (C := C.bare) (w := w) hT hk0 row.agg)
 have hrow := zeros_row (z := z.cells) (n := len) (by omega)
 have hzr : RepL C.bare w (flat (List.replicate len (T.row e0).zeroA)) ((Array.range (len * z.cells.size)).map (z.cells[· % z.cells.size]!)).toList fun _ => 0 := by rw [hrow]; exact rep_replicate q2 _
 have hzo : Ones ((Array.range (len * z.cells.size)).map (z.cells[· % z.cells.size]!)).toList := by rw [hrow]; exact ones_replicate q3 _
 have hmap : ((ps.toList.map fun p => (p.1, evC st.env p.2)).map (·.1)) = ps.toList.map (·.1) := by simp [List.map_map, Function.comp]
 rw [hmap] at hR hpl
 obtain ⟨as, has⟩ : ∃ as, as = ((ps.toList.map fun p => (p.1, evC st.env p.2)).map (·.2)) := ⟨_, rfl⟩
 rw [← has] at hR hpl hev has2
 obtain ⟨cs', f', g1, g2, g3, g4, g5, g6, g7⟩ := fill_ok (len := len) hk0 (ps.toList.map (·.1)) as (ps.toList.map fun p => a.eval p.2) (List.replicate len (T.row e0).zeroA) ((Array.range (len * z.cells.size)).map (z.cells[· % z.cells.size]!)) (fun _ => 0) (fun _ => 0)
  (by simp) (by intro p hp; obtain ⟨q, hq, rfl⟩ := List.mem_map.1 hp; exact hps q hq) (plain_cells_all has2) (by intro y hy; rw [(List.mem_replicate.1 hy).2]; exact hlen) (by simp) (by simp [hz]) hzr hzo (plain_parts hev has2)
 have hzip : (ps.toList.map (·.1)).zip (ps.toList.map fun p => a.eval p.2) = ps.toList.map fun p => (p.1, a.eval p.2) := by
  induction ps.toList with
  | nil => rfl
  | cons p l ih => simp [ih]
 rw [hzip, hz] at g1
 have hrun : (execOp a.eval o).run P w = .ok (.value (.slice (some ⟨w.heap.size, 0, none⟩) len len)) (w.alloc (.cells cs' e0)) := by
  have hbig : ¬ (16777216 < len * (T.row e0).size) := by omega
  have hne : ¬ (len * (T.row e0).size = 0) := by intro h; rcases Nat.mul_eq_zero.1 h with h | h <;> omega
  rw [← hz] at g1 hne hbig
  have hrs := hT.run_size hk0 w
  rw [← hz] at hrs
  simp only [execOp, hop, Instr.buildSlice, Sem.run_bind, run_underlying (hT.slice hk), Result.andThen_ok, hrs, Sem.run_ite, if_neg hbig, if_neg hne]
  simp [zeroValue, typeInfo, row.info, row.zero, newRow, g1]
 obtain ⟨C1, hC1⟩ : ∃ C1 : Ctx, C1 = ⟨C.μ, C.B, fun b => C.I b ∨ b = w.heap.size, C.F⟩ := ⟨_, rfl⟩
 have t1 : C.To C1 := by rw [hC1]; exact ⟨fun _ h => .inl h, rfl, fun i blk h => ⟨blk, h, fun ho => ⟨ho, Nat.le_refl _, fun _ => ⟨rfl, rfl⟩, .inl rfl⟩⟩⟩
 have hold : ∀ b, b < w.heap.size → (w.alloc (.cells cs' e0)).heap[b]? = w.heap[b]? := fun b hb => heap_alloc_old w _ b hb
 have fI : ∀ b, C.I b → (w.alloc (.cells cs' e0)).heap[b]? = w.heap[b]? := fun b hb => hold b (hI.below b hb)
 have fM : ∀ b, 1 ≤ f b → (w.alloc (.cells cs' e0)).heap[b]? = w.heap[b]? := fun b hb => hold b (hI.mem.lt b hb)
 have hI1 : Inv w0 E I0 C1 st a (w.alloc (.cells cs' e0)) f := {
  defers := hI.defers
  raw := by rw [hC1]; exact hI.raw
  first := by rw [hC1]; exact hI.first
  firstX := by rw [hC1]; exact hI.firstX
  below := by
   intro b hb
   rw [hC1] at hb
   simp only [World.size_alloc]
   rcases hb with hb | rfl
   ·have := hI.below b hb; omega
   ·omega
  old := by
   intro b hb
   rw [hC1] at hb
   rcases hb with hb | rfl
   ·exact hI.old b hb
   ·exact .inr hI.same.size
  keep := by intro b hb; rw [hC1]; exact .inl (hI.keep b hb)
  ext0 := Ctx.ToX.trans hI.firstX.symm hI.ext0 t1.x
  extOn := hI.extOn
  uniq := hI.uniq
  env := (hI.env.frame fI (fun b hb => by simp at hb)).to t1
  mem := (hI.mem.frame fI fM).to t1 (by intro i _ _ _; rw [hC1])
  one := hI.one
  own := by
   intro b hb
   rw [hC1]
   obtain ⟨h2, h3⟩ := hI.own b hb
   exact ⟨fun h => h.elim h2 fun h => by have := hI.mem.lt b hb; omega, h3⟩
  same := hI.same.trans ⟨rfl, rfl, rfl, by simp, fun b hb _ => hold b hb⟩ }
 refine ⟨m, _, _, _, _, f, _, Nat.le_refl _, hR, hrun, .inl rfl, hI1.dst o.dst ?_⟩
 have hf0 := plain_cnt g3 (plain_flat hpl)
 have hb := ((g3.congr (g := fun _ => 0) fun b => (hf0 b).symm).frame (w' := w.alloc (.cells cs' e0)) (by show ∀ b, C.I b → _; exact fI) (fun b hb => by simp at hb)).to t1.bare
 have hcl : cs'.toList.length = len * (T.row e0).size := by rw [Array.length_toList, g2]
 have := RepL.sl (C := C1) (w := w.alloc (.cells cs' e0)) (s := .fr) (es := fillA (T.row e0).size (List.replicate len (T.row e0).zeroA) ((ps.toList.map (·.1)).zip as)) (a := ⟨w.heap.size, 0, none⟩) (cap := len) (k := (T.row e0).size) (c := cs') (e := e0) (fz := (0, 0)) (r := []) (xs := []) (f := fun _ => 0) (f1 := fun _ => 0)
  (heap_alloc_new w _) rfl g7 (by omega) (by rw [g6]; simp only; omega) (by rw [hC1]; exact .inr rfl) (.inr ⟨rfl, Nat.le_refl _⟩)
  (by intro u hu; exact g5 u (List.mem_of_mem_drop (List.mem_of_mem_take hu))) (fun _ => rfl)
  (by rw [g6, List.drop_zero, List.take_of_length_le (by omega)]; exact hb) z0
 rw [g6] at this
 exact this
end
end Go.AM

namespace Go.AM
open Go
theorem freeze_alloc {w : World} {c : Array Value} {e : TypeId} (n : Nat) : ((w.alloc (.cells c e)).freeze ⟨w.heap.size, n, none⟩ 1) = w.alloc (.cells c e (n, n + 1)) := by
 unfold World.freeze World.alloc
 simp only [Nat.one_ne_zero, if_false]
 congr 1
 apply Array.ext_getElem?
 intro j
 rw [Array.getElem?_modify]
 by_cases h : w.heap.size = j
 ·subst h
  simp
 ·simp only [if_neg h, Array.getElem?_push]
  by_cases h2 : j = w.heap.size
  ·exact absurd h2.symm h
  ·simp [h2]
section
variable {T : Tab} {by_ : Nat → Mode} {ann : Ann} {Φ : Known} {P : Program} {w0 : World} {E : Nat → Prop} {I0 : Ctx}
 {o : Oper} {a : Act} {w : World} {m : Nat} {K : St → Free} {r : A} {X : List Blk} {C : Ctx} {st : St} {f g : Nat → Nat}
theorem TabOk.some {P : Program} {T : Tab} (hT : TabOk P T) {t : Nat} (h : (T.row t).size ≠ 0) : ∃ d, P.underlying t = some d := by
 obtain ⟨i, d, z, r⟩ := hT.get h
 exact ⟨d, r.under⟩
theorem bytes_flat (l : List UInt8) : flat (l.map byteA) = (l.map (fun u : UInt8 => (.int .u8 u.toNat : Value))).map .v := by
 simp only [flat, byteA, List.flatMap_map, List.map_map]
 induction l with
 | nil => rfl
 | cons u l ih => simpa [A.cells] using ih
theorem bytes_all {es : List A} (h : es.all isByte = true) : ∃ ns : List Int, es = ns.map (fun n => .v (.int .u8 n)) ∧ ∀ n ∈ ns, 0 ≤ n ∧ n < 256 := by
 induction es with
 | nil => exact ⟨[], rfl, by simp⟩
 | cons b l ih =>
  simp only [List.all_cons, Bool.and_eq_true] at h
  obtain ⟨ns, rfl, hn⟩ := ih h.2
  have h1 := h.1
  unfold isByte at h1
  split at h1
  ·rename_i n
   simp at h1
   refine ⟨n :: ns, rfl, ?_⟩
   intro m hm
   rcases List.mem_cons.1 hm with rfl | hm
   ·exact h1
   ·exact hn m hm
  ·simp at h1
theorem inv_vs : ∀ {ns : List Value} {xs f}, RepL C w (ns.map .v) xs f → xs = ns
 | [], xs, f, h => by cases h; rfl
 | n :: ns, xs, f, h => by
  simp only [List.map_cons] at h
  cases h with
  | v h => rw [inv_vs h]
theorem push_all (ns : List Int) (s : ByteArray) : ns.foldl (fun r n => r.push (UInt8.ofNat n.toNat)) s = ⟨s.data ++ (ns.map fun n => UInt8.ofNat n.toNat).toArray⟩ := by
 induction ns generalizing s with
 | nil => simp
 | cons n ns ih =>
  rw [List.foldl_cons, ih]
  simp [ByteArray.push]
theorem elems_read {x : Operand} {es : List A} (hI : Inv w0 E I0 C st a w f) (he : st.elems (ev st.env x) = some es) (hb : es.all isByte = true) :
  ∃ sa cap, a.eval x = .slice sa es.length cap ∧ ∃ ns : List Int, es = ns.map (fun n => .v (.int .u8 n)) ∧ (0 < es.length → ∃ ad, sa = some ad ∧ (loadCells ad es.length).run P w = .ok (ns.map (Value.int .u8)).toArray w) := by
 obtain ⟨ns, hns, hr⟩ := bytes_all hb
 have hx := ev_rep hI.env x
 have hfl : flat es = (ns.map (Value.int .u8)).map .v := by
  rw [hns]
  simp only [flat, List.flatMap_map, List.map_map]
  clear hns hr
  induction ns with
  | nil => rfl
  | cons u l ih => simpa [A.cells] using ih
 have hcl : ∀ y ∈ es, y.cells.length = 1 := by
  intro y hy
  rw [hns] at hy
  obtain ⟨n, _, rfl⟩ := List.mem_map.1 hy
  rfl
 have h1 : es.length * 1 = es.length := Nat.mul_one _
 unfold St.elems at he
 split at he
 ·rename_i s es' ex
  simp at he
  subst he
  rw [ex] at hx
  rcases inv_sl0 hx with ⟨he, sa, hv⟩ | ⟨ad, cap, k', c, e', fz, hv, q2, q3, q4, q5, q6, q7, q8, q9, q10⟩
  ·exact ⟨sa, 0, by rw [hv, he]; rfl, ns, hns, fun h => by rw [he] at h; simp at h⟩
  ·refine ⟨_, _, hv, ns, hns, fun hpos => ⟨ad, rfl, ?_⟩⟩
   have hk : k' = 1 := by
    obtain ⟨y, hy⟩ := List.exists_mem_of_length_pos hpos
    rw [← q4 y hy, hcl y hy]
   subst hk
   rw [hfl] at q10
   have := inv_vs q10
   rw [h1] at this q6
   rw [addr_eq q3, run_load_at q2 q6, this]
 ·rename_i ex
  simp at he
  subst he
  rw [ex] at hx
  exact ⟨none, 0, inv_v hx, ns, hns, fun h => by simp at h⟩
 ·rename_i b off len tot ex
  rw [ex] at hx
  split at he
  case h_2 => simp at he
  rename_i blk hbk
  split at he
  case isFalse => simp at he
  rename_i hc
  simp at he
  have hl : st.live b tot = true := by simp [St.live, hbk, hc.2]
  obtain ⟨blk', hB, hon, ht, sa, cp, g1, g2, g3, g4, g5⟩ := hI.msOk hl hx
  have hB' := (hI.get hbk).2.1
  rw [hB] at hB'; cases hB'
  have hlen : es.length = len := by rw [← he]; simp; omega
  refine ⟨sa, cp, by rw [hlen]; exact g1, ns, hns, fun hpos => ?_⟩
  have g5 := g5 (by omega)
  refine ⟨_, g5, ?_⟩
  rcases hI.blk hbk with ⟨he0, _⟩ | ⟨fb, ⟨c, e, fz, k1, k2, k3, k4, k5, kbx, k6, k7⟩, hfb⟩
  ·rw [he0] at ht; simp at ht; omega
  ·have hk : blk.k = 1 := by
    obtain ⟨y, hy⟩ := List.exists_mem_of_length_pos hpos
    have hy' : y ∈ blk.es := by rw [← he] at hy; exact List.mem_of_mem_drop (List.mem_of_mem_take hy)
    rw [← k3 y hy', hcl y hy]
   have hlk : (off + len) * blk.k ≤ blk.es.length * blk.k := Nat.mul_le_mul_right _ (by omega)
   have hck : blk.es.length * blk.k ≤ (C.μ b).cap * blk.k := Nat.mul_le_mul_right _ k4
   have hsub := flat_sub k3 off len
   have hfll := flat_length k3
   rw [hk] at hlk hck k5 k6 k7 hsub hfll g5
   simp only [Nat.mul_one] at hlk hck k5 k6 k7 hsub hfll g5
   obtain ⟨fx, hfx, hr'⟩ := k7.extract off len (by rw [hfll]; omega)
   rw [← hsub, he, hfl] at hr'
   have e3 : (((c.toList.drop (C.μ b).base).take blk.es.length).drop off).take len = (c.toList.drop ((C.μ b).base + off)).take len := by
    rw [List.drop_take, List.drop_drop, List.take_take, Nat.min_eq_left (by omega)]
   rw [e3] at hr'
   have := inv_vs hr'
   have hok : off * blk.k = off := by rw [hk, Nat.mul_one]
   rw [hlen, run_load_at k1 (by simp only [hok]; omega), hok, this]
 ·simp at he
theorem convert_ok {src dst : TypeId} {x : Operand} (hop : o.op = .convert src dst x) (hT : TabOk P T) (hI : Inv w0 E I0 C st a w f)
  (hR : RunsN T by_ ann Φ m (opConvert T st o.dst src dst (ev st.env x) K) r X) : OpDone T by_ ann Φ P w0 E I0 o a w m K r X := by
 have hx := ev_rep hI.env x
 unfold opConvert at hR
 split at hR
 ·exact hR.bad.elim
 rename_i hsrc
 obtain ⟨ds, hds⟩ := hT.some hsrc
 split at hR
 ·rename_i k k' n hk ex
  rw [ex] at hx
  refine OpDone.value hI (Nat.le_refl _) hR ?_ (.v z0)
  simp [execOp, hop, convert, run_underlying hds, run_underlying (hT.int hk), inv_v hx, Conv.intToInt]
 ·rename_i s hk ex
  rw [ex] at hx
  refine OpDone.value hI (Nat.le_refl _) hR ?_ (.v z0)
  simp [execOp, hop, convert, run_underlying hds, run_underlying (hT.string hk), inv_v hx]
 ·rename_i e s hk ex
  rw [ex] at hx
  have hv := inv_v hx
  split at hR
  case h_2 => exact hR.bad.elim
  rename_i hke hfr
  obtain ⟨m', rfl, hp, hR⟩ := hR.chk
  have hp := of_decide_eq_true hp
  have hge : s.size ≤ grownCap w s.size 0 e := grownCap_ge w s.size 0 e
  obtain ⟨n, hn⟩ : ∃ n, grownCap w s.size 0 e = n := ⟨_, rfl⟩
  rw [hn] at hge
  obtain ⟨c, hc⟩ : ∃ c : Array Value, c = (s.data.map fun b : UInt8 => (.int .u8 b.toNat : Value)) ++ Array.replicate (n - s.size) (.int .u8 0) := ⟨_, rfl⟩
  have hsz : c.size = n := by
   rw [hc]
   simp only [Array.size_append, Array.size_map, Array.size_replicate]
   show s.size + _ = _
   omega
  have hrun : (execOp a.eval o).run P w = .ok (.value (.slice (some ⟨w.heap.size, 0, none⟩) s.size n)) (w.drew.alloc (.cells c e (n, n + 1))) := by
   have hfz := freeze_alloc (w := w.drew) (c := c) (e := e) n
   have := Lib.run_convert_string_bytes w src dst e s hds (hT.slice hk) (hT.int hke)
   simp only [Lib.bytesWorld, Lib.bytesCells, hn, ← hc, hsz] at this
   simp only [execOp, hop, hv, Sem.run_bind, this, Result.andThen_ok, Sem.run_pure]
   rw [← hfz]
   rfl
  have hfl := bytes_flat s.data.toList
  have hct : c.toList.take (s.data.toList.map byteA).length = s.data.toList.map (fun u : UInt8 => (.int .u8 u.toNat : Value)) := by
   rw [hc]
   simp
  have hlen : (s.data.toList.map byteA).length = s.size := by simp
  obtain ⟨f', hI', t'⟩ := hI.drew.toG.alloc (k := keyOf o.dst) (n := 1) (cap := n) (box := false) (es := s.data.toList.map byteA) (c := c) (e := e) (fz := (n, n + 1)) (gx := fun _ => 0) (g1 := fun _ => 0)
   hfr (fun _ => rfl) (by intro y hy; obtain ⟨u, _, rfl⟩ := List.mem_map.1 hy; rfl) (by rw [hlen]; exact hge) (by omega) (by intro q hq h; omega) (by have := grownCap_le_maxLen w s.size 0 e (by unfold maxLen; omega); unfold maxLen at this; unfold capM; omega)
   (by
    rw [Nat.mul_one, hct]
    intro v hv
    obtain ⟨u, _, rfl⟩ := List.mem_map.1 hv
    rfl) (fun h => by cases h)
   (by rw [Nat.mul_one, hct, hfl]; exact vs_rep _)
  have i3 := hI'.inv fun _ => rfl
  refine ⟨m', _, _, _, _, _, _, Nat.le_succ _, hR, hrun, .inl rfl, i3.dst o.dst ?_⟩
  refine .ms (blk := ⟨true, 1, false, s.data.toList.map byteA⟩) (by simp [Ctx.up]) rfl (fun _ => ⟨by simp only [hlen]; exact Nat.le_refl _, fun _ => ?_⟩) z0
  exact ⟨_, _, rfl, hge, by simp [Ctx.up], by simp, fun _ => by simp [Ctx.up]⟩
 ·rename_i hk hns
  split at hR
  case h_2 => exact hR.bad.elim
  rename_i e es hks hes
  split at hR
  case h_2 => exact hR.bad.elim
  rename_i hke
  split at hR
  case isFalse => exact hR.bad.elim
  rename_i hb
  obtain ⟨sa, cap, hv, ns, hns', hld⟩ := elems_read (P := P) hI hes hb
  refine OpDone.value hI (Nat.le_refl _) hR (v := .string ⟨(es.map byteOf).toArray⟩) ?_ (.v z0)
  have hby : es.map byteOf = ns.map fun n => UInt8.ofNat n.toNat := by
   rw [hns', List.map_map]
   rfl
  have h1 := run_convert_bytes_string w src dst e sa es.length cap (hT.slice hks) (hT.int hke) (hT.string hk)
  simp only [execOp, hop, hv, Sem.run_bind, h1]
  have h2 : (Conv.bytesToString (.slice sa es.length cap)).run P w = .ok (.string ⟨(es.map byteOf).toArray⟩) w := by
   cases sa with
   | none =>
    have h0 : es.length = 0 := by
     rcases Nat.eq_zero_or_pos es.length with h | h
     ·exact h
     ·obtain ⟨ad, had, _⟩ := hld h
      cases had
    rw [List.length_eq_zero_iff.1 h0]
    rfl
   | some ad =>
    have hl : (loadCells ad es.length).run P w = .ok (ns.map (Value.int .u8)).toArray w := by
     rcases Nat.eq_zero_or_pos es.length with h | h
     ·have : ns = [] := by
       have := congrArg List.length hns'
       simp only [List.length_map, h] at this
       exact List.length_eq_zero_iff.1 this.symm
      rw [h, this]
      rfl
     ·obtain ⟨ad', had, hl⟩ := hld h
      cases had
      exact hl
    rw [run_bytesToString w ad es.length cap ns hl, push_all, hby]
    simp
  rw [h2]
  rfl
 ·exact hR.bad.elim
theorem buildFill_ok {place : Nat → Option (Nat × Nat)} {fs : List (Nat × Nat × Nat)} (hI : Inv w0 E I0 C st a w f) (hpl : ∀ i off size ft, fs[i]? = some (off, size, ft) → place i = some (off, size)) :
  ∀ (ps : List (Nat × Operand)) (cs cs' : List A) (xs : Array Value), buildCells fs cs (ps.map fun p => (p.1, ev st.env p.2)) = some cs' → (RepL C w cs xs.toList fun _ => 0) →
   ∃ xs' : Array Value, Instr.fill place xs (ps.map fun p => (p.1, a.eval p.2)) = some xs' ∧ RepL C w cs' xs'.toList fun _ => 0
 | [], cs, cs', xs, h, hr => by
  simp [buildCells] at h
  subst h
  exact ⟨xs, rfl, hr⟩
 | (i, x) :: ps, cs, cs', xs, h, hr => by
  simp only [List.map_cons, buildCells] at h
  split at h
  case h_2 => simp at h
  rename_i off size ft hfs
  split at h
  case isFalse => simp at h
  rename_i hc
  obtain ⟨h1, h2, h3⟩ := hc
  obtain ⟨r1, r2⟩ := rep_cells h3 (ev_rep hI.env x)
  have hxs : (a.eval x).cells.size = size := by have := r1.length; simp at this; omega
  have hl := hr.length
  simp only [Array.length_toList] at hl
  obtain ⟨f', hf', r3⟩ := hr.swap r1 h1 h2
  have hz : ∀ b, f' b = 0 := fun b => by have := hf' b; omega
  have r3 := r3.congr (g := fun _ => 0) fun b => (hz b).symm
  have hfl := foldl_set off (a.eval x).cells.toList 0 xs (by simp [hxs]; omega)
  simp only [Nat.add_zero, Array.length_toList, hxs] at hfl
  rw [← hfl, ← h1, ← setCells_eq _ _ _ (by omega)] at r3
  obtain ⟨xs', e1, e2⟩ := buildFill_ok hI hpl ps _ cs' _ h r3
  refine ⟨xs', ?_, e2⟩
  have hcond : ¬ ((decide ((a.eval x).cells.size ≠ size) || decide (off + (a.eval x).cells.size > xs.size)) = true) := by rw [hxs]; simp; omega
  simp only [List.map_cons, Instr.fill, hpl _ _ _ _ hfs]
  rw [if_neg hcond]
  have hfe : (a.eval x).cells.zipIdx.foldl (fun cs (c, j) => cs.setIfInBounds (off + j) c) xs = ((a.eval x).cells.toList.zipIdx 0).foldl (setAt off) xs := by
   rw [← Array.foldl_toList, Array.toList_zipIdx]
   rfl
  have hfe' : Array.foldl (fun cs x => cs.setIfInBounds (off + x.snd) x.fst) xs (a.eval x).cells.zipIdx = ((a.eval x).cells.toList.zipIdx 0).foldl (setAt off) xs := hfe
  rw [hfe']
  exact e1
theorem build_ok {t : TypeId} {ps : Array (Nat × Operand)} (hop : o.op = .build t ps) (hT : TabOk P T) (hI : Inv w0 E I0 C st a w f)
  (hR : RunsN T by_ ann Φ m (opBuild T st o.dst t (ps.toList.map fun p => (p.1, ev st.env p.2)) K) r X) : OpDone T by_ ann Φ P w0 E I0 o a w m K r X := by
 have hparts : (ps.map fun x => (x.1, a.eval x.2)).toList = ps.toList.map fun p => (p.1, a.eval p.2) := by simp
 have done : ∀ {cs : List A} {xs : Array Value}, P.built t (ps.toList.map fun p => (p.1, a.eval p.2)) = some xs → (RepL C w cs xs.toList fun _ => 0) → RunsN T by_ ann Φ m (K (st.dst o.dst (.agg cs))) r X →
   OpDone T by_ ann Φ P w0 E I0 o a w m K r X := by
  intro cs xs h1 h2 h3
  refine OpDone.value hI (Nat.le_refl _) h3 (v := .agg xs) ?_ (.agg (ys := xs.toList) (fun b => rfl) h2 z0)
  have := run_build w t (ps.map fun x => (x.1, a.eval x.2)) xs (by rw [hparts]; exact h1)
  simp only [execOp, hop, Sem.run_bind, this, Result.andThen_ok, Sem.run_pure]
 unfold opBuild at hR
 simp only at hR
 split at hR
 ·rename_i fs hk
  split at hR
  case h_2 => exact hR.bad.elim
  rename_i cs hcs
  obtain ⟨i, d, z, row⟩ := hT.ofKind (t := t) (by rw [hk]; simp)
  obtain ⟨gs, hu, hfs, hne⟩ := hT.struct hk
  have hpl : gs.toList.mapM (fun f => (P.info? f.type).map fun i => (f.offset, i.size)) = some (fs.map fun f => (f.1, f.2.1)) := by
   rw [hfs, List.map_map]
   refine mapM_some_of_forall _ fun g hg => ?_
   have hn := hne (g.offset, P.cellsOf g.type, g.type) (by rw [hfs]; exact List.mem_map.2 ⟨g, hg, rfl⟩)
   unfold Program.cellsOf at hn ⊢
   cases hi : P.info? g.type with
   | none => simp [hi] at hn
   | some i => simp [hi, Function.comp]
  have hz : RepL C w ((T.row t).zero.map .v) z.cells.toList fun _ => 0 := by rw [row.zeros]; exact vs_rep _
  obtain ⟨xs, e1, e2⟩ := buildFill_ok (place := fun i => ((fs.map fun f => (f.1, f.2.1)).toArray)[i]?) hI (by intro i off size ft h; simp [h]) ps.toList _ cs z.cells hcs hz
  refine done ?_ e2 hR
  simp only [Program.built, row.info, hu, row.zero, hpl]
  exact e1
 ·rename_i n e hk
  split at hR
  case h_2 => exact hR.bad.elim
  rename_i cs hcs
  split at hcs
  case isFalse => simp at hcs
  rename_i he0
  obtain ⟨i, d, z, row⟩ := hT.ofKind (t := t) (by rw [hk]; simp)
  obtain ⟨i', d', z', row'⟩ := hT.get he0
  have hz : RepL C w ((T.row t).zero.map .v) z.cells.toList fun _ => 0 := by rw [row.zeros]; exact vs_rep _
  obtain ⟨xs, e1, e2⟩ := buildFill_ok (place := fun i => some (i * i'.size, i'.size)) hI (by
   intro j off size ft h
   simp only [List.getElem?_map, Option.map_eq_some_iff] at h
   obtain ⟨q, hq, h⟩ := h
   simp only [Prod.mk.injEq] at h
   have hj : q = j := by
    rw [List.getElem?_range] at hq
    ·simpa using hq.symm
    ·have := (List.getElem?_eq_some_iff.1 hq).1; simpa using this
   rw [← hj, ← h.1, ← h.2.1, row'.size]) ps.toList _ cs z.cells hcs hz
  refine done ?_ e2 hR
  simp only [Program.built, row.info, hT.array hk, row.zero, row'.info]
  exact e1
 ·exact hR.bad.elim
end
end Go.AM

namespace Go.AM
open Go
theorem dn_cells (a : A) : a.dn.cells = dnL a.cells := by
 cases a <;> simp [A.dn, A.cells, dnL]
theorem dnL_append (l m : List A) : dnL (l ++ m) = dnL l ++ dnL m := by
 induction l with
 | nil => rfl
 | cons a l ih => simp [dnL, ih]
theorem dnL_eq (l : List A) : dnL l = l.map A.dn := by
 induction l with
 | nil => rfl
 | cons a l ih => simp [dnL, ih]
theorem flat_dn (es : List A) : flat (dnL es) = dnL (flat es) := by
 induction es with
 | nil => rfl
 | cons a l ih =>
  simp only [flat, dnL, List.flatMap_cons] at *
  rw [ih, dn_cells, dnL_append]
theorem dn_k {es : List A} {k : Nat} (hk : ∀ x ∈ es, x.cells.length = k) : ∀ x ∈ dnL es, x.cells.length = k := by
 intro x hx
 rw [dnL_eq] at hx
 obtain ⟨y, hy, rfl⟩ := List.mem_map.1 hx
 rw [dn_cells, dnL_eq, List.length_map, hk y hy]
theorem dn_length (es : List A) : (dnL es).length = es.length := by rw [dnL_eq, List.length_map]
section
variable {C D : Ctx} {w : World}
theorem RepL.dn {l xs f} (h : RepL C w l xs f) (hI : ∀ b, C.I b ∨ 1 ≤ f b → D.I b) : RepL D w (dnL l) xs fun _ => 0 := by
 induction h generalizing D with
 | nil h => exact z0
 | any _ ih => exact .any (ih hI)
 | v _ ih => exact .v (ih hI)
 | ifc _ ih => exact .ifc (ih hI)
 | agg hf _ _ ih1 ih => exact .agg (fun _ => rfl) (ih1 fun b hb => hI b (hb.imp id fun h => by rw [hf]; omega)) (ih fun b hb => hI b (hb.imp id fun h => by rw [hf]; omega))
 | tup hf _ _ ih1 ih => exact .any (ih fun b hb => hI b (hb.imp id fun h => by rw [hf]; omega))
 | nils _ ih => exact .nils (ih hI)
 | sl hrow hsp hk hcap hsz hI' hs ho hf h1 _ ih1 ih =>
  rw [← dn_length] at hcap hsz ho
  have := ih1 (D := D.bare) (fun b hb => hI b (.inl (hb.resolve_right (by rw [hf]; omega))))
  rw [← flat_dn] at this
  simp only [dnL, A.dn]
  rw [← dn_length]
  rw [← dn_length] at this
  exact .sl hrow hsp (dn_k hk) hcap hsz (hI _ (.inl hI')) (.inl rfl) ho (fun _ => rfl) this (ih hI)
 | @ow _ _ k es a cap c e fz r xs f f1 f2 hrow hsp hk hcap hsz hF hfz ho hf h1 _ ih1 ih =>
  have hle : es.length * k ≤ cap * k := Nat.mul_le_mul_right _ hcap
  have hsz' : a.off + es.length * k ≤ c.size := by omega
  rw [← dn_length] at hcap hsz' ho
  have := ih1 (D := D.bare) (fun b hb => hI b (hb.imp id fun h => by rw [hf]; omega))
  rw [← flat_dn] at this
  simp only [dnL, A.dn]
  rw [← dn_length]
  rw [← dn_length] at this
  exact .sl hrow hsp (dn_k hk) hcap hsz' (hI _ (.inr (by rw [hf]; simp; omega))) (.inl rfl) ho (fun _ => rfl) this (ih fun b hb => hI b (hb.imp id fun h => by rw [hf]; omega))
 | ms hb h1 hm _ ih => exact .any (ih hI)
 | ref hb h1 hm _ ih => exact .any (ih hI)
 | ptr hrow hsp hk hsz hI' hi ho hf h1 _ ih1 ih =>
  rw [← dn_length] at hsz hi ho
  have := ih1 (D := D.bare) (fun b hb => hI b (.inl (hb.resolve_right (by rw [hf]; omega))))
  rw [← flat_dn] at this
  simp only [dnL, A.dn]
  rw [← dn_length] at this
  exact .ptr hrow hsp (dn_k hk) hsz (hI _ (.inl hI')) hi ho (fun _ => rfl) this (ih hI)
 | fn _ _ _ _ _ _ _ ih => exact .any (ih hI)
 | own hrow hsz hfz ho hp hf h1 _ _ ih => exact .any (ih fun b hb => hI b (hb.imp id fun h => by rw [hf]; omega))
theorem RepL.re {l xs f} (h : RepL C w l xs f) (hB : ∀ i, C.B i = none) (hI : ∀ b, C.I b → D.I b) (hF : D.F ≤ C.F) : RepL D w l xs f := by
 induction h generalizing D with
 | nil h => exact .nil h
 | any _ ih => exact .any (ih hB hI hF)
 | v _ ih => exact .v (ih hB hI hF)
 | ifc _ ih => exact .ifc (ih hB hI hF)
 | agg hf _ _ ih1 ih => exact .agg hf (ih1 hB hI hF) (ih hB hI hF)
 | tup hf _ _ ih1 ih => exact .tup hf (ih1 hB hI hF) (ih hB hI hF)
 | nils _ ih => exact .nils (ih hB hI hF)
 | sl hrow hsp hk hcap hsz hI' hs ho hf h1 _ ih1 ih => exact .sl hrow hsp hk hcap hsz (hI _ hI') hs ho hf (ih1 (D := D.bare) (fun _ => rfl) hI hF) (ih hB hI hF)
 | ow hrow hsp hk hcap hsz hF' hfz ho hf h1 _ ih1 ih => exact .ow hrow hsp hk hcap hsz hF' hfz ho hf (ih1 (D := D.bare) (fun _ => rfl) hI hF) (ih hB hI hF)
 | ms hb h1 hm _ ih => rw [hB] at hb; cases hb
 | ref hb h1 hm _ ih => rw [hB] at hb; cases hb
 | ptr hrow hsp hk hsz hI' hi ho hf h1 _ ih1 ih => exact .ptr hrow hsp hk hsz (hI _ hI') hi ho hf (ih1 (D := D.bare) (fun _ => rfl) hI hF) (ih hB hI hF)
 | fn hf1 hf2 _ _ _ ih1 ih2 ih => exact .fn hf1 hf2 (ih1 hB hI hF) (ih2 hB hI hF) (ih hB hI hF)
 | own hrow hsz hfz ho hp hf h1 _ ih1 ih => exact .own hrow hsz hfz ho hp hf (ih1 (D := D.bare) (fun _ => rfl) hI hF) (ih hB hI hF)
theorem RepL.reI {l xs f} (h : RepL C w l xs f) (hp : plainL l = true) (hI : ∀ b, C.I b → D.I b) : RepL D w l xs f := by
 induction h generalizing D with
 | nil h => exact .nil h
 | any _ ih => simp [plainL, A.plain] at hp
 | v _ ih => exact .v (ih (by simpa [plainL, A.plain] using hp) hI)
 | ifc _ ih => exact .ifc (ih (by simpa [plainL, A.plain] using hp) hI)
 | agg hf _ _ ih1 ih =>
  simp only [plainL, A.plain, Bool.and_eq_true] at hp
  exact .agg hf (ih1 hp.1 hI) (ih hp.2 hI)
 | tup hf _ _ ih1 ih => simp [plainL, A.plain] at hp
 | nils _ ih =>
  simp only [plainL, Bool.and_eq_true] at hp
  exact .nils (ih hp.2 hI)
 | @sl _ _ s es a cap k c e fz r xs f f1 hrow hsp hk hcap hsz hI' hs ho hf h1 _ ih1 ih =>
  simp only [plainL, A.plain, Bool.and_eq_true] at hp
  exact .sl hrow hsp hk hcap hsz (hI _ hI') hs ho hf (ih1 (D := D.bare) (plain_flat hp.1.2) hI) (ih hp.2 hI)
 | ow hrow hsp hk hcap hsz hF hfz ho hf h1 _ _ ih => simp [plainL, A.plain, Sh.own] at hp
 | ms hb h1 hm _ ih => simp [plainL, A.plain] at hp
 | ref hb h1 hm _ ih => simp [plainL, A.plain] at hp
 | ptr hrow hsp hk hsz hI hi ho hf h1 _ _ ih => simp [plainL, A.plain] at hp
 | fn hf1 hf2 _ _ _ ih1 ih2 ih => simp [plainL, A.plain] at hp
 | own hrow hsz hfz ho hp' hf h1 _ _ ih => simp [plainL, A.plain] at hp
theorem freeL_append {l m : List A} : freeL (l ++ m) = (freeL l && freeL m) := by
 induction l with
 | nil => rfl
 | cons a l ih => simp [freeL, ih, Bool.and_assoc]
theorem free_cells {a : A} (h : a.free = true) : freeL a.cells = true := by
 cases a with
 | agg cs => simpa [A.free, A.cells] using h
 | _ => simp only [A.cells, freeL, h, Bool.and_true]
theorem free_flat {es : List A} (h : freeL es = true) : freeL (flat es) = true := by
 induction es with
 | nil => rfl
 | cons a l ih =>
  simp only [freeL, Bool.and_eq_true] at h
  simp only [flat, List.flatMap_cons] at *
  rw [freeL_append, ih h.2, free_cells h.1]
  rfl
theorem RepL.reF {l xs f} (h : RepL C w l xs f) (hl : freeL l = true) (hI : ∀ b, C.I b → C.F ≤ b → D.I b) (hF : D.F ≤ C.F) : RepL D w l xs f := by
 induction h generalizing D with
 | nil h => exact .nil h
 | any _ ih => simp [freeL, A.free] at hl
 | v _ ih => exact .v (ih (by simpa [freeL, A.free] using hl) hI hF)
 | ifc _ ih => exact .ifc (ih (by simpa [freeL, A.free] using hl) hI hF)
 | agg hf _ _ ih1 ih =>
  simp only [freeL, A.free, Bool.and_eq_true] at hl
  exact .agg hf (ih1 hl.1 hI hF) (ih hl.2 hI hF)
 | tup hf _ _ ih1 ih =>
  simp only [freeL, A.free, Bool.and_eq_true] at hl
  exact .tup hf (ih1 hl.1 hI hF) (ih hl.2 hI hF)
 | nils _ ih =>
  simp only [freeL, Bool.and_eq_true] at hl
  exact .nils (ih hl.2 hI hF)
 | sl hrow hsp hk hcap hsz hI' hs ho hf h1 _ ih1 ih =>
  rcases hs with rfl | ⟨rfl, _⟩ <;> simp [freeL, A.free] at hl
 | ow hrow hsp hk hcap hsz hF' hfz ho hf h1 _ ih1 ih =>
  simp only [freeL, A.free, Bool.and_eq_true, bne_iff_ne, ne_eq] at hl
  exact .ow hrow hsp hk hcap hsz hF' hfz ho hf (ih1 (D := D.bare) (free_flat hl.1) hI hF) (ih hl.2 hI hF)
 | ms hb h1 hm _ ih => simp [freeL, A.free] at hl
 | ref hb h1 hm _ ih => simp [freeL, A.free] at hl
 | ptr hrow hsp hk hsz hI' hi ho hf h1 _ ih1 ih => simp [freeL, A.free] at hl
 | fn hf1 hf2 _ _ _ ih1 ih2 ih => simp [freeL, A.free] at hl
 | own hrow hsz hfz ho hp hf h1 _ ih1 ih => simp [freeL, A.free] at hl
end
def isMs : A → Bool
 | .ms .. => true
 | .ref .. => true
 | _ => false
section
variable {w0 : World} {E : Nat → Prop} {I0 : Ctx} {C D : Ctx} {st : St} {a : Act} {w : World} {f : Nat → Nat}
theorem argC_ok {b b' : A} {x : Value} (h : argC st b = some b') (hI : Inv w0 E I0 C st a w f) (hx : Rep1 C w b x fun _ => 0) (hD : ∀ n, C.I n → D.I n) (hm : isMs b = true → ∀ n, 1 ≤ f n → D.I n) :
  Rep1 D w b' x fun _ => 0 := by
 have dn1 : Rep1 D w b.dn x fun _ => 0 := RepL.dn hx fun n hn => hD n (hn.resolve_right (by omega))
 unfold argC at h
 split at h
 ·simp at h; subst h; exact dn1
 ·simp at h; subst h; exact dn1
 ·simp at h; subst h; exact dn1
 ·rename_i i off len tot
  split at h
  case h_2 => simp at h
  rename_i blk hb
  split at h
  case isFalse => simp at h
  rename_i hc
  obtain ⟨hbx, htot, hle⟩ := hc
  simp at h
  subst h
  have hl : st.live i tot = true := by simp [St.live, hb, htot]
  obtain ⟨blk', hB, hon, ht, sa, cp, rfl, g2, g3, g4, g5⟩ := hI.msOk hl hx
  have hB' := (hI.get hb).2.1
  rw [hB] at hB'; cases hB'
  have hlen : ((blk.es.drop off).take len).length = len := by simp; omega
  by_cases h0 : 0 < cp
  ·have g5 := g5 h0
   subst g5
   rcases hI.blk hb with ⟨he0, hcap⟩ | ⟨fb, ⟨c, e, fz, k1, k2, k3, k4, k5, kbx, k6, k7⟩, hfb⟩
   ·rw [hcap] at g3; omega
   ·have hown : ∀ n, 1 ≤ f n → D.I n := hm rfl
    have hlk : (off + len) * blk.k ≤ blk.es.length * blk.k := Nat.mul_le_mul_right _ (by omega)
    have hck : blk.es.length * blk.k ≤ (C.μ i).cap * blk.k := Nat.mul_le_mul_right _ k4
    rw [Nat.add_mul] at hlk
    obtain ⟨fx, hfx, hr'⟩ := k7.extract (off * blk.k) (len * blk.k) (by rw [flat_length k3]; exact hlk)
    rw [← flat_sub k3 off len] at hr'
    have e3 : (((c.toList.drop (C.μ i).base).take (blk.es.length * blk.k)).drop (off * blk.k)).take (len * blk.k) = (c.toList.drop ((C.μ i).base + off * blk.k)).take (len * blk.k) := by
     rw [List.drop_take, List.drop_drop, List.take_take, Nat.min_eq_left (by omega)]
    rw [e3] at hr'
    have hr2 : RepL D.bare w (dnL (flat ((blk.es.drop off).take len))) _ fun _ => 0 := hr'.dn (D := D.bare) fun n hn => hn.elim (fun h => hD n (by rw [Ctx.for_I] at h; exact h)) fun h1 => hown n (by have := hfx n; have := hfb n; omega)
    rw [← flat_dn] at hr2
    have hones : Ones ((c.toList.drop ((C.μ i).base + off * blk.k)).take (len * blk.k)) := by
     rw [← e3]
     intro v hv
     exact k6 v (List.mem_of_mem_drop (List.mem_of_mem_take hv))
    have hk' : ∀ x ∈ (blk.es.drop off).take len, x.cells.length = blk.k := fun x hx => k3 x (List.mem_of_mem_drop (List.mem_of_mem_take hx))
    have hlen' := dn_length ((blk.es.drop off).take len)
    rw [hlen] at hlen'
    have : RepL D w [.sl .sh (dnL ((blk.es.drop off).take len))] [.slice (some ⟨(C.μ i).blk, (C.μ i).base + off * blk.k, none⟩) (dnL ((blk.es.drop off).take len)).length cp] fun _ => 0 :=
     .sl (a := ⟨(C.μ i).blk, (C.μ i).base + off * blk.k, none⟩) (k := blk.k) k1 rfl (dn_k hk') (by rw [hlen']; exact g2) (by rw [hlen']; show (C.μ i).base + off * blk.k + len * blk.k ≤ _; omega)
      (hown (C.μ i).blk (by have := hfb (C.μ i).blk; simp at this; omega)) (.inl rfl) (by rw [hlen']; exact hones) (fun _ => rfl) (by rw [hlen']; exact hr2) z0
    rw [hlen'] at this
    exact this
  ·have h1 : cp = 0 := by omega
   have h2 : len = 0 := by omega
   subst h1 h2
   simp only [List.take_zero, dnL]
   exact .nils z0
 ·simp at h; subst h; exact dn1
 ·simp at h
theorem argC_cells {b b' : A} (h : argC st b = some b') : b'.cells = [b'] := by
 unfold argC at h
 split at h
 ·simp at h; subst h; rfl
 ·simp at h; subst h; rfl
 ·simp at h; subst h; rfl
 ·split at h
  ·split at h
   ·simp at h; subst h; rfl
   ·simp at h
  ·simp at h
 ·simp at h; subst h; rfl
 ·simp at h
theorem argL_ok : ∀ {l l' : List A} {xs : List Value} (_ : argL st l = some l') (_ : Inv w0 E I0 C st a w f) (_ : RepL C w l xs fun _ => 0) (_ : ∀ n, C.I n → D.I n)
  (_ : (l.any isMs) = true → ∀ n, 1 ≤ f n → D.I n), RepL D w l' xs fun _ => 0
 | [], l', xs, h, hI, hx, hD, hm => by
  simp [argL] at h
  subst h
  cases hx
  exact z0
 | b :: l, l', xs, h, hI, hx, hD, hm => by
  simp only [argL] at h
  split at h
  case h_2 => simp at h
  rename_i b1 h1
  split at h
  case h_2 => simp at h
  rename_i l1 h2
  simp at h
  subst h
  obtain ⟨x, ys, rfl, r1, r2⟩ := hx.cons0
  exact (argC_ok h1 hI r1 hD fun e => hm (by simp [e])).cons0 (argL_ok h2 hI r2 hD fun e => hm (by simp only [List.any_cons, Bool.or_eq_true]; exact .inr e))
theorem argL_length : ∀ {l l' : List A}, argL st l = some l' → l'.length = l.length
 | [], l', h => by simp [argL] at h; subst h; rfl
 | b :: l, l', h => by
  simp only [argL] at h
  split at h
  case h_2 => simp at h
  split at h
  case h_2 => simp at h
  rename_i l1 h2
  simp at h
  subst h
  simp [argL_length h2]
theorem capC_ok {b b' : A} {x : Value} (h : capC st b = some b') (hI : Inv w0 E I0 C st a w f) (hx : Rep1 C w b x fun _ => 0) (hD : ∀ n, C.I n → D.I n) (hm : isMs b = true → ∀ n, 1 ≤ f n → D.I n) :
  Rep1 D w b' x fun _ => 0 := by
 unfold capC at h
 split at h
 case h_2 => exact argC_ok h hI hx hD hm
 rename_i i
 have hown : ∀ n, 1 ≤ f n → D.I n := hm rfl
 split at h
 case h_2 => simp at h
 rename_i blk hb
 split at h
 case h_2 => simp at h
 rename_i e hes
 split at h
 case isFalse => simp at h
 rename_i hbx
 have hl : st.live i 1 = true := by simp [St.live, hb, hes]
 obtain ⟨blk', hB, hon, ht, rfl, hlt⟩ := hI.refOk hl hx
 have hB' := (hI.get hb).2.1
 rw [hB] at hB'; cases hB'
 rcases hI.blk hb with ⟨he0, hcap⟩ | ⟨fb, ⟨c, e', fz, k1, k2, k3, k4, k5, kbx, k6, k7⟩, hfb⟩
 ·rw [he0] at hes; cases hes
 have h1k : blk.es.length * blk.k = blk.k := by rw [← ht, Nat.one_mul]
 have hck : blk.es.length * blk.k ≤ (C.μ i).cap * blk.k := Nat.mul_le_mul_right _ k4
 rw [h1k] at k6 k7 hck
 have k7 := RepL.to (k7.congr (g := fun _ => 0) fun n => (kbx hbx n).symm) (C.forTo _)
 have hek : e.cells.length = blk.k := k3 e (by rw [hes]; exact List.mem_singleton.2 rfl)
 have hfe : flat blk.es = e.cells := by rw [hes]; simp [flat]
 rw [hfe] at k7
 have hDI : D.I (C.μ i).blk := hown _ (by have := hfb (C.μ i).blk; simp at this; omega)
 have mk : ∀ d : A, d.cells.length = blk.k → (RepL D.bare w d.cells ((c.toList.drop (C.μ i).base).take blk.k) fun _ => 0) → Rep1 D w (.ptr [d] 0 0) (.pointer (some ⟨(C.μ i).blk, (C.μ i).base + 0 * blk.k + 0, none⟩)) fun _ => 0 := by
  intro d hd hr
  refine .ptr (a := ⟨(C.μ i).blk, (C.μ i).base, none⟩) (k := blk.k) k1 rfl (by intro y hy; rw [List.mem_singleton.1 hy, hd]) ?_ hDI (by simp) ?_ (fun _ => rfl) ?_ z0
  ·simp only [List.length_singleton, Nat.one_mul]; omega
  ·simp only [List.length_singleton, Nat.one_mul]; exact k6
  ·simp only [List.length_singleton, Nat.one_mul]; simpa [flat] using hr
 split at h
 ·rename_i cs
  simp only [Option.map_eq_some_iff] at h
  obtain ⟨ds, hds, rfl⟩ := h
  exact mk (.agg ds) (by show ds.length = _; rw [argL_length hds]; exact hek) (argL_ok (D := D.bare) hds hI k7 hD fun _ => hown)
 ·rename_i e2 hne
  simp only [Option.map_eq_some_iff] at h
  obtain ⟨d, hd, rfl⟩ := h
  have hec : e.cells = [e] := by
   cases e <;> first | rfl | exact (hne _ rfl).elim
  rw [hec] at k7 hek
  have hdc := argC_cells hd
  refine mk d (by rw [hdc]; exact hek) ?_
  rw [hdc]
  have := argL_ok (D := D.bare) (l := [e]) (l' := [d]) (by simp [argL, hd]) hI k7 hD fun _ => hown
  exact this
theorem capL_ok : ∀ {l l' : List A} {xs : List Value} (_ : capL st l = some l') (_ : Inv w0 E I0 C st a w f) (_ : RepL C w l xs fun _ => 0) (_ : ∀ n, C.I n → D.I n)
  (_ : (l.any isMs) = true → ∀ n, 1 ≤ f n → D.I n), RepL D w l' xs fun _ => 0
 | [], l', xs, h, hI, hx, hD, hm => by
  simp [capL] at h
  subst h
  cases hx
  exact z0
 | b :: l, l', xs, h, hI, hx, hD, hm => by
  simp only [capL] at h
  split at h
  case h_2 => simp at h
  rename_i b1 h1
  split at h
  case h_2 => simp at h
  rename_i l1 h2
  simp at h
  subst h
  obtain ⟨x, ys, rfl, r1, r2⟩ := hx.cons0
  exact (capC_ok h1 hI r1 hD fun e => hm (by simp [e])).cons0 (capL_ok h2 hI r2 hD fun e => hm (by simp only [List.any_cons, Bool.or_eq_true]; exact .inr e))
theorem inv_fn {g fs cs x} (h : Rep1 C w (.fn g fs cs) x fun _ => 0) : ∃ ys zs : List Value, x = .func g ys.toArray zs.toArray ∧ (RepL C w fs ys fun _ => 0) ∧ RepL C w cs zs fun _ => 0 := by
 cases h with
 | fn hf1 hf2 h1 h2 h => exact ⟨_, _, rfl, h1.congr fun b => (hf1 b).symm, h2.congr fun b => (hf2 b).symm⟩
theorem argA_ok {b b' : A} {x : Value} (h : argA st b = some b') (hI : Inv w0 E I0 C st a w f) (hx : Rep1 C w b x fun _ => 0) (hD : ∀ n, C.I n → D.I n) (hm : hasMs b = true → ∀ n, 1 ≤ f n → D.I n) :
  Rep1 D w b' x fun _ => 0 := by
 unfold argA at h
 split at h
 ·rename_i cs
  simp only [Option.map_eq_some_iff] at h
  obtain ⟨ds, hds, rfl⟩ := h
  obtain ⟨ys, rfl, h1⟩ := inv_agg hx
  refine .agg (fun _ => rfl) (argL_ok hds hI h1 hD fun e => hm ?_) z0
  simp only [hasMs]
  rw [List.any_eq_true] at e ⊢
  obtain ⟨y, hy, e⟩ := e
  exact ⟨y, hy, by cases y <;> simp_all [isMs]⟩
 ·rename_i g fs cs
  split at h
  case h_2 => simp at h
  rename_i fs' cs' h1 h2
  simp at h
  subst h
  obtain ⟨ys, zs, rfl, r1, r2⟩ := inv_fn hx
  refine .fn (fun _ => rfl) (fun _ => rfl) (argL_ok h1 hI r1 hD fun e => hm ?_) (capL_ok h2 hI r2 hD fun e => hm ?_) z0
  ·simp only [hasMs, Bool.or_eq_true]
   left
   rw [List.any_eq_true] at e ⊢
   obtain ⟨y, hy, e⟩ := e
   exact ⟨y, hy, by cases y <;> simp_all [isMs]⟩
  ·simp only [hasMs, Bool.or_eq_true]
   right
   rw [List.any_eq_true] at e ⊢
   obtain ⟨y, hy, e⟩ := e
   exact ⟨y, hy, by cases y <;> simp_all [isMs]⟩
 ·rename_i h1 h2
  refine argC_ok h hI hx hD fun e => hm ?_
  cases b <;> simp_all [isMs, hasMs]
theorem argAs_ok : ∀ {l l' : List A} {xs : List Value} (_ : argAs st l = some l') (_ : Inv w0 E I0 C st a w f) (_ : RepL C w l xs fun _ => 0) (_ : ∀ n, C.I n → D.I n)
  (_ : (l.any hasMs) = true → ∀ n, 1 ≤ f n → D.I n), RepL D w l' xs fun _ => 0
 | [], l', xs, h, hI, hx, hD, hm => by
  simp [argAs] at h
  subst h
  cases hx
  exact z0
 | b :: l, l', xs, h, hI, hx, hD, hm => by
  simp only [argAs] at h
  split at h
  case h_2 => simp at h
  rename_i b1 h1
  split at h
  case h_2 => simp at h
  rename_i l1 h2
  simp at h
  subst h
  obtain ⟨x, ys, rfl, r1, r2⟩ := hx.cons0
  exact (argA_ok h1 hI r1 hD fun e => hm (by simp [e])).cons0 (argAs_ok h2 hI r2 hD fun e => hm (by simp only [List.any_cons, Bool.or_eq_true]; exact .inr e))
end
end Go.AM

namespace Go.AM
open Go
section
variable {w0 : World} {E : Nat → Prop} {I0 : Ctx} {C : Ctx} {st : St} {a : Act} {w : World} {f g : Nat → Nat}
theorem InvG.adopt (h : InvG w0 E I0 C st a w f g) {k n : Nat} {es : List A} {x : Value} {gx g1 : Nat → Nat} (hk : findB st.mem k = none) (hx : Rep1 C w (.sl (.ow n) es) x gx) (hg : ∀ b, g b = g1 b + gx b) :
  ∃ C' f', InvG w0 E I0 C' (st.new k ⟨true, n, false, es⟩) a w f' g1 ∧ C.To C' ∧ (Rep1 C' w (.ms (.l k) 0 es.length es.length) x fun _ => 0) ∧ C'.I = C.I := by
 have hB : C.B (.l k) = none := by rw [h.raw]; exact hk
 obtain ⟨l1, l2, e1, e2⟩ := St.new_split (b := ⟨true, n, false, es⟩) hk
 have hm := h.mem
 have hnone := entries_none hk
 rw [e1] at hm hnone
 obtain ⟨f1, f2, hf, m1, m2⟩ := hm.split
 have hu : ((st.new k ⟨true, n, false, es⟩).entries.map (·.1)).Nodup := by
  have hu := h.uniq
  rw [e1] at hu
  rw [e2]
  simp only [List.map_append, List.map_cons] at hu ⊢
  refine (List.perm_middle.nodup_iff).2 (List.nodup_cons.2 ⟨fun hm => ?_, hu⟩)
  obtain ⟨p, hp, hp2⟩ := List.mem_map.1 (by rw [← List.map_append] at hm; exact hm)
  obtain ⟨q, b⟩ := p
  simp at hp2
  subst hp2
  exact hnone b hp
 cases hx with
 | @nils _ _ _ sa _ _ _ h0 =>
  cases h0 with
  | nil hz =>
  have t := Ctx.up_new (l := ⟨0, 0, 0⟩) (b := ⟨true, n, false, []⟩) hB
  have m1' := m1.up t fun b' hb' => absurd (List.mem_append_left _ hb') (hnone b')
  have m2' := m2.up t fun b' hb' => absurd (List.mem_append_right _ hb') (hnone b')
  refine ⟨C.up (.l k) ⟨0, 0, 0⟩ ⟨true, n, false, []⟩, f, {
          defers := h.defers
          raw := fun i => by rw [St.raw_new hk]; simp only [Ctx.up, h.raw]
          first := h.first
          firstX := h.firstX
          below := h.below
          old := h.old
          keep := h.keep
          ext0 := Ctx.ToX.trans h.firstX.symm h.ext0 t.x
          extOn := h.extOn
          uniq := hu
          env := h.env.to t
          same := h.same
          one := fun b => by have := h.one b; have := hg b; omega
          own := fun b hb => h.own b (by have := hg b; omega)
          mem := by rw [e2]; exact m1'.app (MemR.nul rfl rfl (by simp [Ctx.up]) m2') hf }, t, ?_, rfl⟩
  refine .ms (blk := ⟨true, n, false, []⟩) (by simp [Ctx.up]) rfl (fun _ => ⟨by simp, fun _ => ?_⟩) z0
  exact ⟨_, _, rfl, by simp, by simp, by simp, fun h => by simp at h⟩
 | sl hrow hsp hkk hcap hsz hI hs ho hf' h1 h0 => exact absurd hs (by simp)
 | @ow _ _ _ _ ad cap c e fz _ _ _ q1 q2 hrow hsp hkk hcap hsz hF hfz ho hf' h1 h0 =>
  cases h0 with
  | nil hz =>
  have t := Ctx.up_new (l := ⟨ad.block, ad.off, cap⟩) (b := ⟨true, n, false, es⟩) hB
  have m1' := m1.up t fun b' hb' => absurd (List.mem_append_left _ hb') (hnone b')
  have m2' := m2.up t fun b' hb' => absurd (List.mem_append_right _ hb') (hnone b')
  have hbk : BlkOk (C.up (.l k) ⟨ad.block, ad.off, cap⟩ ⟨true, n, false, es⟩) w (.l k) ⟨true, n, false, es⟩ q1 := by
   refine ⟨c, e, fz, by simp only [Ctx.up, if_true]; exact hrow, ⟨hfz, by simpa [Ctx.up] using hF⟩, hkk, ?_, ?_, (fun h => by cases h), ?_, ?_⟩
   ·simpa [Ctx.up] using hcap
   ·simpa [Ctx.up] using hsz
   ·simpa [Ctx.up] using ho
   ·simp only [Ctx.up, if_true]
    exact h1.to t.bare
  refine ⟨C.up (.l k) ⟨ad.block, ad.off, cap⟩ ⟨true, n, false, es⟩, fun b => f b + gx b, {
          defers := h.defers
          raw := fun i => by rw [St.raw_new hk]; simp only [Ctx.up, h.raw]
          first := h.first
          firstX := h.firstX
          below := h.below
          old := h.old
          keep := h.keep
          ext0 := Ctx.ToX.trans h.firstX.symm h.ext0 t.x
          extOn := h.extOn
          uniq := hu
          env := h.env.to t
          same := h.same
          one := fun b => by have := h.one b; have := hg b; omega
          own := fun b hb => h.own b (by have := hg b; omega)
          mem := by
           rw [e2]
           refine m1'.app (MemR.row rfl hbk (fun b => rfl) m2') fun b => ?_
           have := hf' b
           have := hz b
           have := hf b
           simp only [Ctx.up, if_true]
           omega }, t, ?_, rfl⟩
  refine .ms (blk := ⟨true, n, false, es⟩) (by simp [Ctx.up]) rfl (fun _ => ⟨Nat.le_refl _, fun _ => ?_⟩) z0
  refine ⟨_, _, rfl, hcap, by simp [Ctx.up], by simp, fun _ => ?_⟩
  obtain ⟨b0, o0, s0⟩ := ad
  simp only at hsp
  subst hsp
  simp [Ctx.up]
theorem InvG.adoptO (h : InvG w0 E I0 C st a w f g) {k : Nat} {v : A} {x : Value} {gx g1 : Nat → Nat} (hk : findB st.mem k = none) (hx : Rep1 C w (.own v) x gx) (hg : ∀ b, g b = g1 b + gx b) :
  ∃ C' f', InvG w0 E I0 C' (st.new k ⟨true, v.cells.length, true, [v]⟩) a w f' g1 ∧ C.To C' ∧ (Rep1 C' w (.ref (.l k) 0 0 1) x fun _ => 0) ∧ C'.I = C.I := by
 have hB : C.B (.l k) = none := by rw [h.raw]; exact hk
 obtain ⟨l1, l2, e1, e2⟩ := St.new_split (b := ⟨true, v.cells.length, true, [v]⟩) hk
 have hm := h.mem
 have hnone := entries_none hk
 rw [e1] at hm hnone
 obtain ⟨f1, f2, hf, m1, m2⟩ := hm.split
 have hu : ((st.new k ⟨true, v.cells.length, true, [v]⟩).entries.map (·.1)).Nodup := by
  have hu := h.uniq
  rw [e1] at hu
  rw [e2]
  simp only [List.map_append, List.map_cons] at hu ⊢
  refine (List.perm_middle.nodup_iff).2 (List.nodup_cons.2 ⟨fun hm => ?_, hu⟩)
  obtain ⟨p, hp, hp2⟩ := List.mem_map.1 (by rw [← List.map_append] at hm; exact hm)
  obtain ⟨q, b⟩ := p
  simp at hp2
  subst hp2
  exact hnone b hp
 cases hx with
 | @own _ _ _ n c e fz _ _ _ f2' o hrow hsz hfz ho hp hf' h1 h0 =>
  cases h0 with
  | nil hz =>
  have t := Ctx.up_new (l := ⟨n, o, 1⟩) (b := ⟨true, v.cells.length, true, [v]⟩) hB
  have m1' := m1.up t fun b' hb' => absurd (List.mem_append_left _ hb') (hnone b')
  have m2' := m2.up t fun b' hb' => absurd (List.mem_append_right _ hb') (hnone b')
  have hfl : flat [v] = v.cells := by simp [flat]
  have hbk : BlkOk (C.up (.l k) ⟨n, o, 1⟩ ⟨true, v.cells.length, true, [v]⟩) w (.l k) ⟨true, v.cells.length, true, [v]⟩ (fun _ => 0) := by
   refine ⟨c, e, fz, by simp only [Ctx.up, if_true]; exact hrow, ⟨hfz, by simp [Ctx.up, capM]⟩, by simp, ?_, ?_, (fun _ _ => rfl), ?_, ?_⟩
   ·simp [Ctx.up]
   ·simpa [Ctx.up] using hsz
   ·simpa [Ctx.up] using ho
   ·simp only [Ctx.up, if_true, hfl]
    have := (h1.to C.bareTo).to t
    rw [Ctx.for_true]
    simpa [Ctx.up] using this
  refine ⟨C.up (.l k) ⟨n, o, 1⟩ ⟨true, v.cells.length, true, [v]⟩, fun b => f b + gx b, {
          defers := h.defers
          raw := fun i => by rw [St.raw_new hk]; simp only [Ctx.up, h.raw]
          first := h.first
          firstX := h.firstX
          below := h.below
          old := h.old
          keep := h.keep
          ext0 := Ctx.ToX.trans h.firstX.symm h.ext0 t.x
          extOn := h.extOn
          uniq := hu
          env := h.env.to t
          same := h.same
          one := fun b => by have := h.one b; have := hg b; omega
          own := fun b hb => h.own b (by have := hg b; omega)
          mem := by
           rw [e2]
           refine m1'.app (MemR.row rfl hbk (fun b => rfl) m2') fun b => ?_
           have := hf' b
           have := hz b
           have := hf b
           simp only [Ctx.up, if_true]
           omega }, t, ?_, rfl⟩
  refine .ref (blk := ⟨true, v.cells.length, true, [v]⟩) (by simp [Ctx.up]) rfl (fun _ => ⟨by simp, fun _ => ?_⟩) z0
  exact ⟨by simp [Ctx.up], by omega⟩
def A.idle : A → Bool
 | .any | .ms .. | .ref .. | .ptr .. | .fn .. => true
 | _ => false
theorem one_z {a : A} {x : Value} (hx : Rep1 C w a x g) (ha : (∃ v, a = .v v) ∨ a = .ifc ∨ (∃ s es, a = .sl s es ∧ (s = .sh ∨ s = .fr)) ∨ a.idle = true) : Rep1 C w a x fun _ => 0 := by
 rcases ha with ⟨v, rfl⟩ | rfl | ⟨s, es, rfl, hs⟩ | hi
 ·cases hx with
  | v h => exact .v z0
 ·cases hx with
  | ifc h => exact .ifc z0
 ·cases hx with
  | nils h => exact .nils z0
  | sl hrow hsp hk hcap hsz hI hs ho hf h1 h => exact .sl hrow hsp hk hcap hsz hI hs ho hf h1 z0
  | ow hrow hsp hk hcap hsz hF hfz ho hf h1 h => rcases hs with h | h <;> cases h
 ·cases a with
  | any => cases hx with | any h => exact .any z0
  | ms b off len tot => cases hx with | ms hb h1 hm h => exact .ms hb h1 hm z0
  | ref b i o tot => cases hx with | ref hb h1 hm h => exact .ref hb h1 hm z0
  | ptr es i o => cases hx with | ptr hrow hsp hk hsz hI hi ho hf h1 h => exact .ptr hrow hsp hk hsz hI hi ho hf h1 z0
  | fn g fs cs => cases hx with | fn hf1 hf2 h1 h2 h => exact .fn hf1 hf2 h1 h2 z0
  | _ => simp [A.idle] at hi
theorem inC_ok {k : Nat} {b b' : A} {st' : St} {x : Value} {gx g1 : Nat → Nat} (h : inC st k b = some (b', st')) (hI : InvG w0 E I0 C st a w f g) (hx : Rep1 C w b x gx) (hg : ∀ n, g n = g1 n + gx n) :
  ∃ C' f', InvG w0 E I0 C' st' a w f' g1 ∧ C.To C' ∧ (Rep1 C' w b' x fun _ => 0) ∧ C'.I = C.I := by
 have same : (∃ v, b = .v v) ∨ b = .ifc ∨ (∃ s es, b = .sl s es ∧ (s = .sh ∨ s = .fr)) ∨ b.idle = true → b' = b → st' = st → ∃ C' f', InvG w0 E I0 C' st' a w f' g1 ∧ C.To C' ∧ (Rep1 C' w b' x fun _ => 0) ∧ C'.I = C.I := by
  intro h1 h2 h3
  subst h2 h3
  exact ⟨C, f, hI.congr fun n => by have := hg n; omega, .refl C, one_z hx h1, rfl⟩
 unfold inC at h
 split at h
 ·rename_i n es
  split at h
  case h_2 => simp at h
  rename_i hk
  simp at h
  obtain ⟨rfl, rfl⟩ := h
  exact hI.adopt hk hx hg
 ·simp at h; exact same (.inl ⟨_, rfl⟩) h.1.symm h.2.symm
 ·simp at h; exact same (.inr (.inr (.inl ⟨_, _, rfl, .inl rfl⟩))) h.1.symm h.2.symm
 ·simp at h; exact same (.inr (.inr (.inl ⟨_, _, rfl, .inr rfl⟩))) h.1.symm h.2.symm
 ·simp at h; exact same (.inr (.inl rfl)) h.1.symm h.2.symm
 ·simp at h
 ·simp at h
 ·rename_i v
  split at h
  case h_2 => simp at h
  rename_i hk
  simp at h
  obtain ⟨rfl, rfl⟩ := h
  exact hI.adoptO hk hx hg
 ·rename_i h1 h2 h3 h4 h5 h6 h7 h8
  simp at h
  refine same (.inr (.inr (.inr ?_))) h.1.symm h.2.symm
  cases b with
  | v y => exact absurd rfl (h2 y)
  | sl s es => cases s with
   | sh => exact absurd rfl (h3 es)
   | fr => exact absurd rfl (h4 es)
   | ow n => exact absurd rfl (h1 n es)
  | ifc => exact absurd rfl h5
  | agg cs => exact absurd rfl (h6 cs)
  | tup cs => exact absurd rfl (h7 cs)
  | own v => exact absurd rfl (h8 v)
  | _ => rfl
theorem inL_ok : ∀ {l l' : List A} {k : Nat} {st st' : St} {C : Ctx} {f g : Nat → Nat} {xs : List Value} {gx g1 : Nat → Nat} (_ : inL st k l = some (l', st')) (_ : InvG w0 E I0 C st a w f g) (_ : RepL C w l xs gx)
  (_ : ∀ n, g n = g1 n + gx n), ∃ C' f', InvG w0 E I0 C' st' a w f' g1 ∧ C.To C' ∧ (RepL C' w l' xs fun _ => 0) ∧ C'.I = C.I
 | [], l', k, st, st', C, f, g, xs, gx, g1, h, hI, hx, hg => by
  simp [inL] at h
  obtain ⟨rfl, rfl⟩ := h
  cases hx
  exact ⟨C, f, hI.congr fun n => by have := hg n; omega, .refl C, z0, rfl⟩
 | b :: l, l', k, st, st', C, f, g, xs, gx, g1, h, hI, hx, hg => by
  simp only [inL] at h
  split at h
  case h_2 => simp at h
  rename_i b1 st1 h1
  split at h
  case h_2 => simp at h
  rename_i l1 st2 h2
  simp at h
  obtain ⟨rfl, rfl⟩ := h
  obtain ⟨x, ys, p1, p2, rfl, hp, r1, r2⟩ := hx.cons
  obtain ⟨C1, f1, i1, t1, s1, e1⟩ := inC_ok (g1 := fun n => g1 n + p2 n) h1 hI r1 (fun n => by have := hg n; have := hp n; omega)
  obtain ⟨C2, f2, i2, t2, s2, e2⟩ := inL_ok (g1 := g1) h2 i1 (r2.to t1) (fun n => rfl)
  exact ⟨C2, f2, i2, t1.trans t2, Rep1.cons0 (s1.to t2) s2, e2.trans e1⟩
theorem inA_ok {k : Nat} {b b' : A} {st' : St} {x : Value} {gx g1 : Nat → Nat} (h : inA st k b = some (b', st')) (hI : InvG w0 E I0 C st a w f g) (hx : Rep1 C w b x gx) (hg : ∀ n, g n = g1 n + gx n) :
  ∃ C' f', InvG w0 E I0 C' st' a w f' g1 ∧ C.To C' ∧ (Rep1 C' w b' x fun _ => 0) ∧ C'.I = C.I := by
 unfold inA at h
 split at h
 case h_2 => exact inC_ok h hI hx hg
 rename_i cs
 split at h
 case h_2 => simp at h
 rename_i ds st1 h1
 simp at h
 obtain ⟨rfl, rfl⟩ := h
 cases hx with
 | agg hf r1 r2 =>
  cases r2 with
  | nil hz =>
  obtain ⟨C1, f1, i1, t1, s1, e1⟩ := inL_ok (g1 := g1) h1 hI r1 (fun n => by have := hg n; have := hf n; have := hz n; omega)
  exact ⟨C1, f1, i1, t1, .agg (fun _ => rfl) s1 z0, e1⟩
theorem inT_ok : ∀ {l l' : List A} {k : Nat} {st st' : St} {C : Ctx} {f g : Nat → Nat} {xs : List Value} {gx g1 : Nat → Nat} (_ : inT st k l = some (l', st')) (_ : InvG w0 E I0 C st a w f g) (_ : RepL C w l xs gx)
  (_ : ∀ n, g n = g1 n + gx n), ∃ C' f', InvG w0 E I0 C' st' a w f' g1 ∧ C.To C' ∧ (RepL C' w l' xs fun _ => 0) ∧ C'.I = C.I
 | [], l', k, st, st', C, f, g, xs, gx, g1, h, hI, hx, hg => by
  simp [inT] at h
  obtain ⟨rfl, rfl⟩ := h
  cases hx
  exact ⟨C, f, hI.congr fun n => by have := hg n; omega, .refl C, z0, rfl⟩
 | b :: l, l', k, st, st', C, f, g, xs, gx, g1, h, hI, hx, hg => by
  simp only [inT] at h
  split at h
  case h_2 => simp at h
  rename_i b1 st1 h1
  split at h
  case h_2 => simp at h
  rename_i l1 st2 h2
  simp at h
  obtain ⟨rfl, rfl⟩ := h
  obtain ⟨x, ys, p1, p2, rfl, hp, r1, r2⟩ := hx.cons
  obtain ⟨C1, f1, i1, t1, s1, e1⟩ := inA_ok (g1 := fun n => g1 n + p2 n) h1 hI r1 (fun n => by have := hg n; have := hp n; omega)
  obtain ⟨C2, f2, i2, t2, s2, e2⟩ := inT_ok (g1 := g1) h2 i1 (r2.to t1) (fun n => rfl)
  exact ⟨C2, f2, i2, t1.trans t2, Rep1.cons0 (s1.to t2) s2, e2.trans e1⟩
theorem inR_ok {k : Nat} {b b' : A} {st' : St} {x : Value} {gx g1 : Nat → Nat} (h : inR st k b = some (b', st')) (hI : InvG w0 E I0 C st a w f g) (hx : Rep1 C w b x gx) (hg : ∀ n, g n = g1 n + gx n) :
  ∃ C' f', InvG w0 E I0 C' st' a w f' g1 ∧ C.To C' ∧ (Rep1 C' w b' x fun _ => 0) ∧ C'.I = C.I := by
 unfold inR at h
 split at h
 case h_2 => exact inA_ok h hI hx hg
 rename_i cs
 split at h
 case h_2 => simp at h
 rename_i ds st1 h1
 simp at h
 obtain ⟨rfl, rfl⟩ := h
 cases hx with
 | tup hf r1 r2 =>
  cases r2 with
  | nil hz =>
  obtain ⟨C1, f1, i1, t1, s1, e1⟩ := inT_ok (g1 := g1) h1 hI r1 (fun n => by have := hg n; have := hf n; have := hz n; omega)
  exact ⟨C1, f1, i1, t1, .tup (fun _ => rfl) s1 z0, e1⟩
end
def extEntries (X : List Blk) : List (Id × Blk) := X.mapIdx fun j b => (.x j, b)
structure Holds (P : Program) (f : Nat) (args : List A) (X : List Blk) (r : A) (X' : List Blk) : Prop where
 fn : ∃ fn c, P.funcs[f]? = some fn ∧ (fn.name == "runtime.NumGoroutine") = false ∧ fn.body = some c
 calls : ∀ (C : Ctx) (w : World) (xs : List Value) (fx fa : Nat → Nat), C.F = w.heap.size → (∀ i, C.B i = St.raw ⟨[], [], X⟩ i) → (∀ b, C.I b → b < w.heap.size) → (∀ b ∈ X, b.on = true) →
  MemR C w (extEntries X) fx → (∀ b, fx b + fa b ≤ 1) → (∀ b, 1 ≤ fx b + fa b → ¬ C.I b) → RepL C w args xs fa →
  Calls P f xs.toArray w fun
   | .returned v, w' => ∃ D fr fx', C.ToX D ∧ D.F = C.F ∧ (∀ i, D.B i = St.raw ⟨[], [], X'⟩ i) ∧ (∀ b, C.I b → D.I b) ∧ (∀ b, D.I b → C.I b ∨ w.heap.size ≤ b) ∧ (∀ b, D.I b → b < w'.heap.size) ∧ (∀ b ∈ X', b.on = true) ∧
     Same (fun b => 1 ≤ fx b + fa b) w w' ∧ MemR D w' (extEntries X') fx' ∧ Rep1 D w' r v fr ∧ (∀ b, fx' b + fr b ≤ 1) ∧
     (∀ b, 1 ≤ fx' b + fr b → ¬ D.I b ∧ (1 ≤ fx b + fa b ∨ w.heap.size ≤ b) ∧ b < w'.heap.size)
   | _, _ => False
end Go.AM

namespace Go.AM
open Go
section
variable {C D : Ctx} {w : World}
theorem rdL_eq (g : Id → Option Id) (l : List A) : rdL g l = l.map (A.rd g) := by induction l with
 | nil => rfl
 | cons a l ih => simp [rdL, ih]
theorem rnL_eq (g : Id → Id) (l : List A) : rnL g l = l.map (A.rn g) := by induction l with
 | nil => rfl
 | cons a l ih => simp [rnL, ih]
theorem rd_cells (g : Id → Option Id) (a : A) : (a.rd g).cells = rdL g a.cells := by
 cases a with
 | agg cs => rfl
 | ms b off len tot => cases h : g b <;> simp [A.rd, A.cells, rdL, h]
 | ref b i o tot => cases h : g b <;> simp [A.rd, A.cells, rdL, h]
 | _ => rfl
theorem rn_cells (g : Id → Id) (a : A) : (a.rn g).cells = rnL g a.cells := by cases a <;> rfl
theorem flat_rd (g : Id → Option Id) (es : List A) : flat (rdL g es) = rdL g (flat es) := by
 induction es with
 | nil => rfl
 | cons a l ih => simp only [flat, rdL, List.flatMap_cons] at *; rw [ih, rd_cells, rdL_eq, rdL_eq, rdL_eq, List.map_append]
theorem flat_rn (g : Id → Id) (es : List A) : flat (rnL g es) = rnL g (flat es) := by
 induction es with
 | nil => rfl
 | cons a l ih => simp only [flat, rnL, List.flatMap_cons] at *; rw [ih, rn_cells, rnL_eq, rnL_eq, rnL_eq, List.map_append]
def ReB (C D : Ctx) (i j : Id) (blk : Blk) : Prop := ∃ blk', D.B j = some blk' ∧ (blk'.on = true → blk.on = true ∧ blk.es.length ≤ blk'.es.length ∧ (blk.es.length = blk'.es.length → blk'.k = blk.k ∧ D.μ j = C.μ i))
theorem RepL.rd {g : Id → Option Id} {l xs f} (h : RepL C w l xs f) (hz : ∀ b, f b = 0) (hI : ∀ b, C.I b → D.I b) (hB : ∀ i j blk, g i = some j → C.B i = some blk → ReB C D i j blk) : RepL D w (rdL g l) xs fun _ => 0 := by
 induction h with
 | nil h => exact z0
 | any _ ih => exact .any (ih hz hI hB)
 | v _ ih => exact .v (ih hz hI hB)
 | ifc _ ih => exact .ifc (ih hz hI hB)
 | agg hf _ _ ih1 ih => exact .agg (fun _ => rfl) (ih1 (fun b => by have := hf b; have := hz b; omega) hI hB) (ih (fun b => by have := hf b; have := hz b; omega) hI hB)
 | tup hf _ _ ih1 ih => exact .tup (fun _ => rfl) (ih1 (fun b => by have := hf b; have := hz b; omega) hI hB) (ih (fun b => by have := hf b; have := hz b; omega) hI hB)
 | nils _ ih => exact .nils (ih hz hI hB)
 | @sl _ _ s es a cap k c e fz r xs f f1 hrow hsp hk hcap hsz hI' hs ho hf h1 _ _ ih =>
  have := h1.dn (D := D.bare) (fun b hb => hI b (hb.resolve_right (by rw [hf]; omega)))
  rw [← flat_dn] at this
  rw [← dn_length] at hcap hsz ho this
  simp only [rdL, A.rd]
  rw [← dn_length es]
  exact .sl hrow hsp (dn_k hk) hcap hsz (hI _ hI') (.inl rfl) ho (fun _ => rfl) this (ih hz hI hB)
 | @ow _ _ k es a cap c e fz r xs f f1 f2 hrow hsp hk hcap hsz hF hfz ho hf h1 _ _ ih =>
  have h0 := hz a.block
  have h1 := hf a.block
  rw [if_pos rfl] at h1
  omega
 | @ms _ _ b off len tot x r xs f blk hb h1 hm _ ih =>
  simp only [rdL, A.rd]
  split
  ·rename_i c hc
   obtain ⟨blk', q1, q2⟩ := hB b c blk hc hb
   refine .ms q1 h1 (fun ho => ?_) (ih hz hI hB)
   obtain ⟨o, l, e⟩ := q2 ho
   obtain ⟨m1, m2⟩ := hm o
   refine ⟨by omega, fun et => ?_⟩
   obtain ⟨ek, em⟩ := e (by omega)
   have := m2 (by omega)
   rw [em]
   unfold MsOk at *
   rw [ek]; exact this
  ·exact .any (ih hz hI hB)
 | @ref _ _ b i o tot x r xs f blk hb h1 hm _ ih =>
  simp only [rdL, A.rd]
  split
  ·rename_i c hc
   obtain ⟨blk', q1, q2⟩ := hB b c blk hc hb
   refine .ref q1 h1 (fun ho => ?_) (ih hz hI hB)
   obtain ⟨o, l, e⟩ := q2 ho
   obtain ⟨m1, m2⟩ := hm o
   refine ⟨by omega, fun et => ?_⟩
   obtain ⟨ek, em⟩ := e (by omega)
   have := m2 (by omega)
   rw [em]
   unfold RefOk at *
   rw [ek]; exact this
  ·exact .any (ih hz hI hB)
 | @ptr _ _ es i o a k c e fz r xs f f1 hrow hsp hk hsz hI' hi ho hf h1 _ _ ih =>
  have := h1.dn (D := D.bare) (fun b hb => hI b (hb.resolve_right (by rw [hf]; omega)))
  rw [← flat_dn] at this
  rw [← dn_length] at hsz hi ho this
  exact .ptr hrow hsp (dn_k hk) hsz (hI _ hI') hi ho (fun _ => rfl) this (ih hz hI hB)
 | fn hf1 hf2 _ _ _ ih1 ih2 ih => exact .fn (fun _ => rfl) (fun _ => rfl) (ih1 hf1 hI hB) (ih2 hf2 hI hB) (ih hz hI hB)
 | @own _ _ _ n _ _ _ _ _ _ _ _ hrow hsz hfz ho hp hf _ _ _ ih =>
  have h0 := hz n
  have h1 := hf n
  rw [if_pos rfl] at h1
  omega
theorem RepL.rn {g : Id → Id} {l xs f} (h : RepL C w l xs f) (hI : ∀ b, C.I b → D.I b) (hF : D.F ≤ C.F) (hB : ∀ i blk, C.B i = some blk → ReB C D i (g i) blk) : RepL D w (rnL g l) xs f := by
 induction h with
 | nil h => exact .nil h
 | any _ ih => exact .any (ih hI hF hB)
 | v _ ih => exact .v (ih hI hF hB)
 | ifc _ ih => exact .ifc (ih hI hF hB)
 | agg hf _ _ ih1 ih => exact .agg hf (ih1 hI hF hB) (ih hI hF hB)
 | tup hf _ _ ih1 ih => exact .tup hf (ih1 hI hF hB) (ih hI hF hB)
 | nils _ ih => exact .nils (ih hI hF hB)
 | sl hrow hsp hk hcap hsz hI' hs ho hf h1 _ _ ih => exact .sl hrow hsp hk hcap hsz (hI _ hI') hs ho hf (h1.re (D := D.bare) (fun _ => rfl) hI hF) (ih hI hF hB)
 | ow hrow hsp hk hcap hsz hF' hfz ho hf h1 _ _ ih => exact .ow hrow hsp hk hcap hsz hF' hfz ho hf (h1.re (D := D.bare) (fun _ => rfl) hI hF) (ih hI hF hB)
 | @ms _ _ b off len tot x r xs f blk hb h1 hm _ ih =>
  obtain ⟨blk', q1, q2⟩ := hB b blk hb
  refine .ms q1 h1 (fun ho => ?_) (ih hI hF hB)
  obtain ⟨o, l, e⟩ := q2 ho
  obtain ⟨m1, m2⟩ := hm o
  refine ⟨by omega, fun et => ?_⟩
  obtain ⟨ek, em⟩ := e (by omega)
  have := m2 (by omega)
  rw [em]
  unfold MsOk at *
  rw [ek]; exact this
 | @ref _ _ b i o tot x r xs f blk hb h1 hm _ ih =>
  obtain ⟨blk', q1, q2⟩ := hB b blk hb
  refine .ref q1 h1 (fun ho => ?_) (ih hI hF hB)
  obtain ⟨o, l, e⟩ := q2 ho
  obtain ⟨m1, m2⟩ := hm o
  refine ⟨by omega, fun et => ?_⟩
  obtain ⟨ek, em⟩ := e (by omega)
  have := m2 (by omega)
  rw [em]
  unfold RefOk at *
  rw [ek]; exact this
 | ptr hrow hsp hk hsz hI' hi ho hf h1 _ _ ih => exact .ptr hrow hsp hk hsz (hI _ hI') hi ho hf (h1.re (D := D.bare) (fun _ => rfl) hI hF) (ih hI hF hB)
 | fn hf1 hf2 _ _ _ ih1 ih2 ih => exact .fn hf1 hf2 (ih1 hI hF hB) (ih2 hI hF hB) (ih hI hF hB)
 | own hrow hsz hfz ho hp hf h1 _ _ ih => exact .own hrow hsz hfz ho hp hf (h1.re (D := D.bare) (fun _ => rfl) hI hF) (ih hI hF hB)
theorem MemR.perm {l l' : List (Id × Blk)} (hp : l.Perm l') : ∀ {f}, MemR C w l f → MemR C w l' f := by
 induction hp with
 | nil => intro f h; exact h
 | cons p _ ih =>
  intro f h
  cases h with
  | off ho h => exact .off ho (ih h)
  | nul ho he hc h => exact .nul ho he hc (ih h)
  | row ho hb hf h => exact .row ho hb hf (ih h)
 | swap p q l =>
  intro f h
  have h1 : MemR C w ([p] ++ ([q] ++ l)) f → True := fun _ => trivial
  obtain ⟨f1, f2, hf, m1, m2⟩ := MemR.split (l := [q]) (m := p :: l) h
  obtain ⟨f3, f4, hg, m3, m4⟩ := MemR.split (l := [p]) (m := l) m2
  exact m3.app (m1.app m4 fun _ => rfl) fun n => by rw [hf, hg]; omega
 | trans _ _ ih1 ih2 => intro f h; exact ih2 (ih1 h)
theorem MemR.over {w' : World} : ∀ {l l' : List (Id × Blk)} {f}, MemR C w l f → l.length = l'.length →
  (∀ (j : Nat) p q, l[j]? = some p → l'[j]? = some q → q.2.on = p.2.on ∧ (p.2.es = [] → (C.μ p.1).cap = 0 → q.2.es = [] ∧ (D.μ q.1).cap = 0) ∧
   ∀ fb, BlkOk C w p.1 p.2 fb → ((q.2.es = [] ∧ (D.μ q.1).cap = 0) ∨ ((D.μ q.1).blk = (C.μ p.1).blk ∧ ∃ fb', (∀ n, fb' n ≤ fb n) ∧ BlkOk D w' q.1 q.2 fb'))) →
  ∃ f', (∀ n, f' n ≤ f n) ∧ MemR D w' l' f' := by
 intro l
 induction l with
 | nil =>
  intro l' f h hl _
  cases l' with
  | nil => exact ⟨fun _ => 0, fun _ => Nat.zero_le _, .nil fun _ => rfl⟩
  | cons q l' => simp at hl
 | cons p l ih =>
  intro l' f h hl hR
  cases l' with
  | nil => simp at hl
  | cons q l' =>
  obtain ⟨i, b⟩ := p
  obtain ⟨j, b'⟩ := q
  have h0 := hR 0 (i, b) (j, b') rfl rfl
  have hS := fun k p q h1 h2 => hR (k + 1) p q (by simpa using h1) (by simpa using h2)
  obtain ⟨r1, r2, r3⟩ := h0
  simp only at r1 r2 r3
  cases h with
  | off ho h =>
   obtain ⟨f', q1, q2⟩ := ih h (by simpa using hl) hS
   exact ⟨f', q1, .off (by rw [r1]; exact ho) q2⟩
  | nul ho he hc h =>
   obtain ⟨f', q1, q2⟩ := ih h (by simpa using hl) hS
   exact ⟨f', q1, .nul (by rw [r1]; exact ho) (r2 he hc).1 (r2 he hc).2 q2⟩
  | @row _ _ _ _ f1 f2 ho hb hf h =>
   obtain ⟨f', q1, q2⟩ := ih h (by simpa using hl) hS
   rcases r3 f1 hb with ⟨e1, e2⟩ | ⟨e0, fb', e1, e2⟩
   ·exact ⟨f', fun n => by rw [hf]; have := q1 n; omega, .nul (by rw [r1]; exact ho) e1 e2 q2⟩
   ·exact ⟨fun n => (if n = (D.μ j).blk then 1 else 0) + fb' n + f' n, fun n => by show (if n = (D.μ j).blk then 1 else 0) + fb' n + f' n ≤ f n; rw [hf, e0]; have := q1 n; have := e1 n; omega, .row (by rw [r1]; exact ho) e2 (fun n => rfl) q2⟩
section
variable {C D : Ctx} {w : World}
theorem mdL_eq (l : List A) : mdL l = l.map A.md := by induction l with
 | nil => rfl
 | cons a l ih => simp [mdL, ih]
theorem md_cells (a : A) : a.md.cells = mdL a.cells := by
 cases a with
 | sl s es => cases s <;> rfl
 | _ => rfl
theorem flat_md (es : List A) : flat (mdL es) = mdL (flat es) := by
 induction es with
 | nil => rfl
 | cons a l ih => simp only [flat, mdL, List.flatMap_cons] at *; rw [ih, md_cells, mdL_eq, mdL_eq, mdL_eq, List.map_append]
theorem md_k {es : List A} {k : Nat} (h : ∀ x ∈ es, x.cells.length = k) : ∀ x ∈ mdL es, x.cells.length = k := by
 intro x hx
 rw [mdL_eq] at hx
 obtain ⟨y, hy, rfl⟩ := List.mem_map.1 hx
 rw [md_cells, mdL_eq, List.length_map]
 exact h y hy
theorem md_length (es : List A) : (mdL es).length = es.length := by rw [mdL_eq, List.length_map]
theorem RepL.md {l xs f} (h : RepL C w l xs f) (hI : ∀ b, C.I b → D.I b) : RepL D w (mdL l) xs f := by
 induction h generalizing D with
 | nil h => exact .nil h
 | any _ ih => exact .any (ih hI)
 | v _ ih => exact .v (ih hI)
 | ifc _ ih => exact .ifc (ih hI)
 | agg hf _ _ ih1 ih => exact .agg hf (ih1 hI) (ih hI)
 | tup hf _ _ ih1 ih => exact .tup hf (ih1 hI) (ih hI)
 | @nils _ _ s a r xs f _ ih => cases s <;> exact .nils (ih hI)
 | @sl _ _ s es a cap k c e fz r xs f f1 hrow hsp hk hcap hsz hI' hs ho hf h1 _ _ ih =>
  have := h1.dn (D := D.bare) (fun b hb => hI b (hb.resolve_right (by rw [hf]; omega)))
  rw [← flat_dn] at this
  have e0 : mdL (.sl s es :: r) = .sl s (dnL es) :: mdL r := by
   rcases hs with rfl | ⟨rfl, _⟩ <;> rfl
  rw [e0, ← dn_length es]
  rw [← dn_length] at hcap hsz ho this
  exact .sl hrow hsp (dn_k hk) hcap hsz (hI _ hI') hs ho (fun _ => rfl) this (ih hI)
 | @ow _ _ k es a cap c e fz r xs f f1 f2 hrow hsp hk hcap hsz hF hfz ho hf h1 _ ih1 ih =>
  have := ih1 (D := D.bare) hI
  rw [← flat_md] at this
  simp only [mdL, A.md]
  rw [← md_length es]
  rw [← md_length] at hcap ho this
  exact .ow hrow hsp (md_k hk) hcap hsz hF hfz ho hf this (ih hI)
 | ms hb h1 hm _ ih => exact .any (ih hI)
 | ref hb h1 hm _ ih => exact .any (ih hI)
 | ptr hrow hsp hk hsz hI' hi ho hf h1 _ _ ih =>
  have := h1.dn (D := D.bare) (fun b hb => hI b (hb.resolve_right (by rw [hf]; omega)))
  rw [← flat_dn] at this
  rw [← dn_length] at hsz hi ho this
  exact .ptr hrow hsp (dn_k hk) hsz (hI _ hI') hi ho (fun _ => rfl) this (ih hI)
 | fn hf1 hf2 h1 h2 _ _ _ ih => exact .any (ih hI)
 | own hrow hsz hfz ho hp hf h1 _ _ ih => exact .own hrow hsz hfz ho hp hf (h1.reI hp hI) (ih hI)
end
theorem BlkOk.rd {g : Id → Option Id} {i j : Id} {b : Blk} {fb : Nat → Nat} (h : BlkOk C w i b fb) (hμ : D.μ j = C.μ i) (hI : ∀ b, C.I b → D.I b)
  (hB : ∀ i j blk, g i = some j → C.B i = some blk → ReB C D i j blk) : ∃ fb', (∀ n, fb' n ≤ fb n) ∧ BlkOk D w j (b.rd g) fb' := by
 obtain ⟨c, e, fz, h1, h2, h3, h4, h5, h6, h7, h8⟩ := h
 cases hb : b.box with
 | true =>
  rw [hb] at h8
  refine ⟨fun _ => 0, fun _ => Nat.zero_le _, c, e, fz, by rw [hμ]; exact h1, ⟨h2.1, by rw [hμ]; exact h2.2⟩, ?_, ?_, by rw [hμ]; exact h5, fun _ _ => rfl, ?_, ?_⟩
  ·unfold Blk.rd
   intro x hx
   rw [hb] at hx
   simp only [if_true] at hx
   rw [rdL_eq] at hx
   obtain ⟨y, hy, rfl⟩ := List.mem_map.1 hx
   rw [rd_cells, rdL_eq, List.length_map]
   exact h3 y hy
  ·rw [hμ]
   unfold Blk.rd
   simp [hb, rdL_eq, h4]
  ·rw [hμ]
   unfold Blk.rd
   simpa [hb, rdL_eq] using h7
  ·rw [hμ]
   unfold Blk.rd
   rw [hb]
   simp only [if_true, Ctx.for_true] at h8 ⊢
   rw [flat_rd]
   have := h8.rd (h6 hb) hI hB
   simpa [rdL_eq] using this
 | false =>
  rw [hb] at h8
  rw [Ctx.for_false] at h8
  cases hp : plainL b.es with
  | true =>
   refine ⟨fun _ => 0, fun _ => Nat.zero_le _, c, e, fz, by rw [hμ]; exact h1, ⟨h2.1, by rw [hμ]; exact h2.2⟩, ?_, ?_, by rw [hμ]; exact h5, fun _ _ => rfl, ?_, ?_⟩
   ·unfold Blk.rd
    intro x hx
    rw [hb, hp] at hx
    simp only [Bool.false_eq_true, if_false, if_true] at hx
    exact dn_k h3 x hx
   ·rw [hμ]
    unfold Blk.rd
    simp [hb, hp, dnL_eq, h4]
   ·rw [hμ]
    unfold Blk.rd
    simpa [hb, hp, dnL_eq] using h7
   ·rw [hμ]
    unfold Blk.rd
    rw [hb, hp]
    simp only [Bool.false_eq_true, if_false, if_true, Ctx.for_false]
    have h9 := plainL_zero (plainL_flat hp) h8
    have := h9.dn (D := D.bare) (fun b hb => hI b (hb.resolve_right (by simp)))
    rw [← flat_dn] at this
    simpa [dnL_eq] using this
  | false =>
   refine ⟨fb, fun _ => Nat.le_refl _, c, e, fz, by rw [hμ]; exact h1, ⟨h2.1, by rw [hμ]; exact h2.2⟩, ?_, ?_, by rw [hμ]; exact h5, (fun h => by simp [Blk.rd, hb] at h), ?_, ?_⟩
   ·unfold Blk.rd
    intro x hx
    rw [hb, hp] at hx
    simp only [Bool.false_eq_true, if_false] at hx
    exact md_k h3 x hx
   ·rw [hμ]
    unfold Blk.rd
    simp [hb, hp, md_length, h4]
   ·rw [hμ]
    unfold Blk.rd
    simpa [hb, hp, md_length] using h7
   ·rw [hμ]
    unfold Blk.rd
    rw [hb, hp]
    simp only [Bool.false_eq_true, if_false, Ctx.for_false]
    have := h8.md (D := D.bare) hI
    rw [← flat_md] at this
    simpa [md_length] using this
theorem BlkOk.rn {g : Id → Id} {i j : Id} {b : Blk} {fb : Nat → Nat} (h : BlkOk C w i b fb) (hμ : D.μ j = C.μ i) (hI : ∀ b, C.I b → D.I b) (hF : D.F ≤ C.F)
  (hB : ∀ i blk, C.B i = some blk → ReB C D i (g i) blk) : BlkOk D w j (b.rn g) fb := by
 obtain ⟨c, e, fz, h1, h2, h3, h4, h5, h6, h7, h8⟩ := h
 refine ⟨c, e, fz, by rw [hμ]; exact h1, ⟨h2.1, by rw [hμ]; exact h2.2⟩, ?_, ?_, by rw [hμ]; exact h5, h6, ?_, ?_⟩
 ·unfold Blk.rn
  intro x hx
  cases hb : b.box with
  | true =>
   rw [hb] at hx
   simp only [if_true] at hx
   rw [rnL_eq] at hx
   obtain ⟨y, hy, rfl⟩ := List.mem_map.1 hx
   rw [rn_cells, rnL_eq, List.length_map]
   exact h3 y hy
  | false =>
   rw [hb] at hx
   exact h3 x hx
 ·rw [hμ]
  unfold Blk.rn
  cases b.box <;> simp [rnL_eq, h4]
 ·rw [hμ]
  unfold Blk.rn
  cases b.box <;> simpa [rnL_eq] using h7
 ·rw [hμ]
  unfold Blk.rn
  cases hb : b.box with
  | true =>
   rw [hb] at h8
   simp only [if_true, Ctx.for_true] at h8 ⊢
   rw [flat_rn]
   have := h8.rn hI hF hB
   simpa [rnL_eq] using this
  | false =>
   rw [hb] at h8
   simp only [Bool.false_eq_true, if_false, Ctx.for_false] at h8 ⊢
   exact h8.re (D := D.bare) (fun _ => rfl) hI hF
end
/-! ### The blocks of a state, by their names -/
theorem idsAdd_nodup : ∀ (l r : List Id), l.Nodup → (idsAdd l r).Nodup
 | l, [], h => h
 | l, i :: r, h => by
  simp only [idsAdd]
  split
  ·exact idsAdd_nodup _ _ h
  ·rename_i hi
   refine idsAdd_nodup _ _ (List.nodup_append.2 ⟨h, by simp, ?_⟩)
   intro a ha b hb
   simp at hb
   subst hb
   rintro rfl
   exact hi ha
theorem idxOf_get : ∀ {ids : List Id} {i : Id}, i ∈ ids → ids[idxOf ids i]? = some i
 | j :: r, i, h => by
  simp only [idxOf]
  by_cases e : j = i
  ·simp [e]
  ·rw [if_neg e]
   simpa using idxOf_get ((List.mem_cons.1 h).resolve_left (fun x => e x.symm))
theorem idxOf_nodup : ∀ {ids : List Id} {i : Id} {j : Nat}, ids.Nodup → ids[j]? = some i → idxOf ids i = j
 | [], _, _, _, h => by simp at h
 | a :: r, i, 0, _, h => by
  simp at h
  simp [idxOf, h]
 | a :: r, i, j + 1, hn, h => by
  simp only [List.getElem?_cons_succ] at h
  have hn := List.nodup_cons.1 hn
  have : a ≠ i := by rintro rfl; exact hn.1 (List.mem_of_getElem? h)
  simp only [idxOf, if_neg this, idxOf_nodup hn.2 h]
theorem blks_get {st : St} : ∀ {ids : List Id} {bs : List Blk}, st.blks ids = some bs → bs.length = ids.length ∧ ∀ (j : Nat) i, ids[j]? = some i → ∃ b, bs[j]? = some b ∧ st.get i = some b
 | [], bs, h => by
  simp [St.blks] at h
  subst h
  exact ⟨rfl, fun j i hj => by simp at hj⟩
 | i :: r, bs, h => by
  simp only [St.blks] at h
  split at h
  case h_2 => simp at h
  rename_i b s hb hs
  simp at h
  subst h
  obtain ⟨h1, h2⟩ := blks_get hs
  refine ⟨by simp [h1], fun j k hj => ?_⟩
  cases j with
  | zero => simp at hj; subst hj; exact ⟨b, by simp, hb⟩
  | succ j => simpa using h2 j k (by simpa using hj)
section
variable {w0 : World} {E : Nat → Prop} {I0 : Ctx} {C : Ctx} {st : St} {a : Act} {w : World} {f g : Nat → Nat}
theorem puts_raw : ∀ {ids : List Id} {bs : List Blk} {st : St}, ids.Nodup → bs.length = ids.length → (∀ i ∈ ids, ∃ b, st.raw i = some b) →
  ∀ i, (st.puts ids bs).raw i = if i ∈ ids then bs[idxOf ids i]? else st.raw i
 | [], bs, st, _, _, _, i => by simp [St.puts]
 | k :: r, [], st, _, h, _, i => by simp at h
 | k :: r, b :: s, st, hn, hl, hr, i => by
  have hn := List.nodup_cons.1 hn
  obtain ⟨b0, h0⟩ := hr k (List.mem_cons_self ..)
  have hput := fun j => St.raw_put (b' := b) h0 j
  have := puts_raw (ids := r) (bs := s) (st := st.put k b) hn.2 (by simpa using hl) (fun j hj => by
   rw [hput]
   split
   ·exact ⟨_, rfl⟩
   ·exact hr j (List.mem_cons_of_mem _ hj)) i
  simp only [St.puts]
  rw [this, hput]
  by_cases e : i = k
  ·subst e
   rw [if_neg hn.1, if_pos rfl, if_pos (List.mem_cons_self ..)]
   simp [idxOf]
  ·by_cases e2 : i ∈ r
   ·rw [if_pos e2, if_pos (List.mem_cons_of_mem _ e2)]
    have hk : k ≠ i := fun x => e x.symm
    rw [show idxOf (k :: r) i = idxOf r i + 1 by simp [idxOf, hk], List.getElem?_cons_succ]
   ·rw [if_neg e2, if_neg e, if_neg (by simp [e, e2])]
theorem puts_env : ∀ {ids : List Id} {bs : List Blk} {st : St}, (st.puts ids bs).env = st.env
 | [], _, _ => by simp [St.puts]
 | _ :: _, [], _ => by simp [St.puts]
 | k :: r, b :: s, st => by
  simp only [St.puts]
  rw [puts_env]
  cases k <;> rfl
def restOf (st : St) (ids : List Id) : List (Id × Blk) := st.entries.filter fun p => !(ids.contains p.1)
theorem entries_put {st : St} {i : Id} {b b' : Blk} (h : st.raw i = some b) : ∃ l1 l2, st.entries = l1 ++ (i, b) :: l2 ∧ (st.put i b').entries = l1 ++ (i, b') :: l2 := by
 obtain ⟨l1, l2, e1, e2⟩ := St.entries_split h
 exact ⟨l1, l2, e1, e2 b'⟩
theorem perm_of_raw : ∀ {ids : List Id} {bs : List Blk} {l : List (Id × Blk)}, (l.map (·.1)).Nodup → ids.Nodup → bs.length = ids.length → (∀ (j : Nat) i, ids[j]? = some i → ∃ b, bs[j]? = some b ∧ (i, b) ∈ l) →
  l.Perm (ids.zip bs ++ l.filter fun p => !(ids.contains p.1))
 | [], bs, l, _, _, _, _ => by
  simp only [List.zip_nil_left, List.nil_append, List.contains_nil, Bool.not_false]
  rw [List.filter_eq_self.2 (by simp)]
 | i :: r, [], l, _, _, h, _ => by simp at h
 | i :: r, b :: s, l, hu, hn, hl, hm => by
  have hn := List.nodup_cons.1 hn
  obtain ⟨b', h1, h2⟩ := hm 0 i rfl
  simp at h1
  subst h1
  obtain ⟨l1, l2, rfl⟩ := List.append_of_mem h2
  have hp : (l1 ++ (i, b) :: l2).Perm ((i, b) :: (l1 ++ l2)) := List.perm_middle
  simp only [List.map_append, List.map_cons] at hu
  have hu' := List.nodup_cons.1 ((List.perm_middle.nodup_iff).1 hu)
  have hni : ∀ p ∈ l1 ++ l2, p.1 ≠ i := by
   intro p hp e
   apply hu'.1
   rw [← List.map_append]
   exact List.mem_map.2 ⟨p, hp, e⟩
  have ih := perm_of_raw (ids := r) (bs := s) (l := l1 ++ l2) (by rw [List.map_append]; exact hu'.2) hn.2 (by simpa using hl) (fun j k hk => by
   obtain ⟨b', h1, h2⟩ := hm (j + 1) k (by simpa using hk)
   refine ⟨b', by simpa using h1, ?_⟩
   rcases List.mem_append.1 h2 with h2 | h2
   ·exact List.mem_append_left _ h2
   ·rcases List.mem_cons.1 h2 with h2 | h2
    ·exfalso
     cases h2
     exact hn.1 (List.mem_of_getElem? hk)
    ·exact List.mem_append_right _ h2)
  have hf : (l1 ++ (i, b) :: l2).filter (fun p => !((i :: r).contains p.1)) = (l1 ++ l2).filter fun p => !(r.contains p.1) := by
   rw [List.filter_append, List.filter_cons, List.filter_append]
   simp only [List.contains_cons, beq_self_eq_true, Bool.true_or, Bool.not_true, Bool.false_eq_true, if_false]
   congr 1
   ·apply List.filter_congr
    intro p hp
    have := hni p (List.mem_append_left _ hp)
    simp [this]
   ·apply List.filter_congr
    intro p hp
    have := hni p (List.mem_append_right _ hp)
    simp [this]
  rw [hf]
  simp only [List.zip_cons_cons, List.cons_append]
  exact hp.trans (ih.cons _)
theorem puts_rest : ∀ {ids : List Id} {bs : List Blk} {st : St} (js : List Id), (∀ i ∈ ids, i ∈ js) → (∀ i ∈ ids, ∃ b, st.raw i = some b) → restOf (st.puts ids bs) js = restOf st js
 | [], _, _, js, _, _ => by simp [St.puts]
 | _ :: _, [], _, js, _, _ => by simp [St.puts]
 | k :: r, b :: s, st, js, hj, hr => by
  obtain ⟨b0, h0⟩ := hr k (List.mem_cons_self ..)
  simp only [St.puts]
  rw [puts_rest js (fun i hi => hj i (List.mem_cons_of_mem _ hi)) (fun i hi => by
   rw [St.raw_put h0]
   split
   ·exact ⟨_, rfl⟩
   ·exact hr i (List.mem_cons_of_mem _ hi))]
  obtain ⟨l1, l2, e1, e2⟩ := entries_put (b' := b) h0
  unfold restOf
  rw [e1, e2, List.filter_append, List.filter_append, List.filter_cons, List.filter_cons]
  have : k ∈ js := hj k (List.mem_cons_self ..)
  simp [this]
theorem puts_keys : ∀ {ids : List Id} {bs : List Blk} {st : St}, (∀ i ∈ ids, ∃ b, st.raw i = some b) → (st.puts ids bs).entries.map (·.1) = st.entries.map (·.1)
 | [], _, _, _ => by simp [St.puts]
 | _ :: _, [], _, _ => by simp [St.puts]
 | k :: r, b :: s, st, hr => by
  obtain ⟨b0, h0⟩ := hr k (List.mem_cons_self ..)
  simp only [St.puts]
  rw [puts_keys (fun i hi => by
   rw [St.raw_put h0]
   split
   ·exact ⟨_, rfl⟩
   ·exact hr i (List.mem_cons_of_mem _ hi))]
  obtain ⟨l1, l2, e1, e2⟩ := entries_put (b' := b) h0
  rw [e1, e2]
  simp
theorem raw_entry {st : St} {i : Id} {b : Blk} (h : st.raw i = some b) : (i, b) ∈ st.entries := by
 obtain ⟨l1, l2, e1, _⟩ := St.entries_split h
 rw [e1]
 simp
theorem puts_ext : ∀ {ids : List Id} {bs : List Blk} {st : St}, (∀ b ∈ st.ext, b.on = true) → (∀ b ∈ bs, b.on = true) → ∀ b ∈ (st.puts ids bs).ext, b.on = true
 | [], _, _, h, _ => by simpa [St.puts] using h
 | _ :: _, [], _, h, _ => by simpa [St.puts] using h
 | k :: r, b :: s, st, h, hb => by
  simp only [St.puts]
  exact puts_ext (put_ext h fun _ _ => hb b (List.mem_cons_self ..)) fun c hc => hb c (List.mem_cons_of_mem _ hc)
end
end Go.AM

namespace Go.AM
open Go
def OpGoes (T : Tab) (by_ : Nat → Mode) (ann : Ann) (Φ : Known) (P : Program) (w0 : World) (E : Nat → Prop) (I0 : Ctx)
  (o : Oper) (a : Act) (w : World) (m : Nat) (K : St → Free) (r : A) (X : List Blk) : Prop :=
 ∀ (next : Act → World → Prop) (Q : Exit → Act → World → Prop), (∀ m' st' a' w' C' f', m' ≤ m → RunsN T by_ ann Φ m' (K st') r X → Inv w0 E I0 C' st' a' w' f' → next a' w') → o.wp P a w next Q
section
variable {T : Tab} {by_ : Nat → Mode} {ann : Ann} {Φ : Known} {P : Program} {w0 : World} {E : Nat → Prop} {I0 : Ctx}
 {o : Oper} {a : Act} {w : World} {m : Nat} {K : St → Free} {r : A} {X : List Blk} {C : Ctx} {st : St} {f : Nat → Nat}
theorem OpDone.goes (h : OpDone T by_ ann Φ P w0 E I0 o a w m K r X) : OpGoes T by_ ann Φ P w0 E I0 o a w m K r X := by
 intro next Q hn
 obtain ⟨m', st', x, w', C', f', n, hm, hR, hrun, hx, hI⟩ := h
 unfold Oper.wp
 rw [hrun]
 rcases hx with rfl | ⟨rfl, rfl⟩
 ·rw [Oper.upon_value]
  exact hn _ _ _ _ _ _ hm hR hI
 ·rw [Oper.upon_skip]
  exact hn _ _ _ _ _ _ hm hR hI
theorem run_enter {f : FuncId} {fn : Func} {c : Code} (hf : P.funcs[f]? = some fn) (hname : (fn.name == "runtime.NumGoroutine") = false) (hb : fn.body = some c) (args : Array Value) (w : World) :
  (callFunc f args).run P w = .ok (.enter f args) w := by
 have h1 : fn.name ≠ "runtime.NumGoroutine" := by simpa using hname
 simp [callFunc, hf, h1, hb]
theorem raw_nil (i : Id) : St.raw ⟨[], [], []⟩ i = none := by cases i <;> simp [St.raw, findB]
theorem getElem?_map_rd {bs : List Blk} {g : Id → Option Id} {j : Nat} {b : Blk} (h : bs[j]? = some b) : (bs.map (Blk.rd g))[j]? = some (b.rd g) := by simp [h]
theorem callRef_goes {g : Nat} {args : List A} {xs : List Value} (hΦ : ∀ f as x a x', Φ.calls f as x a x' → Holds P f as x a x') (hI : Inv w0 E I0 C st a w f)
  (hxs : RepL C w args xs fun _ => 0)
  (hrun : (∃ fn c, P.funcs[g]? = some fn ∧ (fn.name == "runtime.NumGoroutine") = false ∧ fn.body = some c) → (execOp a.eval o).run P w = .ok (.enter g xs.toArray) w)
  (hR : RunsN T by_ ann Φ m (opCallRef st o.dst g args K) r X) : OpGoes T by_ ann Φ P w0 E I0 o a w m K r X := by
 intro next Q hn
 unfold opCallRef at hR
 split at hR
 ·exact hR.bad.elim
 rename_i bs hbs
 obtain ⟨ids, hids⟩ : ∃ ids, ids = st.idsOf args := ⟨_, rfl⟩
 rw [← hids] at hbs hR
 have hnd : ids.Nodup := by rw [hids]; exact idsAdd_nodup _ _ (idsAdd_nodup _ _ List.nodup_nil)
 cases m with
 | zero => exact hR.elim
 | succ m =>
 obtain ⟨b, x', hphi, hR⟩ := hR
 have H := hΦ _ _ _ _ _ hphi
 change RunsN T by_ ann Φ m (if _ then _ else _) r X at hR
 split at hR
 case isFalse => exact hR.bad.elim
 rename_i hlen
 split at hR
 case h_2 => exact hR.bad.elim
 rename_i b1 st1 hin
 unfold Oper.wp
 rw [hrun H.fn, Oper.upon_enter]
 obtain ⟨hbl, hget⟩ := blks_get hbs
 have hG := hI.toG
 have each : ∀ (j : Nat) i, ids[j]? = some i → ∃ c, bs[j]? = some c ∧ st.raw i = some c ∧ C.B i = some c ∧ c.on = true := by
  intro j i hj
  obtain ⟨c, h1, h2⟩ := hget j i hj
  obtain ⟨h3, h4, h5⟩ := hG.get h2
  exact ⟨c, h1, h3, h4, h5⟩
 have hraw : ∀ i ∈ ids, ∃ c, st.raw i = some c := fun i hi => by
  obtain ⟨c, _, h, _⟩ := each _ i (idxOf_get hi)
  exact ⟨c, h⟩
 have hbon : ∀ c ∈ bs, c.on = true := by
  intro c hc
  obtain ⟨j, hj⟩ := List.getElem?_of_mem hc
  have hlt : j < ids.length := by rw [← hbl]; exact (List.getElem?_eq_some_iff.1 hj).1
  obtain ⟨c', h1, _, _, h2⟩ := each j ids[j] (List.getElem?_eq_getElem hlt)
  rw [hj] at h1; cases h1; exact h2
 have hperm := perm_of_raw hI.uniq hnd hbl (fun j i hj => by
  obtain ⟨c, h1, h2, _⟩ := each j i hj
  exact ⟨c, h1, raw_entry h2⟩)
 obtain ⟨fx, fr0, hfs, mx, mr⟩ := (hI.mem.perm hperm).split
 obtain ⟨D0, hD0⟩ : ∃ D0 : Ctx, D0 = ⟨fun i => match i with | .x j => C.μ (ids.getD j (.l 0)) | i => C.μ i, fun i => St.raw ⟨[], [], bs.map (Blk.rd (idxO ids))⟩ i, C.I, w.heap.size⟩ := ⟨_, rfl⟩
 have hB0 : ∀ i j blk, idxO ids i = some j → C.B i = some blk → ReB C D0 i j blk := by
  intro i j blk h1 h2
  unfold idxO at h1
  split at h1
  case isFalse => simp at h1
  rename_i hi
  simp at h1
  subst h1
  have hj := idxOf_get hi
  obtain ⟨c, h3, h4, h5, h6⟩ := each _ i hj
  rw [h5] at h2; cases h2
  refine ⟨blk.rd (idxO ids), ?_, fun _ => ⟨h6, ?_, fun _ => ⟨rfl, ?_⟩⟩⟩
  ·rw [hD0]
   simp only [St.raw]
   exact getElem?_map_rd h3
  ·unfold Blk.rd
   cases blk.box <;> cases plainL blk.es <;> simp [rdL_eq, dnL_eq, md_length]
  ·rw [hD0]
   simp [hj]
 obtain ⟨fx', hfx', mx0⟩ := mx.over (D := D0) (w' := w) (l' := extEntries (bs.map (Blk.rd (idxO ids)))) (by simp [extEntries, hbl]) (by
  intro j p q h1 h2
  simp only [extEntries, List.getElem?_mapIdx, List.getElem?_map, Option.map_eq_some_iff] at h2
  obtain ⟨_, ⟨c, h3, rfl⟩, rfl⟩ := h2
  obtain ⟨i, c'⟩ := p
  rw [List.getElem?_zip_eq_some] at h1
  obtain ⟨h1, h4⟩ := h1
  simp only at h1 h4
  rw [h3] at h4; cases h4
  have hm : D0.μ (.x j) = C.μ i := by rw [hD0]; simp [h1]
  refine ⟨rfl, ?_, ?_⟩
  ·intro e1 e2
   simp only at e1 e2 ⊢
   refine ⟨?_, by rw [hm]; exact e2⟩
   unfold Blk.rd
   simp [e1, rdL, dnL, plainL]
  ·intro fb hb
   refine .inr ⟨by simp only; rw [hm], ?_⟩
   exact hb.rd hm (by rw [hD0]; exact fun _ h => h) hB0)
 have hfl : ∀ n, 1 ≤ f n → n < w.heap.size := hI.mem.lt
 have H2 := H.calls D0 w xs fx' (fun _ => 0) (by rw [hD0]) (by intro i; rw [hD0]) (by rw [hD0]; exact hI.below) (by
   intro c hc
   obtain ⟨c', h1, rfl⟩ := List.mem_map.1 hc
   exact hbon c' h1) mx0 (fun n => by have := hfx' n; have := hfs n; have := hI.one n; show fx' n + 0 ≤ 1; omega) (by
   intro n h1
   have h1 : 1 ≤ fx' n + 0 := h1
   rw [hD0]
   exact (hI.own n (by have := hfx' n; have := hfs n; omega)).1) (hxs.rd (fun _ => rfl) (by rw [hD0]; exact fun _ h => h) hB0)
 refine Calls.mono H2 ?_
 intro e w' he
 cases e with
 | panicked chain => exact he.elim
 | outgrown => exact he.elim
 | returned v =>
 obtain ⟨D, fr, fy, hX, hF, hB, hup, hold, hlt, hon, hsame, hmem, hrep, hone, hown⟩ := he
 have hF' : D.F = w.heap.size := by rw [hF, hD0]
 have hD0I : D0.I = C.I := by rw [hD0]
 have heap : ∀ n, n < w.heap.size → fx' n = 0 → w'.heap[n]? = w.heap[n]? := fun n h1 h2 => hsame.block n h1 (by show ¬ 1 ≤ fx' n + 0; omega)
 have heapI : ∀ n, C.I n → w'.heap[n]? = w.heap[n]? := fun n hn => heap n (hI.below n hn) (by
  rcases Nat.eq_zero_or_pos (fx' n) with h | h
  ·exact h
  ·exact absurd hn (hI.own n (by have := hfx' n; have := hfs n; omega)).1)
 have hsz : w0.heap.size ≤ w.heap.size := hI.same.size
 obtain ⟨bs', hbs'⟩ : ∃ bs', bs' = x'.map (Blk.rn (backI ids)) := ⟨_, rfl⟩
 rw [← hbs'] at hin
 have hbl' : bs'.length = ids.length := by rw [hbs']; simpa using hlen
 have hraw' := puts_raw (bs := bs') hnd hbl' hraw
 obtain ⟨C1, hC1⟩ : ∃ C1 : Ctx, C1 = ⟨fun i => if i ∈ ids then D.μ (.x (idxOf ids i)) else C.μ i, fun i => (st.puts ids bs').raw i, fun n => C.I n ∨ (w.heap.size ≤ n ∧ D.I n), C.F⟩ := ⟨_, rfl⟩
 have hC1F : C1.F = C.F := by rw [hC1]
 have hDI : ∀ n, D.I n → C1.I n := by
  intro n hn
  rw [hC1]
  rcases hold n hn with h | h
  ·exact .inl (by rw [← hD0I]; exact h)
  ·exact .inr ⟨h, hn⟩
 have hFle : C1.F ≤ D.F := by rw [hC1F, hF']; exact Nat.le_trans hI.first hsz
 have new : ∀ (j : Nat) i, ids[j]? = some i → ∃ c, x'[j]? = some c ∧ D.B (.x j) = some c ∧ C1.B i = some (c.rn (backI ids)) ∧ C1.μ i = D.μ (.x j) ∧ i ∈ ids := by
  intro j i hj
  have hi := List.mem_of_getElem? hj
  have hij := idxOf_nodup hnd hj
  have hlt : j < x'.length := by rw [hlen]; exact (List.getElem?_eq_some_iff.1 hj).1
  refine ⟨x'[j], List.getElem?_eq_getElem hlt, ?_, ?_, ?_, hi⟩
  ·rw [hB]
   exact List.getElem?_eq_getElem hlt
  ·rw [hC1]
   simp only
   rw [hraw', if_pos hi, hij, hbs', List.getElem?_map, List.getElem?_eq_getElem hlt]
   rfl
  ·rw [hC1]
   simp only [if_pos hi, hij]
 have rnlen : ∀ c : Blk, (c.rn (backI ids)).es.length = c.es.length := by
  intro c
  unfold Blk.rn
  cases c.box <;> simp [rnL_eq]
 have rdlen : ∀ c : Blk, (c.rd (idxO ids)).es.length = c.es.length := by
  intro c
  unfold Blk.rd
  cases c.box <;> cases plainL c.es <;> simp [rdL_eq, dnL_eq, md_length]
 have hBn : ∀ i blk, D.B i = some blk → ReB D C1 i (backI ids i) blk := by
  intro i blk h1
  have h0 := h1
  rw [hB] at h1
  cases i with
  | l k => simp [St.raw, findB] at h1
  | x j =>
   simp only [St.raw] at h1
   have hlt : j < ids.length := by rw [← hlen]; exact (List.getElem?_eq_some_iff.1 h1).1
   have hj := List.getElem?_eq_getElem hlt
   obtain ⟨c, q1, q2, q3, q4, _⟩ := new j _ hj
   rw [h1] at q1; cases q1
   have hbk : backI ids (.x j) = ids[j] := by simp [backI, hlt]
   rw [hbk]
   exact ⟨_, q3, fun ho => ⟨ho, by rw [rnlen]; exact Nat.le_refl _, fun _ => ⟨rfl, q4⟩⟩⟩
 have t1 : C.To C1 := by
  refine ⟨fun n h => by rw [hC1]; exact .inl h, hC1F, fun i blk h => ?_⟩
  by_cases hi : i ∈ ids
  ·have hj := idxOf_get hi
   obtain ⟨c, h1, h2, h3, h4⟩ := each _ i hj
   rw [h3] at h; cases h
   obtain ⟨c', q1, q2, q3, q4, _⟩ := new _ i hj
   have hDx : D0.B (.x (idxOf ids i)) = some (blk.rd (idxO ids)) := by
    rw [hD0]
    simp only [St.raw]
    exact getElem?_map_rd h1
   obtain ⟨c2, p1, p2⟩ := hX _ _ hDx
   rw [q2] at p1; cases p1
   have hmu : D0.μ (.x (idxOf ids i)) = C.μ i := by rw [hD0]; simp [hj]
   refine ⟨_, q3, fun ho => ?_⟩
   obtain ⟨p3, p4, p5, p6⟩ := p2 ho
   rw [rdlen] at p4 p5
   refine ⟨h4, by rw [rnlen]; exact p4, fun e => ?_, ?_⟩
   ·rw [rnlen] at e
    obtain ⟨p7, p8⟩ := p5 e
    exact ⟨p7, by rw [q4, p8, hmu]⟩
   ·rw [q4]
    rcases p6 with p6 | p6
    ·exact .inl (by rw [p6, hmu])
    ·refine .inr (Nat.le_trans ?_ p6)
     rw [hD0]
     exact Nat.le_trans hI.first hsz
  ·refine ⟨blk, ?_, fun ho => ⟨ho, Nat.le_refl _, fun _ => ⟨rfl, ?_⟩, .inl ?_⟩⟩
   ·rw [hC1]
    simp only
    rw [hraw', if_neg hi, ← hI.raw]
    exact h
   ·rw [hC1]; simp only [if_neg hi]
   ·rw [hC1]; simp only [if_neg hi]
 obtain ⟨fz, hfz, mx1⟩ := hmem.over (D := C1) (w' := w') (l' := ids.zip bs') (by simp [extEntries, hbl', hlen]) (by
  intro j p q h1 h2
  simp only [extEntries, List.getElem?_mapIdx, Option.map_eq_some_iff] at h1
  obtain ⟨c, h3, rfl⟩ := h1
  obtain ⟨i, c'⟩ := q
  rw [List.getElem?_zip_eq_some] at h2
  obtain ⟨h2, h4⟩ := h2
  simp only at h2 h4
  rw [hbs', List.getElem?_map, h3] at h4
  cases h4
  obtain ⟨c2, q1, q2, q3, q4, hi⟩ := new j i h2
  rw [h3] at q1; cases q1
  refine ⟨rfl, ?_, ?_⟩
  ·intro e1 e2
   simp only at e1 e2 ⊢
   refine ⟨?_, by rw [q4]; exact e2⟩
   unfold Blk.rn
   simp [e1, rnL]
  ·intro fb hb
   simp only
   exact .inr ⟨by rw [q4], fb, fun _ => Nat.le_refl _, hb.rn q4 hDI hFle hBn⟩)
 have fr0lt : ∀ n, 1 ≤ fr0 n → n < w.heap.size := fun n hn => hfl n (by have := hfs n; omega)
 have heapR : ∀ n, 1 ≤ fr0 n → w'.heap[n]? = w.heap[n]? := fun n hn => heap n (fr0lt n hn) (by have := hfx' n; have := hfs n; have := hI.one n; omega)
 have mr1 : MemR C1 w' (restOf st ids) fr0 := by
  refine (mr.frame heapI heapR).to t1 ?_
  intro i c hm ho
  have : i ∉ ids := by
   have := (List.mem_filter.1 hm).2
   simpa using this
  rw [hC1]
  simp only [if_neg this]
 have hperm' := perm_of_raw (l := (st.puts ids bs').entries) (bs := bs') (by rw [puts_keys hraw]; exact hI.uniq) hnd hbl' (fun j i hj => by
  have hi := List.mem_of_getElem? hj
  have hlt : j < bs'.length := by rw [hbl']; exact (List.getElem?_eq_some_iff.1 hj).1
  refine ⟨bs'[j], List.getElem?_eq_getElem hlt, raw_entry ?_⟩
  rw [hraw', if_pos hi, idxOf_nodup hnd hj, List.getElem?_eq_getElem hlt])
 have hrest : (st.puts ids bs').entries.filter (fun p => !(ids.contains p.1)) = restOf st ids := puts_rest ids (fun _ h => h) hraw
 rw [hrest] at hperm'
 have big : ∀ n, 1 ≤ fz n + fr n → ¬ D.I n ∧ (1 ≤ fx' n ∨ w.heap.size ≤ n) ∧ n < w'.heap.size := fun n hn => by
  obtain ⟨h1, h2, h3⟩ := hown n (by have := hfz n; omega)
  exact ⟨h1, h2, h3⟩
 have i1 : InvG w0 E I0 C1 (st.puts ids bs') a w' (fun n => fz n + fr0 n) fr := {
  defers := hI.defers
  raw := by intro i; rw [hC1]
  first := by rw [hC1F]; exact hI.first
  firstX := by rw [hC1F]; exact hI.firstX
  below := by
   intro n hn
   rw [hC1] at hn
   rcases hn with hn | ⟨_, hn⟩
   ·exact Nat.lt_of_lt_of_le (hI.below n hn) hsame.size
   ·exact hlt n hn
  old := by
   intro n hn
   rw [hC1] at hn
   rcases hn with hn | ⟨hn, _⟩
   ·exact hI.old n hn
   ·exact .inr (by omega)
  keep := by intro n hn; rw [hC1]; exact .inl (hI.keep n hn)
  ext0 := Ctx.ToX.trans hI.firstX.symm hI.ext0 t1.x
  extOn := puts_ext hI.extOn (by
   intro c hc
   rw [hbs'] at hc
   obtain ⟨c', h1, rfl⟩ := List.mem_map.1 hc
   exact hon c' h1)
  uniq := by rw [puts_keys hraw]; exact hI.uniq
  env := by
   rw [puts_env]
   exact (hI.env.frame heapI (fun n hn => by simp at hn)).to t1
  mem := (mx1.app mr1 fun _ => rfl).perm hperm'.symm
  one := by
   intro n
   show fz n + fr0 n + fr n ≤ 1
   have h1 := hone n
   have h2 := hfz n
   have h3 := hI.one n
   have h4 := hfs n
   have h5 := hfx' n
   by_cases h6 : 1 ≤ fr0 n
   ·have := fr0lt n h6
    have : ¬ 1 ≤ fz n + fr n := fun h => by
     rcases (big n h).2.1 with h | h <;> omega
    omega
   ·omega
  own := by
   intro n hn
   have hn : 1 ≤ fz n + fr0 n + fr n := hn
   have h4 := hfs n
   have h5 := hfx' n
   rw [hC1]
   by_cases h6 : 1 ≤ fr0 n
   ·have h7 := fr0lt n h6
    obtain ⟨h8, h9⟩ := hI.own n (by omega)
    exact ⟨fun h => h.elim h8 fun h => by omega, h9, Nat.lt_of_lt_of_le h7 hsame.size⟩
   ·obtain ⟨h7, h8, h9⟩ := big n (by omega)
    rcases h8 with h8 | h8
    ·obtain ⟨p1, p2⟩ := hI.own n (by omega)
     exact ⟨fun h => h.elim p1 fun h => h7 h.2, p2, h9⟩
    ·exact ⟨fun h => h.elim (fun h => by have := hI.below n h; omega) fun h => h7 h.2, .inr (by omega), h9⟩
  same := by
   refine ⟨hsame.os.trans hI.same.os, hsame.tape.trans hI.same.tape, hsame.output.trans hI.same.output, Nat.le_trans hsz hsame.size, fun n h1 h2 => ?_⟩
   rw [← hI.same.block n h1 h2]
   refine heap n (by omega) ?_
   rcases Nat.eq_zero_or_pos (fx' n) with h | h
   ·exact h
   ·exfalso
    rcases (hI.own n (by have := hfx' n; have := hfs n; omega)).2 with h3 | h3
    ·exact h2 h3
    ·omega }
 have hrep1 : Rep1 C1 w' (b.rn (backI ids)) v fr := by
  have := hrep.rn hDI hFle hBn
  simp only [rnL] at this
  exact this
 obtain ⟨C2, f2, i2, t2, s2, e2⟩ := inR_ok (g1 := fun _ => 0) hin i1 hrep1 (fun n => by omega)
 exact hn m _ _ _ _ _ (Nat.le_succ _) hR ((i2.inv fun _ => rfl).dst o.dst s2)
end
end Go.AM

namespace Go.AM
open Go
section
variable {w0 : World} {E : Nat → Prop} {I0 : Ctx} {C : Ctx} {st : St} {a : Act} {w : World} {f g : Nat → Nat}
theorem mvA_ok {b b' : A} {st' : St} {x : Value} (h : insA st b = some (b', st')) (hI : InvG w0 E I0 C st a w f g) (hx : Rep1 C w b x fun _ => 0) :
  ∃ C' f' gx, InvG w0 E I0 C' st' a w f' (fun n => g n + gx n) ∧ C.To C' ∧ Rep1 C'.bare w b' x gx := by
 unfold insA at h
 split at h
 case h_2 =>
  obtain ⟨C', f', gx, h1, h2, h3, _⟩ := insC_ok h hI hx
  exact ⟨C', f', gx, h1, h2, h3⟩
 rename_i cs
 split at h
 case h_2 => simp at h
 rename_i ds st1 h1
 simp at h
 obtain ⟨rfl, rfl⟩ := h
 cases hx with
 | agg hf r1 r2 =>
  cases r2 with
  | nil hz =>
  obtain ⟨C1, f1, gx, i1, t1, s1, _⟩ := insL_ok h1 hI (r1.congr fun b => by have h1 := hf b; have h2 := hz b; simp only at h1; show 0 = _; omega)
  exact ⟨C1, f1, gx, i1, t1, .agg (fun _ => rfl) s1 z0⟩
theorem mvAs_ok : ∀ {l l' : List A} {st st' : St} {C : Ctx} {f g : Nat → Nat} {xs : List Value} (_ : insAs st l = some (l', st')) (_ : InvG w0 E I0 C st a w f g) (_ : RepL C w l xs fun _ => 0),
  ∃ C' f' gx, InvG w0 E I0 C' st' a w f' (fun n => g n + gx n) ∧ C.To C' ∧ RepL C'.bare w l' xs gx
 | [], l', st, st', C, f, g, xs, h, hI, hx => by
  simp [insAs] at h
  obtain ⟨rfl, rfl⟩ := h
  cases hx
  exact ⟨C, f, fun _ => 0, hI, .refl C, z0⟩
 | b :: l, l', st, st', C, f, g, xs, h, hI, hx => by
  simp only [insAs] at h
  split at h
  case h_2 => simp at h
  rename_i b1 st1 h1
  split at h
  case h_2 => simp at h
  rename_i l1 st2 h2
  simp at h
  obtain ⟨rfl, rfl⟩ := h
  obtain ⟨x, ys, rfl, r1, r2⟩ := hx.cons0
  obtain ⟨C1, f1, g1, i1, t1, s1⟩ := mvA_ok h1 hI r1
  obtain ⟨C2, f2, g2, i2, t2, s2⟩ := mvAs_ok h2 i1 (r2.to t1)
  exact ⟨C2, f2, fun n => g1 n + g2 n, i2.congr fun n => by show g n + (g1 n + g2 n) ≤ g n + g1 n + g2 n; omega, t1.trans t2, Rep1.cons (s1.to t2.bare) s2 fun _ => rfl⟩
end
section
variable {T : Tab} {by_ : Nat → Mode} {ann : Ann} {Φ : Known} {P : Program} {w0 : World} {E : Nat → Prop} {I0 : Ctx}
 {o : Oper} {a : Act} {w : World} {m : Nat} {K : St → Free} {r : A} {X : List Blk} {C : Ctx} {st : St} {f : Nat → Nat}
theorem callMv_goes {g : Nat} {args : List A} {xs : List Value} (hΦ : ∀ f as x a x', Φ.calls f as x a x' → Holds P f as x a x') (hI : Inv w0 E I0 C st a w f)
  (hxs : RepL C w args xs fun _ => 0)
  (hrun : (∃ fn c, P.funcs[g]? = some fn ∧ (fn.name == "runtime.NumGoroutine") = false ∧ fn.body = some c) → (execOp a.eval o).run P w = .ok (.enter g xs.toArray) w)
  (hR : RunsN T by_ ann Φ m (opCallMv st o.dst g args K) r X) : OpGoes T by_ ann Φ P w0 E I0 o a w m K r X := by
 intro next Q hn
 unfold opCallMv at hR
 split at hR
 ·exact hR.bad.elim
 rename_i as st0 has
 obtain ⟨C0, f0, fa, i0, t0, s0⟩ := mvAs_ok has hI.toG hxs
 have i0 : InvG w0 E I0 C0 st0 a w f0 fa := i0.congr fun n => by simp
 cases m with
 | zero => exact hR.elim
 | succ m =>
 obtain ⟨b, x', hphi, hR⟩ := hR
 have H := hΦ _ _ _ _ _ hphi
 change RunsN T by_ ann Φ m (if _ then _ else _) r X at hR
 split at hR
 case isFalse => exact hR.bad.elim
 rename_i hx0
 have hx0 := List.length_eq_zero_iff.1 hx0
 subst hx0
 split at hR
 case h_2 => exact hR.bad.elim
 rename_i b1 st1 hin
 unfold Oper.wp
 rw [hrun H.fn, Oper.upon_enter]
 obtain ⟨D0, hD0⟩ : ∃ D0 : Ctx, D0 = ⟨C.μ, fun _ => none, C0.I, w.heap.size⟩ := ⟨_, rfl⟩
 have hargs : RepL D0 w (mdL as) xs fa := s0.md (by rw [hD0]; exact fun _ h => h)
 have H2 := H.calls D0 w xs (fun _ => 0) fa (by rw [hD0]) (by intro i; rw [hD0, raw_nil]) (by rw [hD0]; exact i0.below) (by simp) (.nil fun _ => rfl)
  (fun n => by have := i0.one n; show 0 + fa n ≤ 1; omega) (fun n h1 => by rw [hD0]; exact (i0.own n (by have h1 : 1 ≤ 0 + fa n := h1; omega)).1) hargs
 refine Calls.mono H2 ?_
 intro e w' he
 cases e with
 | panicked chain => exact he.elim
 | outgrown => exact he.elim
 | returned v =>
 obtain ⟨D, fr, fx', _, hF, hB, hup, hold, hlt, hon, hsame, hmem, hrep, hone, hown⟩ := he
 have hfx : ∀ n, fx' n = 0 := by
  cases hmem with
  | nil h => exact h
 have hB0 : ∀ i, D.B i = none := fun i => by rw [hB, raw_nil]
 have hF' : D.F = w.heap.size := by rw [hF, hD0]
 have heap : ∀ n, n < w.heap.size → fa n = 0 → w'.heap[n]? = w.heap[n]? := fun n h1 h2 => hsame.block n h1 (by show ¬ 1 ≤ 0 + fa n; omega)
 have heapI : ∀ n, C0.I n → w'.heap[n]? = w.heap[n]? := fun n hn => heap n (i0.below n hn) (by
  rcases Nat.eq_zero_or_pos (fa n) with h | h
  ·exact h
  ·exact absurd hn (i0.own n (by omega)).1)
 have hfl : ∀ n, 1 ≤ f0 n → n < w.heap.size := i0.mem.lt
 have heapM : ∀ n, 1 ≤ f0 n → w'.heap[n]? = w.heap[n]? := fun n hn => heap n (hfl n hn) (by have := i0.one n; omega)
 obtain ⟨C1, hC1⟩ : ∃ C1 : Ctx, C1 = ⟨C0.μ, C0.B, fun n => C0.I n ∨ (w.heap.size ≤ n ∧ D.I n), C0.F⟩ := ⟨_, rfl⟩
 have t1 : C0.To C1 := by rw [hC1]; exact ⟨fun _ h => .inl h, rfl, fun i blk h => ⟨blk, h, fun ho => ⟨ho, Nat.le_refl _, fun _ => ⟨rfl, rfl⟩, .inl rfl⟩⟩⟩
 have hsz : w0.heap.size ≤ w.heap.size := i0.same.size
 have hrep1 : Rep1 C1 w' b v fr := by
  refine RepL.re hrep hB0 ?_ (by rw [hC1, hF']; show C0.F ≤ _; exact Nat.le_trans i0.first hsz)
  intro n h1
  rw [hC1]
  rcases hold n h1 with h2 | h2
  ·rw [hD0] at h2
   exact .inl h2
  ·exact .inr ⟨h2, h1⟩
 have hfr : ∀ n, 1 ≤ fr n → ¬ D.I n ∧ (1 ≤ fa n ∨ w.heap.size ≤ n) ∧ n < w'.heap.size := by
  intro n hn
  obtain ⟨h1, h2, h3⟩ := hown n (by omega)
  exact ⟨h1, h2.imp (fun h => by have h : 1 ≤ 0 + fa n := h; omega) id, h3⟩
 have i1 : InvG w0 E I0 C1 st0 a w' f0 fr := {
  defers := i0.defers
  raw := by rw [hC1]; exact i0.raw
  first := by rw [hC1]; exact i0.first
  firstX := by rw [hC1]; exact i0.firstX
  below := by
   intro n hn
   rw [hC1] at hn
   rcases hn with hn | ⟨_, hn⟩
   ·exact Nat.lt_of_lt_of_le (i0.below n hn) hsame.size
   ·exact hlt n hn
  old := by
   intro n hn
   rw [hC1] at hn
   rcases hn with hn | ⟨hn, _⟩
   ·exact i0.old n hn
   ·exact .inr (by omega)
  keep := by intro n hn; rw [hC1]; exact .inl (i0.keep n hn)
  ext0 := Ctx.ToX.trans i0.firstX.symm i0.ext0 t1.x
  extOn := i0.extOn
  uniq := i0.uniq
  env := (i0.env.frame heapI (fun n hn => by simp at hn)).to t1
  mem := (i0.mem.frame heapI heapM).to t1 (by intro i _ _ _; rw [hC1])
  one := by
   intro n
   have h1 := i0.one n
   have h2 := hone n
   by_cases h3 : 1 ≤ f0 n
   ·have h5 := hfl n h3
    have : ¬ 1 ≤ fr n := fun h4 => by
     rcases (hfr n h4).2.1 with h | h <;> omega
    omega
   ·omega
  own := by
   intro n hn
   rw [hC1]
   by_cases h3 : 1 ≤ f0 n
   ·have h4 := hfl n h3
    obtain ⟨h5, h6, h7⟩ := i0.own n (by omega)
    exact ⟨fun h => h.elim h5 fun h => by omega, h6, Nat.lt_of_lt_of_le h4 hsame.size⟩
   ·obtain ⟨h5, h6, h7⟩ := hfr n (by omega)
    rcases h6 with h6 | h6
    ·obtain ⟨p1, p2, _⟩ := i0.own n (by omega)
     exact ⟨fun h => h.elim p1 fun h => h5 h.2, p2, h7⟩
    ·exact ⟨fun h => h.elim (fun h => by have := i0.below n h; omega) fun h => h5 h.2, .inr (by omega), h7⟩
  same := by
   refine ⟨hsame.os.trans i0.same.os, hsame.tape.trans i0.same.tape, hsame.output.trans i0.same.output, Nat.le_trans hsz hsame.size, fun n h1 h2 => ?_⟩
   rw [← i0.same.block n h1 h2]
   refine heap n (by omega) ?_
   rcases Nat.eq_zero_or_pos (fa n) with h | h
   ·exact h
   ·exfalso
    rcases (i0.own n (by omega)).2.1 with h3 | h3
    ·exact h2 h3
    ·omega }
 obtain ⟨C2, f2, i2, t2, s2, e2⟩ := inR_ok (g1 := fun _ => 0) hin i1 hrep1 (fun n => by omega)
 exact hn m _ _ _ _ _ (Nat.le_succ _) hR ((i2.inv fun _ => rfl).dst o.dst s2)
theorem callMix_goes {g : Nat} {args caps : List A} {xs ys : List Value} (hΦ : ∀ f as x a x', Φ.calls f as x a x' → Holds P f as x a x') (hI : Inv w0 E I0 C st a w f)
  (hxs : RepL C w args xs fun _ => 0) (hys : RepL C w caps ys fun _ => 0)
  (hrun : (∃ fn c, P.funcs[g]? = some fn ∧ (fn.name == "runtime.NumGoroutine") = false ∧ fn.body = some c) → (execOp a.eval o).run P w = .ok (.enter g (xs ++ ys).toArray) w)
  (hR : RunsN T by_ ann Φ m (opCallMix st o.dst g args caps K) r X) : OpGoes T by_ ann Φ P w0 E I0 o a w m K r X := by
 intro next Q hn
 unfold opCallMix at hR
 split at hR
 ·exact hR.bad.elim
 rename_i as st0 has
 obtain ⟨C0, f0, fa, i0, t0, s0⟩ := mvAs_ok has hI.toG hxs
 have i0 : InvG w0 E I0 C0 st0 a w f0 fa := i0.congr fun n => by simp
 have hys := hys.to t0
 clear hxs hI
 clear t0 has
 revert C0 f0 fa st0
 intro st hR C f fa _ s0 hI hys
 split at hR
 ·exact hR.bad.elim
 rename_i bs hbs
 obtain ⟨ids, hids⟩ : ∃ ids, ids = st.idsOf caps := ⟨_, rfl⟩
 rw [← hids] at hbs hR
 have hnd : ids.Nodup := by rw [hids]; exact idsAdd_nodup _ _ (idsAdd_nodup _ _ List.nodup_nil)
 cases m with
 | zero => exact hR.elim
 | succ m =>
 obtain ⟨b, x', hphi, hR⟩ := hR
 have H := hΦ _ _ _ _ _ hphi
 change RunsN T by_ ann Φ m (if _ then _ else _) r X at hR
 split at hR
 case isFalse => exact hR.bad.elim
 rename_i hlen
 split at hR
 case h_2 => exact hR.bad.elim
 rename_i b1 st1 hin
 unfold Oper.wp
 rw [hrun H.fn, Oper.upon_enter]
 obtain ⟨hbl, hget⟩ := blks_get hbs
 have hG := hI
 have each : ∀ (j : Nat) i, ids[j]? = some i → ∃ c, bs[j]? = some c ∧ st.raw i = some c ∧ C.B i = some c ∧ c.on = true := by
  intro j i hj
  obtain ⟨c, h1, h2⟩ := hget j i hj
  obtain ⟨h3, h4, h5⟩ := hG.get h2
  exact ⟨c, h1, h3, h4, h5⟩
 have hraw : ∀ i ∈ ids, ∃ c, st.raw i = some c := fun i hi => by
  obtain ⟨c, _, h, _⟩ := each _ i (idxOf_get hi)
  exact ⟨c, h⟩
 have hbon : ∀ c ∈ bs, c.on = true := by
  intro c hc
  obtain ⟨j, hj⟩ := List.getElem?_of_mem hc
  have hlt : j < ids.length := by rw [← hbl]; exact (List.getElem?_eq_some_iff.1 hj).1
  obtain ⟨c', h1, _, _, h2⟩ := each j ids[j] (List.getElem?_eq_getElem hlt)
  rw [hj] at h1; cases h1; exact h2
 have hperm := perm_of_raw hI.uniq hnd hbl (fun j i hj => by
  obtain ⟨c, h1, h2, _⟩ := each j i hj
  exact ⟨c, h1, raw_entry h2⟩)
 obtain ⟨fx, fr0, hfs, mx, mr⟩ := (hI.mem.perm hperm).split
 obtain ⟨D0, hD0⟩ : ∃ D0 : Ctx, D0 = ⟨fun i => match i with | .x j => C.μ (ids.getD j (.l 0)) | i => C.μ i, fun i => St.raw ⟨[], [], bs.map (Blk.rd (idxO ids))⟩ i, C.I, w.heap.size⟩ := ⟨_, rfl⟩
 have hB0 : ∀ i j blk, idxO ids i = some j → C.B i = some blk → ReB C D0 i j blk := by
  intro i j blk h1 h2
  unfold idxO at h1
  split at h1
  case isFalse => simp at h1
  rename_i hi
  simp at h1
  subst h1
  have hj := idxOf_get hi
  obtain ⟨c, h3, h4, h5, h6⟩ := each _ i hj
  rw [h5] at h2; cases h2
  refine ⟨blk.rd (idxO ids), ?_, fun _ => ⟨h6, ?_, fun _ => ⟨rfl, ?_⟩⟩⟩
  ·rw [hD0]
   simp only [St.raw]
   exact getElem?_map_rd h3
  ·unfold Blk.rd
   cases blk.box <;> cases plainL blk.es <;> simp [rdL_eq, dnL_eq, md_length]
  ·rw [hD0]
   simp [hj]
 obtain ⟨fx', hfx', mx0⟩ := mx.over (D := D0) (w' := w) (l' := extEntries (bs.map (Blk.rd (idxO ids)))) (by simp [extEntries, hbl]) (by
  intro j p q h1 h2
  simp only [extEntries, List.getElem?_mapIdx, List.getElem?_map, Option.map_eq_some_iff] at h2
  obtain ⟨_, ⟨c, h3, rfl⟩, rfl⟩ := h2
  obtain ⟨i, c'⟩ := p
  rw [List.getElem?_zip_eq_some] at h1
  obtain ⟨h1, h4⟩ := h1
  simp only at h1 h4
  rw [h3] at h4; cases h4
  have hm : D0.μ (.x j) = C.μ i := by rw [hD0]; simp [h1]
  refine ⟨rfl, ?_, ?_⟩
  ·intro e1 e2
   simp only at e1 e2 ⊢
   refine ⟨?_, by rw [hm]; exact e2⟩
   unfold Blk.rd
   simp [e1, rdL, dnL, plainL]
  ·intro fb hb
   refine .inr ⟨by simp only; rw [hm], ?_⟩
   exact hb.rd hm (by rw [hD0]; exact fun _ h => h) hB0)
 have hfl : ∀ n, 1 ≤ f n → n < w.heap.size := hI.mem.lt
 have hargs : RepL D0 w (mdL as) xs fa := s0.md (by rw [hD0]; exact fun _ h => h)
 have H2 := H.calls D0 w (xs ++ ys) fx' fa (by rw [hD0]) (by intro i; rw [hD0]) (by rw [hD0]; exact hI.below) (by
   intro c hc
   obtain ⟨c', h1, rfl⟩ := List.mem_map.1 hc
   exact hbon c' h1) mx0 (fun n => by have := hfx' n; have := hfs n; have := hI.one n; omega) (by
   intro n h1
   rw [hD0]
   exact (hI.own n (by have := hfx' n; have := hfs n; omega)).1) (hargs.app (hys.rd (fun _ => rfl) (by rw [hD0]; exact fun _ h => h) hB0) fun _ => rfl)
 refine Calls.mono H2 ?_
 intro e w' he
 cases e with
 | panicked chain => exact he.elim
 | outgrown => exact he.elim
 | returned v =>
 obtain ⟨D, fr, fy, hX, hF, hB, hup, hold, hlt, hon, hsame, hmem, hrep, hone, hown⟩ := he
 have hF' : D.F = w.heap.size := by rw [hF, hD0]
 have hD0I : D0.I = C.I := by rw [hD0]
 have heap : ∀ n, n < w.heap.size → fx' n + fa n = 0 → w'.heap[n]? = w.heap[n]? := fun n h1 h2 => hsame.block n h1 (by omega)
 have heapI : ∀ n, C.I n → w'.heap[n]? = w.heap[n]? := fun n hn => heap n (hI.below n hn) (by
  rcases Nat.eq_zero_or_pos (fx' n + fa n) with h | h
  ·exact h
  ·exact absurd hn (hI.own n (by have := hfx' n; have := hfs n; omega)).1)
 have hsz : w0.heap.size ≤ w.heap.size := hI.same.size
 obtain ⟨bs', hbs'⟩ : ∃ bs', bs' = x'.map (Blk.rn (backI ids)) := ⟨_, rfl⟩
 rw [← hbs'] at hin
 have hbl' : bs'.length = ids.length := by rw [hbs']; simpa using hlen
 have hraw' := puts_raw (bs := bs') hnd hbl' hraw
 obtain ⟨C1, hC1⟩ : ∃ C1 : Ctx, C1 = ⟨fun i => if i ∈ ids then D.μ (.x (idxOf ids i)) else C.μ i, fun i => (st.puts ids bs').raw i, fun n => C.I n ∨ (w.heap.size ≤ n ∧ D.I n), C.F⟩ := ⟨_, rfl⟩
 have hC1F : C1.F = C.F := by rw [hC1]
 have hDI : ∀ n, D.I n → C1.I n := by
  intro n hn
  rw [hC1]
  rcases hold n hn with h | h
  ·exact .inl (by rw [← hD0I]; exact h)
  ·exact .inr ⟨h, hn⟩
 have hFle : C1.F ≤ D.F := by rw [hC1F, hF']; exact Nat.le_trans hI.first hsz
 have new : ∀ (j : Nat) i, ids[j]? = some i → ∃ c, x'[j]? = some c ∧ D.B (.x j) = some c ∧ C1.B i = some (c.rn (backI ids)) ∧ C1.μ i = D.μ (.x j) ∧ i ∈ ids := by
  intro j i hj
  have hi := List.mem_of_getElem? hj
  have hij := idxOf_nodup hnd hj
  have hlt : j < x'.length := by rw [hlen]; exact (List.getElem?_eq_some_iff.1 hj).1
  refine ⟨x'[j], List.getElem?_eq_getElem hlt, ?_, ?_, ?_, hi⟩
  ·rw [hB]
   exact List.getElem?_eq_getElem hlt
  ·rw [hC1]
   simp only
   rw [hraw', if_pos hi, hij, hbs', List.getElem?_map, List.getElem?_eq_getElem hlt]
   rfl
  ·rw [hC1]
   simp only [if_pos hi, hij]
 have rnlen : ∀ c : Blk, (c.rn (backI ids)).es.length = c.es.length := by
  intro c
  unfold Blk.rn
  cases c.box <;> simp [rnL_eq]
 have rdlen : ∀ c : Blk, (c.rd (idxO ids)).es.length = c.es.length := by
  intro c
  unfold Blk.rd
  cases c.box <;> cases plainL c.es <;> simp [rdL_eq, dnL_eq, md_length]
 have hBn : ∀ i blk, D.B i = some blk → ReB D C1 i (backI ids i) blk := by
  intro i blk h1
  have h0 := h1
  rw [hB] at h1
  cases i with
  | l k => simp [St.raw, findB] at h1
  | x j =>
   simp only [St.raw] at h1
   have hlt : j < ids.length := by rw [← hlen]; exact (List.getElem?_eq_some_iff.1 h1).1
   have hj := List.getElem?_eq_getElem hlt
   obtain ⟨c, q1, q2, q3, q4, _⟩ := new j _ hj
   rw [h1] at q1; cases q1
   have hbk : backI ids (.x j) = ids[j] := by simp [backI, hlt]
   rw [hbk]
   exact ⟨_, q3, fun ho => ⟨ho, by rw [rnlen]; exact Nat.le_refl _, fun _ => ⟨rfl, q4⟩⟩⟩
 have t1 : C.To C1 := by
  refine ⟨fun n h => by rw [hC1]; exact .inl h, hC1F, fun i blk h => ?_⟩
  by_cases hi : i ∈ ids
  ·have hj := idxOf_get hi
   obtain ⟨c, h1, h2, h3, h4⟩ := each _ i hj
   rw [h3] at h; cases h
   obtain ⟨c', q1, q2, q3, q4, _⟩ := new _ i hj
   have hDx : D0.B (.x (idxOf ids i)) = some (blk.rd (idxO ids)) := by
    rw [hD0]
    simp only [St.raw]
    exact getElem?_map_rd h1
   obtain ⟨c2, p1, p2⟩ := hX _ _ hDx
   rw [q2] at p1; cases p1
   have hmu : D0.μ (.x (idxOf ids i)) = C.μ i := by rw [hD0]; simp [hj]
   refine ⟨_, q3, fun ho => ?_⟩
   obtain ⟨p3, p4, p5, p6⟩ := p2 ho
   rw [rdlen] at p4 p5
   refine ⟨h4, by rw [rnlen]; exact p4, fun e => ?_, ?_⟩
   ·rw [rnlen] at e
    obtain ⟨p7, p8⟩ := p5 e
    exact ⟨p7, by rw [q4, p8, hmu]⟩
   ·rw [q4]
    rcases p6 with p6 | p6
    ·exact .inl (by rw [p6, hmu])
    ·refine .inr (Nat.le_trans ?_ p6)
     rw [hD0]
     exact Nat.le_trans hI.first hsz
  ·refine ⟨blk, ?_, fun ho => ⟨ho, Nat.le_refl _, fun _ => ⟨rfl, ?_⟩, .inl ?_⟩⟩
   ·rw [hC1]
    simp only
    rw [hraw', if_neg hi, ← hI.raw]
    exact h
   ·rw [hC1]; simp only [if_neg hi]
   ·rw [hC1]; simp only [if_neg hi]
 obtain ⟨fz, hfz, mx1⟩ := hmem.over (D := C1) (w' := w') (l' := ids.zip bs') (by simp [extEntries, hbl', hlen]) (by
  intro j p q h1 h2
  simp only [extEntries, List.getElem?_mapIdx, Option.map_eq_some_iff] at h1
  obtain ⟨c, h3, rfl⟩ := h1
  obtain ⟨i, c'⟩ := q
  rw [List.getElem?_zip_eq_some] at h2
  obtain ⟨h2, h4⟩ := h2
  simp only at h2 h4
  rw [hbs', List.getElem?_map, h3] at h4
  cases h4
  obtain ⟨c2, q1, q2, q3, q4, hi⟩ := new j i h2
  rw [h3] at q1; cases q1
  refine ⟨rfl, ?_, ?_⟩
  ·intro e1 e2
   simp only at e1 e2 ⊢
   refine ⟨?_, by rw [q4]; exact e2⟩
   unfold Blk.rn
   simp [e1, rnL]
  ·intro fb hb
   simp only
   exact .inr ⟨by rw [q4], fb, fun _ => Nat.le_refl _, hb.rn q4 hDI hFle hBn⟩)
 have fr0lt : ∀ n, 1 ≤ fr0 n → n < w.heap.size := fun n hn => hfl n (by have := hfs n; omega)
 have heapR : ∀ n, 1 ≤ fr0 n → w'.heap[n]? = w.heap[n]? := fun n hn => heap n (fr0lt n hn) (by have := hfx' n; have := hfs n; have := hI.one n; omega)
 have mr1 : MemR C1 w' (restOf st ids) fr0 := by
  refine (mr.frame heapI heapR).to t1 ?_
  intro i c hm ho
  have : i ∉ ids := by
   have := (List.mem_filter.1 hm).2
   simpa using this
  rw [hC1]
  simp only [if_neg this]
 have hperm' := perm_of_raw (l := (st.puts ids bs').entries) (bs := bs') (by rw [puts_keys hraw]; exact hI.uniq) hnd hbl' (fun j i hj => by
  have hi := List.mem_of_getElem? hj
  have hlt : j < bs'.length := by rw [hbl']; exact (List.getElem?_eq_some_iff.1 hj).1
  refine ⟨bs'[j], List.getElem?_eq_getElem hlt, raw_entry ?_⟩
  rw [hraw', if_pos hi, idxOf_nodup hnd hj, List.getElem?_eq_getElem hlt])
 have hrest : (st.puts ids bs').entries.filter (fun p => !(ids.contains p.1)) = restOf st ids := puts_rest ids (fun _ h => h) hraw
 rw [hrest] at hperm'
 have big : ∀ n, 1 ≤ fz n + fr n → ¬ D.I n ∧ (1 ≤ fx' n + fa n ∨ w.heap.size ≤ n) ∧ n < w'.heap.size := fun n hn => by
  obtain ⟨h1, h2, h3⟩ := hown n (by have := hfz n; omega)
  exact ⟨h1, h2, h3⟩
 have i1 : InvG w0 E I0 C1 (st.puts ids bs') a w' (fun n => fz n + fr0 n) fr := {
  defers := hI.defers
  raw := by intro i; rw [hC1]
  first := by rw [hC1F]; exact hI.first
  firstX := by rw [hC1F]; exact hI.firstX
  below := by
   intro n hn
   rw [hC1] at hn
   rcases hn with hn | ⟨_, hn⟩
   ·exact Nat.lt_of_lt_of_le (hI.below n hn) hsame.size
   ·exact hlt n hn
  old := by
   intro n hn
   rw [hC1] at hn
   rcases hn with hn | ⟨hn, _⟩
   ·exact hI.old n hn
   ·exact .inr (by omega)
  keep := by intro n hn; rw [hC1]; exact .inl (hI.keep n hn)
  ext0 := Ctx.ToX.trans hI.firstX.symm hI.ext0 t1.x
  extOn := puts_ext hI.extOn (by
   intro c hc
   rw [hbs'] at hc
   obtain ⟨c', h1, rfl⟩ := List.mem_map.1 hc
   exact hon c' h1)
  uniq := by rw [puts_keys hraw]; exact hI.uniq
  env := by
   rw [puts_env]
   exact (hI.env.frame heapI (fun n hn => by simp at hn)).to t1
  mem := (mx1.app mr1 fun _ => rfl).perm hperm'.symm
  one := by
   intro n
   show fz n + fr0 n + fr n ≤ 1
   have h1 := hone n
   have h2 := hfz n
   have h3 := hI.one n
   have h4 := hfs n
   have h5 := hfx' n
   by_cases h6 : 1 ≤ fr0 n
   ·have := fr0lt n h6
    have : ¬ 1 ≤ fz n + fr n := fun h => by
     rcases (big n h).2.1 with h | h <;> omega
    omega
   ·omega
  own := by
   intro n hn
   have hn : 1 ≤ fz n + fr0 n + fr n := hn
   have h4 := hfs n
   have h5 := hfx' n
   rw [hC1]
   by_cases h6 : 1 ≤ fr0 n
   ·have h7 := fr0lt n h6
    obtain ⟨h8, h9, _⟩ := hI.own n (by omega)
    exact ⟨fun h => h.elim h8 fun h => by omega, h9, Nat.lt_of_lt_of_le h7 hsame.size⟩
   ·obtain ⟨h7, h8, h9⟩ := big n (by omega)
    rcases h8 with h8 | h8
    ·obtain ⟨p1, p2, _⟩ := hI.own n (by omega)
     exact ⟨fun h => h.elim p1 fun h => h7 h.2, p2, h9⟩
    ·exact ⟨fun h => h.elim (fun h => by have := hI.below n h; omega) fun h => h7 h.2, .inr (by omega), h9⟩
  same := by
   refine ⟨hsame.os.trans hI.same.os, hsame.tape.trans hI.same.tape, hsame.output.trans hI.same.output, Nat.le_trans hsz hsame.size, fun n h1 h2 => ?_⟩
   rw [← hI.same.block n h1 h2]
   refine heap n (by omega) ?_
   rcases Nat.eq_zero_or_pos (fx' n + fa n) with h | h
   ·exact h
   ·exfalso
    rcases (hI.own n (by have := hfx' n; have := hfs n; omega)).2.1 with h3 | h3
    ·exact h2 h3
    ·omega }
 have hrep1 : Rep1 C1 w' (b.rn (backI ids)) v fr := by
  have := hrep.rn hDI hFle hBn
  simp only [rnL] at this
  exact this
 obtain ⟨C2, f2, i2, t2, s2, e2⟩ := inR_ok (g1 := fun _ => 0) hin i1 hrep1 (fun n => by omega)
 exact hn m _ _ _ _ _ (Nat.le_succ _) hR ((i2.inv fun _ => rfl).dst o.dst s2)
end
end Go.AM

namespace Go.AM
open Go
section
variable {T : Tab} {by_ : Nat → Mode} {ann : Ann} {Φ : Known} {P : Program} {w0 : World} {E : Nat → Prop} {I0 : Ctx}
 {o : Oper} {a : Act} {w : World} {m : Nat} {K : St → Free} {r : A} {X : List Blk} {C : Ctx} {st : St} {f : Nat → Nat}
theorem callFn_goes {g : Nat} {args : List A} {xs : List Value} (hΦ : ∀ f as x a x', Φ.calls f as x a x' → Holds P f as x a x') (hI : Inv w0 E I0 C st a w f)
  (hxs : RepL C w args xs fun _ => 0)
  (hrun : (∃ fn c, P.funcs[g]? = some fn ∧ (fn.name == "runtime.NumGoroutine") = false ∧ fn.body = some c) → (execOp a.eval o).run P w = .ok (.enter g xs.toArray) w)
  (hR : RunsN T by_ ann Φ m (opCallFn by_ st o.dst g args K) r X) : OpGoes T by_ ann Φ P w0 E I0 o a w m K r X := by
 unfold opCallFn at hR
 split at hR
 ·exact callRef_goes hΦ hI hxs hrun hR
 ·exact callMv_goes hΦ hI hxs hrun hR
 ·exact hR.bad.elim
 ·exact hR.bad.elim
 intro next Q hn
 split at hR
 ·exact hR.bad.elim
 rename_i as has
 cases m with
 | zero => exact hR.elim
 | succ m =>
 obtain ⟨b, x', hphi, hR⟩ := hR
 have H := hΦ _ _ _ _ _ hphi
 change RunsN T by_ ann Φ m (if _ then _ else _) r X at hR
 split at hR
 case isFalse => exact hR.bad.elim
 rename_i hc
 obtain ⟨hx0, hfree⟩ := hc
 have hx0 := List.length_eq_zero_iff.1 hx0
 subst hx0
 split at hR
 case h_2 => exact hR.bad.elim
 rename_i b1 st1 hin
 unfold Oper.wp
 rw [hrun H.fn, Oper.upon_enter]
 obtain ⟨D0, hD0⟩ : ∃ D0 : Ctx, D0 = ⟨C.μ, fun _ => none, fun n => C.I n ∨ ((args.any hasMs) = true ∧ 1 ≤ f n), w.heap.size⟩ := ⟨_, rfl⟩
 have hfl : ∀ n, 1 ≤ f n → n < w.heap.size := hI.mem.lt
 have hargs : RepL D0 w as xs fun _ => 0 := argAs_ok has hI hxs (by intro n hn; rw [hD0]; exact .inl hn) (by intro h n hn; rw [hD0]; exact .inr ⟨h, hn⟩)
 have H2 := H.calls D0 w xs (fun _ => 0) (fun _ => 0) (by rw [hD0]) (by intro i; rw [hD0, raw_nil]) (by
   intro n hn
   rw [hD0] at hn
   rcases hn with hn | ⟨_, hn⟩
   ·exact hI.below n hn
   ·exact hfl n hn) (by simp) (.nil fun _ => rfl) (by simp) (by intro n hn; simp at hn) hargs
 refine Calls.mono H2 ?_
 intro e w' he
 cases e with
 | panicked chain => exact he.elim
 | outgrown => exact he.elim
 | returned v =>
 obtain ⟨D, fr, fx', _, hF, hB, hup, hold, hlt, hon, hsame, hmem, hrep, hone, hown⟩ := he
 have hfx : ∀ n, fx' n = 0 := by
  cases hmem with
  | nil h => exact h
 have hB0 : ∀ i, D.B i = none := fun i => by rw [hB, raw_nil]
 have hF' : D.F = w.heap.size := by rw [hF, hD0]
 have heap : ∀ n, n < w.heap.size → w'.heap[n]? = w.heap[n]? := fun n hn => hsame.block n hn (by simp)
 obtain ⟨C1, hC1⟩ : ∃ C1 : Ctx, C1 = ⟨C.μ, C.B, fun n => C.I n ∨ (w.heap.size ≤ n ∧ D.I n), C.F⟩ := ⟨_, rfl⟩
 have t1 : C.To C1 := by rw [hC1]; exact ⟨fun _ h => .inl h, rfl, fun i blk h => ⟨blk, h, fun ho => ⟨ho, Nat.le_refl _, fun _ => ⟨rfl, rfl⟩, .inl rfl⟩⟩⟩
 have hsz : w0.heap.size ≤ w.heap.size := hI.same.size
 have hrep1 : Rep1 C1 w' b v fr := by
  by_cases hms : (args.any hasMs) = true
  ·have hfb : b.free = true := by
    rw [hms] at hfree
    simpa using hfree
   refine RepL.reF hrep (by simp [freeL, hfb]) ?_ (by rw [hC1, hF']; show C.F ≤ _; exact Nat.le_trans hI.first hsz)
   intro n h1 h2
   rw [hC1]
   rw [hF'] at h2
   exact .inr ⟨h2, h1⟩
  ·refine RepL.re hrep hB0 ?_ (by rw [hC1, hF']; show C.F ≤ _; exact Nat.le_trans hI.first hsz)
   intro n h1
   rw [hC1]
   rcases hold n h1 with h2 | h2
   ·rw [hD0] at h2
    rcases h2 with h2 | ⟨h2, _⟩
    ·exact .inl h2
    ·exact absurd h2 hms
   ·exact .inr ⟨h2, h1⟩
 have hfr : ∀ n, 1 ≤ fr n → ¬ D.I n ∧ w.heap.size ≤ n ∧ n < w'.heap.size := by
  intro n hn
  obtain ⟨h1, h2, h3⟩ := hown n (by omega)
  exact ⟨h1, h2.resolve_left (by simp), h3⟩
 have i1 : InvG w0 E I0 C1 st a w' f fr := {
  defers := hI.defers
  raw := by rw [hC1]; exact hI.raw
  first := by rw [hC1]; exact hI.first
  firstX := by rw [hC1]; exact hI.firstX
  below := by
   intro n hn
   rw [hC1] at hn
   rcases hn with hn | ⟨_, hn⟩
   ·exact Nat.lt_of_lt_of_le (hI.below n hn) hsame.size
   ·exact hlt n hn
  old := by
   intro n hn
   rw [hC1] at hn
   rcases hn with hn | ⟨hn, _⟩
   ·exact hI.old n hn
   ·exact .inr (by omega)
  keep := by intro n hn; rw [hC1]; exact .inl (hI.keep n hn)
  ext0 := Ctx.ToX.trans hI.firstX.symm hI.ext0 t1.x
  extOn := hI.extOn
  uniq := hI.uniq
  env := (hI.env.frame (fun n hn => heap n (hI.below n hn)) (fun n hn => by simp at hn)).to t1
  mem := (hI.mem.frame (fun n hn => heap n (hI.below n hn)) (fun n hn => heap n (hfl n hn))).to t1 (by intro i _ _ _; rw [hC1])
  one := by
   intro n
   have h1 := hI.one n
   have h2 := hone n
   by_cases h3 : 1 ≤ f n
   ·have := hfl n h3
    have : ¬ 1 ≤ fr n := fun h4 => by have := (hfr n h4).2.1; omega
    omega
   ·omega
  own := by
   intro n hn
   rw [hC1]
   by_cases h3 : 1 ≤ f n
   ·have h4 := hfl n h3
    obtain ⟨h5, h6⟩ := hI.own n h3
    exact ⟨fun h => h.elim h5 fun h => by omega, h6, Nat.lt_of_lt_of_le h4 hsame.size⟩
   ·obtain ⟨h5, h6, h7⟩ := hfr n (by omega)
    exact ⟨fun h => h.elim (fun h => by have := hI.below n h; omega) fun h => h5 h.2, .inr (by omega), h7⟩
  same := hI.same.trans ⟨hsame.os, hsame.tape, hsame.output, hsame.size, fun n hn _ => hsame.block n hn (by simp)⟩ }
 obtain ⟨C2, f2, i2, t2, s2, e2⟩ := inR_ok (g1 := fun _ => 0) hin i1 hrep1 (fun n => by omega)
 exact hn m _ _ _ _ _ (Nat.le_succ _) hR ((i2.inv fun _ => rfl).dst o.dst s2)
theorem call_goes {c : Call} (hop : o.op = .call c) (hΦ : ∀ f as x a x', Φ.calls f as x a x' → Holds P f as x a x') (hT : TabOk P T) (hI : Inv w0 E I0 C st a w f)
  (hR : RunsN T by_ ann Φ m (opCall T by_ st o.dst c K) r X) : OpGoes T by_ ann Φ P w0 E I0 o a w m K r X := by
 obtain ⟨callee, args, ts⟩ := c
 unfold opCall at hR
 simp only at hR
 split at hR
 ·exact ((len_ok hop hT hI hR).done hI).goes
 ·split at hR
  case h_2 => exact hR.bad.elim
  rename_i s x t t2 ha ht
  obtain ⟨l⟩ := args
  obtain ⟨l2⟩ := ts
  match l, ha with
  | [y, z], ha =>
   simp only [List.map_cons, List.map_nil, List.cons.injEq, and_true] at ha
   subst ht
   rw [← ha.1, ← ha.2] at hR
   exact (append_ok hop hT hI hR).goes
 ·split at hR
  ·exact hR.bad.elim
  ·rename_i hne
   exact (max_ok hop hI hR hne).goes
 ·split at hR
  ·exact hR.bad.elim
  ·rename_i hne
   exact (min_ok hop hI hR hne).goes
 ·rename_i fo
  have hfo := ev_rep hI.env fo
  have hev := evs_rep hI args.toList
  split at hR
  ·rename_i g fs cs ef
   rw [ef] at hfo
   have hv := inv_v hfo
   split at hR
   case isFalse => exact hR.bad.elim
   rename_i hz
   obtain ⟨hz1, hz2⟩ := hz
   have hz1 := Array.size_eq_zero_iff.1 hz1
   have hz2 := Array.size_eq_zero_iff.1 hz2
   subst hz1 hz2
   refine callFn_goes hΦ hI hev ?_ hR
   rintro ⟨fn, c, h1, h2, h3⟩
   simp only [execOp, hop, resolve, Deferred.ofValue, hv, Sem.run_bind, Sem.run_pure, Result.andThen_ok, invoke]
   rw [run_enter h1 h2 h3]
   congr 2
   apply Array.ext'
   simp
  ·rename_i g fs cs ef
   rw [ef] at hfo
   obtain ⟨ys, zs, hv, r1, r2⟩ := inv_fn hfo
   split at hR
   ·split at hR
    case isFalse => exact hR.bad.elim
    rename_i hfs
    have hfs := List.isEmpty_iff.1 hfs
    subst hfs
    cases r1
    refine callMix_goes (xs := args.toList.map a.eval) (ys := zs) hΦ hI hev r2 ?_ hR
    rintro ⟨fn, c, h1, h2, h3⟩
    simp only [execOp, hop, resolve, Deferred.ofValue, hv, Sem.run_bind, Sem.run_pure, Result.andThen_ok, invoke]
    rw [run_enter h1 h2 h3]
    congr 2
    apply Array.ext'
    simp
   refine callFn_goes (xs := ys ++ args.toList.map a.eval ++ zs) hΦ hI ((r1.app hev fun _ => rfl).app r2 fun _ => rfl) ?_ hR
   rintro ⟨fn, c, h1, h2, h3⟩
   simp only [execOp, hop, resolve, Deferred.ofValue, hv, Sem.run_bind, Sem.run_pure, Result.andThen_ok, invoke]
   rw [run_enter h1 h2 h3]
   congr 2
   apply Array.ext'
   simp
  ·exact hR.bad.elim
 ·exact hR.bad.elim
theorem nilsGo_ok {fs : List (Nat × Nat × Nat)} {key : Nat} : ∀ (cs : List A) (o : Nat) {st : St} {C : Ctx} {f : Nat → Nat} {xs : List Value}, Inv w0 E I0 C st a w f → RepL C w cs xs (fun _ => 0) →
  ∃ C' f', Inv w0 E I0 C' (nilsGo T fs key o cs st).2 a w f' ∧ C.To C' ∧ RepL C' w (nilsGo T fs key o cs st).1 xs (fun _ => 0)
 | [], o, st, C, f, xs, hI, hx => ⟨C, f, hI, .refl C, hx⟩
 | a :: r, o, st, C, f, xs, hI, hx => by
  obtain ⟨x, ys, rfl, r1, r2⟩ := hx.cons0
  by_cases hn : a = .v (.slice none 0 0)
  ·subst hn
   cases hfr : findB st.mem (key + 1 + o) with
   | none =>
    have e : nilsGo T fs key o (.v (.slice none 0 0) :: r) st = (.ms (.l (key + 1 + o)) 0 0 0 :: (nilsGo T fs key (o + 1) r (st.new (key + 1 + o) ⟨true, nilK T fs o, false, []⟩)).1, (nilsGo T fs key (o + 1) r (st.new (key + 1 + o) ⟨true, nilK T fs o, false, []⟩)).2) := by simp only [nilsGo, hfr]
    rw [e]
    obtain ⟨i2, t2⟩ := hI.toG.allocNul (n := nilK T fs o) hfr
    have i2 := i2.inv fun _ => rfl
    obtain ⟨C3, f3, i3, t3, q3⟩ := nilsGo_ok r (o + 1) i2 (RepL.to r2 t2)
    refine ⟨C3, f3, i3, t2.trans t3, ?_⟩
    have e1 : x = .slice none 0 0 := by cases r1 with | v h => rfl
    subst e1
    have h1 : Rep1 (C.up (.l (key + 1 + o)) ⟨0, 0, 0⟩ ⟨true, nilK T fs o, false, []⟩) w (.ms (.l (key + 1 + o)) 0 0 0) (.slice none 0 0) fun _ => 0 :=
     .ms (blk := ⟨true, nilK T fs o, false, []⟩) (by simp [Ctx.up]) rfl (fun _ => ⟨by simp, fun _ => ⟨none, 0, rfl, Nat.le_refl _, by simp [Ctx.up], by simp, fun h => by omega⟩⟩) z0
    exact Rep1.cons (RepL.to h1 t3) q3 fun _ => rfl
   | some b =>
    have e : nilsGo T fs key o (.v (.slice none 0 0) :: r) st = (.v (.slice none 0 0) :: (nilsGo T fs key (o + 1) r st).1, (nilsGo T fs key (o + 1) r st).2) := by simp only [nilsGo, hfr]
    rw [e]
    obtain ⟨C3, f3, i3, t3, q3⟩ := nilsGo_ok r (o + 1) hI r2
    exact ⟨C3, f3, i3, t3, Rep1.cons (RepL.to r1 t3) q3 fun _ => rfl⟩
  ·have e : nilsGo T fs key o (a :: r) st = (a :: (nilsGo T fs key (o + 1) r st).1, (nilsGo T fs key (o + 1) r st).2) := by
    rw [nilsGo]
    exact fun h => hn h
   rw [e]
   obtain ⟨C3, f3, i3, t3, q3⟩ := nilsGo_ok r (o + 1) hI r2
   exact ⟨C3, f3, i3, t3, Rep1.cons (RepL.to r1 t3) q3 fun _ => rfl⟩
theorem allocN_ok {t : TypeId} (hop : o.op = .alloc t) (hT : TabOk P T) (hI : Inv w0 E I0 C st a w f)
  (hR : RunsN T by_ ann Φ m (if (T.row t).size = 0 then .bad else opBoxN T st o.dst (T.row t) (T.row t).zeroA K) r X) : OpDone T by_ ann Φ P w0 E I0 o a w m K r X := by
 split at hR
 ·exact hR.bad.elim
 rename_i ht
 obtain ⟨z, hz, _, hz2⟩ := hT.run_zero ht w
 have hrep := zero_rep (C := C) (w := w) hT ht hz2
 unfold opBoxN at hR
 split at hR
 case h_2 => exact hR.bad.elim
 rename_i fs cs hk hza
 rw [hza] at hrep
 obtain ⟨ys, rfl, hys⟩ := inv_agg hrep
 obtain ⟨C', f', hI', t', hr'⟩ := nilsGo_ok (T := T) (fs := fs) (key := keyOf o.dst) cs 0 hI hys
 refine box_ok (e := t) hI' (.agg (fun _ => rfl) hr' z0) ?_ hR
 simp [execOp, hop, Instr.alloc, newVar, newRow, hz]
theorem boxN_ok {t : TypeId} {x : Operand} (hop : o.op = .box t x) (hI : Inv w0 E I0 C st a w f)
  (hR : RunsN T by_ ann Φ m (opBoxN T st o.dst (T.row t) (ev st.env x) K) r X) : OpDone T by_ ann Φ P w0 E I0 o a w m K r X := by
 have hrep := ev_rep hI.env x
 have hrun : (execOp a.eval o).run P w = .ok (.value (.pointer (some ⟨w.heap.size, 0, none⟩))) (w.alloc (.cells (a.eval x).cells t)) := by simp [execOp, hop, Instr.box, newVar, newRow]
 unfold opBoxN at hR
 split at hR
 case h_2 => exact hR.bad.elim
 rename_i fs cs hk hza
 rw [hza] at hrep
 generalize a.eval x = v at hrep hrun
 obtain ⟨ys, rfl, hys⟩ := inv_agg hrep
 obtain ⟨C', f', hI', t', hr'⟩ := nilsGo_ok (T := T) (fs := fs) (key := keyOf o.dst) cs 0 hI hys
 exact box_ok (e := t) hI' (.agg (fun _ => rfl) hr' z0) hrun hR
theorem op1_goes (hΦ : ∀ f as x a x', Φ.calls f as x a x' → Holds P f as x a x') (hT : TabOk P T) (hI : Inv w0 E I0 C st a w f)
  (hR : RunsN T by_ ann Φ m (op1 T by_ st o K) r X) : OpGoes T by_ ann Φ P w0 E I0 o a w m K r X := by
 unfold op1 at hR
 simp only at hR
 split at hR
 ·rename_i hop; exact ((move_ok (.inl hop) hI hR).done hI).goes
 ·rename_i hop; exact ((move_ok (.inr hop) hI hR).done hI).goes
 ·rename_i hop; exact ((pick_ok hop hI hR).done hI).goes
 ·rename_i hop
  split at hR
  ·exact (allocN_ok hop hT hI hR).goes
  ·exact (allocOp_ok hop hT hI hR).goes
 ·rename_i hop
  split at hR
  ·exact (boxF_ok hop hI hR).goes
  ·exact (boxN_ok hop hI hR).goes
  ·exact (boxOp_ok hop hI hR).goes
 ·rename_i hop; exact (build_ok hop hT hI hR).goes
 ·rename_i hop
  split at hR
  ·exact (buildF_ok hop hT hI hR).goes
  ·exact (buildSlice_ok hop hT hI hR).goes
 ·rename_i hop; exact (load_ok hop hT hI hR).goes
 ·rename_i hop
  split at hR
  ·rename_i hd; exact (store_ok hop hT hI hd hR).goes
  ·exact hR.bad.elim
 ·rename_i hop; exact ((bin_ok hop hT hI hR).done hI).goes
 ·rename_i hop; exact ((un_ok hop hI hR).done hI).goes
 ·rename_i hop; exact (convert_ok hop hT hI hR).goes
 ·rename_i hop; exact ((makeFunc_ok hop hI hR).done hI).goes
 ·rename_i hop; exact (make_ok hop hT hI hR).goes
 ·rename_i hop
  split at hR
  ·rename_i hk
   split at hR
   ·rename_i hn
    simp only [Bool.and_eq_true] at hn
    exact (sliceN_ok hop hT hk hI hn.1 hR).goes
   ·exact (slice_ok hop hT hk hI hR).goes
  ·rename_i hk
   split at hR
   ·rename_i ex; exact (sliceS_ok hop hT hk hI ex hR).goes
   ·exact hR.bad.elim
  ·exact hR.bad.elim
 ·rename_i hop; exact ((fieldAddr_ok hop hT hI hR).done hI).goes
 ·rename_i hop; exact ((field_ok hop hT hI hR).done hI).goes
 ·rename_i hop; exact ((indexAddr_ok hop hT hI hR).done hI).goes
 ·rename_i hop; exact ((index_ok hop hT hI hR).done hI).goes
 ·rename_i hop; exact ((extract_ok hop hI hR).done hI).goes
 ·rename_i hop; exact ((nilCheck_ok hop hI hR).done hI).goes
 ·rename_i hop; exact call_goes hop hΦ hT hI hR
 ·exact hR.bad.elim
theorem act_put_same {t : Nat} {v : Value} (h : a.tmps[t]? = some v) : a.put (some t) v = a := by
 obtain ⟨tm, ds⟩ := a
 simp only [Act.put]
 congr 1
 simp only at h
 apply Array.ext_getElem?
 intro j
 rw [Array.getElem?_setIfInBounds]
 by_cases e : t = j
 ·subst e
  obtain ⟨hlt, h⟩ := Array.getElem?_eq_some_iff.1 h
  rw [if_pos rfl, if_pos hlt]
  simp [hlt, h]
 ·rw [if_neg e]
theorem guard_at {t : Nat} {b : Value} (hI : Inv w0 E I0 C st a w f) (h : st.env.getD t .any = .v b) : a.tmps[t]? = some b := by
 have h1 := hI.env.getD t
 rw [h] at h1
 have h2 := inv_v h1
 have hlt : t < a.tmps.toList.length := by
  rcases Nat.lt_or_ge t a.tmps.toList.length with hl | hl
  ·exact hl
  ·have hl' : st.env.length ≤ t := by rw [hI.env.length]; exact hl
   rw [List.getD, List.getElem?_eq_none hl'] at h
   cases h
 rw [List.getD, List.getElem?_eq_getElem hlt] at h2
 simp at hlt h2
 rw [Array.getElem?_eq_getElem hlt, h2]
theorem opG_ok {ops : Array Oper} (hΦ : ∀ f as x a x', Φ.calls f as x a x' → Holds P f as x a x') (hT : TabOk P T) (hI : Inv w0 E I0 C st a w f)
  (hR : RunsN T by_ ann Φ m (opG T by_ ops st o K) r X) (next : Act → World → Prop) (Q : Exit → Act → World → Prop)
  (hn : ∀ m' st' a' w' C' f', m' ≤ m → RunsN T by_ ann Φ m' (K st') r X → Inv w0 E I0 C' st' a' w' f' → next a' w') :
  if Region.wanted o (yielded ops a.tmps) then o.wp P a w next Q ∨ (o.asks P a w ∧ LetsOut Q) else next (a.put o.dst undef) w := by
 unfold opG at hR
 split at hR
 ·rename_i hg
  have : Region.wanted o (yielded ops a.tmps) = true := by simp [Region.wanted, hg]
  rw [if_pos this]
  exact .inl (op1_goes hΦ hT hI hR next Q hn)
 ·rename_i j want hg
  split at hR
  ·exact hR.bad.elim
  rename_i t ht
  split at hR
  case h_3 => exact hR.bad.elim
  case h_2 =>
   rename_i b hb
   have hat := guard_at hI hb
   have hw : Region.wanted o (yielded ops a.tmps) = false := by
    simp [Region.wanted, hg, yielded, ht, hat]
   rw [hw]
   exact hn m _ _ _ _ _ (Nat.le_refl _) hR (hI.dst o.dst (x := .v (.tuple #[])) (v := undef) (.v z0))
  rename_i b hb
  obtain ⟨m', rfl, hR⟩ := hR.ask
  change RunsN T by_ ann Φ m' (if _ then _ else _) r X at hR
  have hat := guard_at hI hb
  have hI2 : Inv w0 E I0 C (st.dst (some t) (.v (.bool b))) a w f := by
   have := hI.dst (some t) (x := .v (.bool b)) (v := .bool b) (.v z0)
   rwa [act_put_same hat] at this
  have hw : Region.wanted o (yielded ops a.tmps) = (b == want) := by
   simp [Region.wanted, hg, yielded, ht, hat]
  rw [hw]
  split at hR
  ·rename_i hbw
   rw [if_pos (by simpa using hbw)]
   exact .inl (op1_goes hΦ hT hI2 hR next Q fun m1 st' a' w' C' f' h1 => hn m1 st' a' w' C' f' (by omega))
  ·rename_i hbw
   rw [if_neg (by simpa using hbw)]
   exact hn m' _ _ _ _ _ (by omega) hR (hI2.dst o.dst (x := .v (.tuple #[])) (v := undef) (.v z0))
theorem opsG_ok {ops : Array Oper} (hΦ : ∀ f as x a x', Φ.calls f as x a x' → Holds P f as x a x') (hT : TabOk P T) (Q : Exit → Act → World → Prop) :
  ∀ (n i : Nat) {m : Nat} {C : Ctx} {st : St} {a : Act} {w : World} {f : Nat → Nat}, i + n = ops.size → Inv w0 E I0 C st a w f → RunsN T by_ ann Φ m (opsG T by_ ops K (ops.toList.drop i) st) r X →
   (∀ m' st' a' w' C' f', m' ≤ m → RunsN T by_ ann Φ m' (K st') r X → Inv w0 E I0 C' st' a' w' f' → Q .normal a' w') → wpOps P ops Q (List.range' i n) a w := by
 intro n
 induction n with
 | zero =>
  intro i m C st a w f hin hI hR hQ
  rw [List.drop_eq_nil_of_le (by simp; omega)] at hR
  exact hQ m _ _ _ _ _ (Nat.le_refl _) hR hI
 | succ n ih =>
  intro i m C st a w f hin hI hR hQ
  have hlt : i < ops.size := by omega
  rw [List.drop_eq_getElem_cons (by simp; omega)] at hR
  simp only [opsG, Array.getElem_toList] at hR
  simp only [List.range'_succ, wpOps, Array.getElem?_eq_getElem hlt]
  exact opG_ok hΦ hT hI hR _ _ fun m' st' a' w' C' f' hm hR' hI' => ih (i + 1) (by omega) hI' hR' fun m1 st1 a1 w1 C1 f1 h1 => hQ m1 st1 a1 w1 C1 f1 (by omega)
theorem opsF_ok {ops : Array Oper} (hΦ : ∀ f as x a x', Φ.calls f as x a x' → Holds P f as x a x') (hT : TabOk P T) (Q : Exit → Act → World → Prop) :
  ∀ (n i : Nat) {m : Nat} {C : Ctx} {st : St} {a : Act} {w : World} {f : Nat → Nat}, i + n = ops.size → Inv w0 E I0 C st a w f → RunsN T by_ ann Φ m (opsF T by_ ops K (ops.toList.drop i) st) r X →
   (∀ m' st' a' w' C' f', m' ≤ m → RunsN T by_ ann Φ m' (K st') r X → Inv w0 E I0 C' st' a' w' f' → Q .normal a' w') → wpOps P ops Q (List.range' i n) a w := by
 intro n
 induction n using Nat.strongRecOn with
 | _ n ih =>
  intro i m C st a w f hin hI hR hQ
  match n, ih, hin with
  | 0, ih, hin =>
   rw [List.drop_eq_nil_of_le (by simp; omega)] at hR
   exact hQ m _ _ _ _ _ (Nat.le_refl _) hR hI
  | 1, ih, hin =>
   have hlt : i < ops.size := by omega
   rw [List.drop_eq_getElem_cons (by simp; omega), List.drop_eq_nil_of_le (by simp; omega)] at hR
   simp only [opsF, Array.getElem_toList] at hR
   simp only [List.range'_succ, List.range'_zero, wpOps, Array.getElem?_eq_getElem hlt]
   exact opG_ok hΦ hT hI hR _ _ fun m' st' a' w' C' f' hm hR' hI' => hQ m' st' a' w' C' f' hm hR' hI'
  | n + 2, ih, hin =>
   have hlt : i < ops.size := by omega
   have hlt2 : i + 1 < ops.size := by omega
   rw [List.drop_eq_getElem_cons (by simp; omega), List.drop_eq_getElem_cons (i := i + 1) (by simp; omega)] at hR
   simp only [opsF, Array.getElem_toList] at hR
   split at hR
   ·rename_i t ht
    obtain ⟨a1, w1, w2, st1, st2, C2, v, e1, ea, i1, e2, ep, i2, hR', g1, g2⟩ := alf_ok hT hI hR
    simp only [List.range'_succ, wpOps, Array.getElem?_eq_getElem hlt, Array.getElem?_eq_getElem hlt2]
    simp only [Region.wanted, g1, g2, if_true]
    left
    unfold Oper.wp
    rw [e1]
    show Oper.upon P ops[i + 1] (a.put ops[i].dst v) _ Q (Sem.run P (execOp (a.put ops[i].dst v).eval ops[i + 1]) w1) ∨ _
    rw [← ea, e2]
    left
    show wpOps P ops Q (List.range' (i + 1 + 1) n) (a1.put ops[i + 1].dst undef) w2
    rw [ep]
    exact ih n (by omega) (i + 1 + 1) (by omega) i2 hR' hQ
   ·have ed : ops.toList.drop (i + 1) = ops[i + 1] :: ops.toList.drop (i + 1 + 1) := by rw [List.drop_eq_getElem_cons (by simp; omega), Array.getElem_toList]
    rw [← ed] at hR
    rw [List.range'_succ]
    simp only [wpOps, Array.getElem?_eq_getElem hlt]
    exact opG_ok hΦ hT hI hR _ _ fun m' st' a' w' C' f' hm hR' hI' => ih (n + 1) (by omega) (i + 1) (by omega) hI' hR' fun m1 st1 a1 w1 C1 f1 h1 => hQ m1 st1 a1 w1 C1 f1 (by omega)
end
end Go.AM

namespace Go.AM
open Go
section
variable {C D : Ctx} {w : World}
theorem roL_eq (g : Id → Option Id) (l : List A) : roL g l = l.map (A.ro g) := by induction l with
 | nil => rfl
 | cons a l ih => simp [roL, ih]
theorem ro_cells (g : Id → Option Id) (a : A) : (a.ro g).cells = roL g a.cells := by
 cases a with
 | agg cs => rfl
 | ms b off len tot => cases h : g b <;> simp [A.ro, A.cells, roL, h]
 | ref b i o tot => cases h : g b <;> simp [A.ro, A.cells, roL, h]
 | _ => rfl
theorem flat_ro (g : Id → Option Id) (es : List A) : flat (roL g es) = roL g (flat es) := by
 induction es with
 | nil => rfl
 | cons a l ih => simp only [flat, roL, List.flatMap_cons] at *; rw [ih, ro_cells, roL_eq, roL_eq, roL_eq, List.map_append]
theorem RepL.ro {g : Id → Option Id} {l xs f} (h : RepL C w l xs f) (hI : ∀ b, C.I b → D.I b) (hF : D.F ≤ C.F) (hB : ∀ i j blk, g i = some j → C.B i = some blk → ReB C D i j blk) : RepL D w (roL g l) xs f := by
 induction h with
 | nil h => exact .nil h
 | any _ ih => exact .any (ih hI hF hB)
 | v _ ih => exact .v (ih hI hF hB)
 | ifc _ ih => exact .ifc (ih hI hF hB)
 | agg hf _ _ ih1 ih => exact .agg hf (ih1 hI hF hB) (ih hI hF hB)
 | tup hf _ _ ih1 ih => exact .tup hf (ih1 hI hF hB) (ih hI hF hB)
 | nils _ ih => exact .nils (ih hI hF hB)
 | sl hrow hsp hk hcap hsz hI' hs ho hf h1 _ _ ih => exact .sl hrow hsp hk hcap hsz (hI _ hI') hs ho hf (h1.re (D := D.bare) (fun _ => rfl) hI hF) (ih hI hF hB)
 | ow hrow hsp hk hcap hsz hF' hfz ho hf h1 _ _ ih => exact .ow hrow hsp hk hcap hsz hF' hfz ho hf (h1.re (D := D.bare) (fun _ => rfl) hI hF) (ih hI hF hB)
 | @ms _ _ b off len tot x r xs f blk hb h1 hm _ ih =>
  simp only [roL, A.ro]
  split
  ·rename_i c hc
   obtain ⟨blk', q1, q2⟩ := hB b c blk hc hb
   refine .ms q1 h1 (fun ho => ?_) (ih hI hF hB)
   obtain ⟨o, l, e⟩ := q2 ho
   obtain ⟨m1, m2⟩ := hm o
   refine ⟨by omega, fun et => ?_⟩
   obtain ⟨ek, em⟩ := e (by omega)
   have := m2 (by omega)
   rw [em]
   unfold MsOk at *
   rw [ek]; exact this
  ·exact .any (ih hI hF hB)
 | @ref _ _ b i o tot x r xs f blk hb h1 hm _ ih =>
  simp only [roL, A.ro]
  split
  ·rename_i c hc
   obtain ⟨blk', q1, q2⟩ := hB b c blk hc hb
   refine .ref q1 h1 (fun ho => ?_) (ih hI hF hB)
   obtain ⟨o, l, e⟩ := q2 ho
   obtain ⟨m1, m2⟩ := hm o
   refine ⟨by omega, fun et => ?_⟩
   obtain ⟨ek, em⟩ := e (by omega)
   have := m2 (by omega)
   rw [em]
   unfold RefOk at *
   rw [ek]; exact this
  ·exact .any (ih hI hF hB)
 | ptr hrow hsp hk hsz hI' hi ho hf h1 _ _ ih => exact .ptr hrow hsp hk hsz (hI _ hI') hi ho hf (h1.re (D := D.bare) (fun _ => rfl) hI hF) (ih hI hF hB)
 | fn hf1 hf2 _ _ _ ih1 ih2 ih => exact .fn hf1 hf2 (ih1 hI hF hB) (ih2 hI hF hB) (ih hI hF hB)
 | own hrow hsz hfz ho hp hf h1 _ _ ih => exact .own hrow hsz hfz ho hp hf (h1.re (D := D.bare) (fun _ => rfl) hI hF) (ih hI hF hB)
theorem BlkOk.ro {g : Id → Option Id} {i j : Id} {b : Blk} {fb : Nat → Nat} (h : BlkOk C w i b fb) (hμ : D.μ j = C.μ i) (hI : ∀ b, C.I b → D.I b) (hF : D.F ≤ C.F)
  (hB : ∀ i j blk, g i = some j → C.B i = some blk → ReB C D i j blk) : BlkOk D w j (b.ro g) fb := by
 obtain ⟨c, e, fz, h1, h2, h3, h4, h5, h6, h7, h8⟩ := h
 refine ⟨c, e, fz, by rw [hμ]; exact h1, ⟨h2.1, by rw [hμ]; exact h2.2⟩, ?_, ?_, by rw [hμ]; exact h5, h6, ?_, ?_⟩
 ·unfold Blk.ro
  intro x hx
  cases hb : b.box with
  | true =>
   rw [hb] at hx
   simp only [if_true] at hx
   rw [roL_eq] at hx
   obtain ⟨y, hy, rfl⟩ := List.mem_map.1 hx
   rw [ro_cells, roL_eq, List.length_map]
   exact h3 y hy
  | false =>
   rw [hb] at hx
   exact h3 x hx
 ·rw [hμ]
  unfold Blk.ro
  cases b.box <;> simp [roL_eq, h4]
 ·rw [hμ]
  unfold Blk.ro
  cases b.box <;> simpa [roL_eq] using h7
 ·rw [hμ]
  unfold Blk.ro
  cases hb : b.box with
  | true =>
   rw [hb] at h8
   simp only [if_true, Ctx.for_true] at h8 ⊢
   rw [flat_ro]
   have := h8.ro hI hF hB
   simpa [roL_eq] using this
  | false =>
   rw [hb] at h8
   simp only [Bool.false_eq_true, if_false, Ctx.for_false] at h8 ⊢
   exact h8.re (D := D.bare) (fun _ => rfl) hI hF
end
theorem findB_idx {α : Type} (F : α → Blk) : ∀ (bs : List α) (n k : Nat), findB (bs.mapIdx fun i b => (n + i, F b)) (n + k) = (bs[k]?).map F
 | [], n, k => by simp [findB]
 | b :: bs, n, k => by
  simp only [List.mapIdx_cons, Nat.add_zero, findB]
  cases k with
  | zero => simp
  | succ k =>
   rw [if_neg (by omega)]
   have := findB_idx F bs (n + 1) k
   simp only [List.getElem?_cons_succ]
   rw [← this, show n + (k + 1) = n + 1 + k by omega]
   have e : (fun (i : Nat) (b : α) => (n + (i + 1), F b)) = fun i b => (n + 1 + i, F b) := by
    funext i b
    rw [show n + (i + 1) = n + 1 + i by omega]
   rw [e]
section
variable {w0 : World} {E : Nat → Prop} {I0 : Ctx} {C : Ctx} {st : St} {a : Act} {w : World} {f g : Nat → Nat}
theorem canon_ok (h : Inv w0 E I0 C st a w f) {ids : List Id} {bs : List Blk} (hnd : ids.Nodup) (hloc : ∀ i ∈ ids, i.loc = true) (hbs : st.blks ids = some bs) :
  ∃ C' f', Inv w0 E I0 C' ⟨roL (canonG ids) st.env, bs.mapIdx fun i b => (i, b.ro (canonG ids)), st.ext.map (Blk.ro (canonG ids))⟩ a w f' := by
 obtain ⟨hbl, hget⟩ := blks_get hbs
 have hG := h.toG
 have each : ∀ (j : Nat) i, ids[j]? = some i → ∃ c, bs[j]? = some c ∧ st.raw i = some c ∧ C.B i = some c ∧ c.on = true := by
  intro j i hj
  obtain ⟨c, h1, h2⟩ := hget j i hj
  obtain ⟨h3, h4, h5⟩ := hG.get h2
  exact ⟨c, h1, h3, h4, h5⟩
 have fb : ∀ k, findB (bs.mapIdx fun i b => (i, b.ro (canonG ids))) k = (bs[k]?).map (Blk.ro (canonG ids)) := by
  intro k
  have := findB_idx (Blk.ro (canonG ids)) bs 0 k
  simpa using this
 obtain ⟨st', hst'⟩ : ∃ st' : St, st' = ⟨roL (canonG ids) st.env, bs.mapIdx fun i b => (i, b.ro (canonG ids)), st.ext.map (Blk.ro (canonG ids))⟩ := ⟨_, rfl⟩
 rw [← hst']
 obtain ⟨D, hD⟩ : ∃ D : Ctx, D = ⟨fun i => match i with | .l k => C.μ (ids.getD k (.x 0)) | .x j => C.μ (.x j), st'.raw, C.I, C.F⟩ := ⟨_, rfl⟩
 have hB : ∀ i j blk, canonG ids i = some j → C.B i = some blk → ReB C D i j blk := by
  intro i j blk h1 h2
  cases i with
  | x n =>
   simp [canonG] at h1
   subst h1
   rw [h.raw] at h2
   simp only [St.raw] at h2
   refine ⟨blk.ro (canonG ids), ?_, fun ho => ⟨ho, by unfold Blk.ro; cases blk.box <;> simp [roL_eq], fun _ => ⟨rfl, by rw [hD]⟩⟩⟩
   rw [hD, hst']
   simp [St.raw, h2]
  | l n =>
   simp only [canonG] at h1
   split at h1
   case isFalse => simp at h1
   rename_i hi
   simp at h1
   subst h1
   have hj := idxOf_get hi
   obtain ⟨c, h3, h4, h5, h6⟩ := each _ _ hj
   rw [h5] at h2; cases h2
   refine ⟨blk.ro (canonG ids), ?_, fun _ => ⟨h6, by unfold Blk.ro; cases blk.box <;> simp [roL_eq], fun _ => ⟨rfl, by rw [hD]; simp [hj]⟩⟩⟩
   rw [hD, hst']
   simp only [St.raw]
   rw [fb, h3]
   rfl
 have hm := h.mem
 unfold St.entries at hm
 obtain ⟨f1, f2, hf, m1, m2⟩ := hm.split
 have hu := h.uniq
 unfold St.entries at hu
 rw [List.map_append] at hu
 have hu1 := (List.nodup_append.1 hu).1
 have hperm := perm_of_raw hu1 hnd hbl (fun j i hj => by
  obtain ⟨c, h1, h2, _⟩ := each j i hj
  refine ⟨c, h1, ?_⟩
  have hl := hloc i (List.mem_of_getElem? hj)
  have := raw_entry h2
  unfold St.entries at this
  rcases List.mem_append.1 this with h3 | h3
  ·exact h3
  ·exfalso
   obtain ⟨q, hq, hq2⟩ := List.mem_mapIdx.1 h3
   simp only [Prod.mk.injEq] at hq2
   obtain ⟨rfl, -⟩ := hq2
   simp [Id.loc] at hl)
 obtain ⟨f3, f4, hf3, m3, m4⟩ := (m1.perm hperm).split
 have hF : D.F ≤ C.F := by rw [hD]; exact Nat.le_refl _
 have hI : ∀ b, C.I b → D.I b := by rw [hD]; exact fun _ h => h
 obtain ⟨f5, hf5, m5⟩ := m3.over (D := D) (w' := w) (l' := st'.mem.map fun p => ((.l p.1 : Id), p.2)) (by rw [hst']; simp [hbl]) (by
  intro j p q h1 h2
  rw [hst'] at h2
  simp only [List.getElem?_map, List.getElem?_mapIdx, Option.map_eq_some_iff] at h2
  obtain ⟨_, ⟨c, h3, rfl⟩, rfl⟩ := h2
  obtain ⟨i, c'⟩ := p
  rw [List.getElem?_zip_eq_some] at h1
  obtain ⟨h1, h4⟩ := h1
  simp only at h1 h4
  rw [h3] at h4; cases h4
  have hm : D.μ (.l j) = C.μ i := by rw [hD]; simp [h1]
  refine ⟨rfl, ?_, ?_⟩
  ·intro e1 e2
   simp only at e1 e2 ⊢
   refine ⟨?_, by rw [hm]; exact e2⟩
   unfold Blk.ro
   simp [e1, roL]
  ·intro fb hb
   exact .inr ⟨by simp only; rw [hm], fb, fun _ => Nat.le_refl _, hb.ro hm hI hF hB⟩)
 obtain ⟨f6, hf6, m6⟩ := m2.over (D := D) (w' := w) (l' := st'.ext.mapIdx fun j b => ((.x j : Id), b)) (by rw [hst']; simp) (by
  intro j p q h1 h2
  rw [hst'] at h2
  simp only [List.getElem?_map, List.getElem?_mapIdx, Option.map_eq_some_iff] at h1 h2
  obtain ⟨c, h3, rfl⟩ := h1
  obtain ⟨_, ⟨c', h4, rfl⟩, rfl⟩ := h2
  rw [h3] at h4; cases h4
  have hm : D.μ (.x j) = C.μ (.x j) := by rw [hD]
  refine ⟨rfl, ?_, ?_⟩
  ·intro e1 e2
   simp only at e1 e2 ⊢
   refine ⟨?_, by rw [hm]; exact e2⟩
   unfold Blk.ro
   simp [e1, roL]
  ·intro fb hb
   exact .inr ⟨by simp only; rw [hm], fb, fun _ => Nat.le_refl _, hb.ro hm hI hF hB⟩)
 have hle : ∀ n, f5 n + f6 n ≤ f n := fun n => by have := hf n; have := hf3 n; have := hf5 n; have := hf6 n; omega
 refine ⟨D, fun n => f5 n + f6 n, {
  defers := h.defers
  raw := fun i => by rw [hD]
  first := by rw [hD]; exact h.first
  firstX := by rw [hD]; exact h.firstX
  below := by rw [hD]; exact h.below
  old := by rw [hD]; exact h.old
  keep := by rw [hD]; exact h.keep
  ext0 := Ctx.ToX.trans h.firstX.symm h.ext0 fun j blk hb => by
   obtain ⟨b2, h2, h3⟩ := hB (.x j) (.x j) blk rfl hb
   refine ⟨b2, h2, fun ho => ?_⟩
   obtain ⟨q1, q2, q3⟩ := h3 ho
   exact ⟨q1, q2, q3, .inl (by rw [hD])⟩
  extOn := by
   rw [hst']
   intro b hb
   obtain ⟨c, hc, rfl⟩ := List.mem_map.1 hb
   exact h.extOn c hc
  uniq := by
   unfold St.entries
   rw [hst']
   simp only [List.map_append, List.map_map]
   have e1 : ∀ l : List Blk, ((l.mapIdx fun i b => (i, b.ro (canonG ids))).map ((fun x => x.1) ∘ fun p : Nat × Blk => ((.l p.1 : Id), p.2))) = (List.range l.length).map Id.l := by
    intro l
    apply List.ext_getElem?
    intro i
    simp only [List.getElem?_map, List.getElem?_mapIdx, Option.map_map]
    by_cases hi : i < l.length <;> simp [hi]
   have e2 : ∀ l : List Blk, ((l.mapIdx fun j b => ((.x j : Id), b)).map (·.1)) = (List.range l.length).map Id.x := by
    intro l
    apply List.ext_getElem?
    intro i
    simp only [List.getElem?_map, List.getElem?_mapIdx, Option.map_map]
    by_cases hi : i < l.length <;> simp [hi]
   rw [e1, e2]
   refine List.nodup_append.2 ⟨?_, ?_, ?_⟩
   ·exact List.Pairwise.map _ (fun a b h => by intro e; cases e; exact h rfl) List.nodup_range
   ·exact List.Pairwise.map _ (fun a b h => by intro e; cases e; exact h rfl) List.nodup_range
   ·intro a ha b hb e
    obtain ⟨_, _, rfl⟩ := List.mem_map.1 ha
    obtain ⟨_, _, rfl⟩ := List.mem_map.1 hb
    cases e
  env := by
   have := h.env.ro hI hF hB
   rw [hst']
   exact this
  mem := by
   unfold St.entries
   exact m5.app m6 fun _ => rfl
  one := fun n => Nat.le_trans (hle n) (h.one n)
  own := fun n hn => by
   have := h.own n (Nat.le_trans hn (hle n))
   rw [hD]
   exact this
  same := h.same }⟩
theorem Inv.canon (h : Inv w0 E I0 C st a w f) : ∃ C' f', Inv w0 E I0 C' st.canon a w f' := by
 unfold St.canon canonV
 cases hb : st.blks st.canonIds with
 | none => exact ⟨C, f, h⟩
 | some bs =>
  refine canon_ok h ?_ ?_ hb
  ·unfold St.canonIds
   exact List.Pairwise.filter _ (idsAdd_nodup _ _ (idsAdd_nodup _ _ List.nodup_nil))
  ·intro i hi
   unfold St.canonIds at hi
   have := (List.mem_filter.1 hi).2
   simp only [Bool.and_eq_true] at this
   exact this.1
end
end Go.AM

namespace Go.AM
open Go
section
variable {C D : Ctx} {w : World} {st : St} {ks : List Nat}
theorem RepL.kept {p : Id → Bool} {l xs f} (h : RepL C w l xs f) (hp : okIL p l = true) (hI : D.I = C.I) (hF : D.F = C.F) (hμ : D.μ = C.μ)
  (hB : ∀ i blk, p i = true → C.B i = some blk → ∃ blk', D.B i = some blk' ∧ blk'.on = blk.on ∧ blk'.es.length = blk.es.length ∧ blk'.k = blk.k) : RepL D w l xs f := by
 have bare : C.bare.To D.bare := ⟨fun b hb => by show D.I b; rw [hI]; exact hb, hF, fun i blk h => by cases h⟩
 induction h with
 | nil h => exact .nil h
 | any _ ih => exact .any (ih (by simpa [okIL, A.okI] using hp) hI hF hμ hB bare)
 | v _ ih => exact .v (ih (by simpa [okIL, A.okI] using hp) hI hF hμ hB bare)
 | ifc _ ih => exact .ifc (ih (by simpa [okIL, A.okI] using hp) hI hF hμ hB bare)
 | agg hf _ _ ih1 ih =>
  simp only [okIL, A.okI, Bool.and_eq_true] at hp
  exact .agg hf (ih1 hp.1 hI hF hμ hB bare) (ih hp.2 hI hF hμ hB bare)
 | tup hf _ _ ih1 ih =>
  simp only [okIL, A.okI, Bool.and_eq_true] at hp
  exact .tup hf (ih1 hp.1 hI hF hμ hB bare) (ih hp.2 hI hF hμ hB bare)
 | nils _ ih => exact .nils (ih (by simpa [okIL, A.okI] using hp) hI hF hμ hB bare)
 | sl hrow hsp hk hcap hsz hI' hs ho hz h1 _ _ ih =>
  exact .sl hrow hsp hk hcap hsz (by rw [hI]; exact hI') hs ho hz (h1.to bare) (ih (by simpa [okIL, A.okI] using hp) hI hF hμ hB bare)
 | ow hrow hsp hk hcap hsz hF' hfz ho he h1 _ _ ih =>
  exact .ow hrow hsp hk hcap hsz hF' hfz ho he (h1.to bare) (ih (by simpa [okIL, A.okI] using hp) hI hF hμ hB bare)
 | ms hb h1 hm _ ih =>
  simp only [okIL, A.okI, Bool.and_eq_true] at hp
  obtain ⟨blk', hb', e1, e2, e3⟩ := hB _ _ hp.1 hb
  refine .ms hb' h1 (fun ho => ?_) (ih hp.2 hI hF hμ hB bare)
  rw [e1] at ho
  obtain ⟨m1, m2⟩ := hm ho
  refine ⟨by omega, fun et => ?_⟩
  have := m2 (by omega)
  unfold MsOk at *
  rw [hμ, e3]
  exact this
 | ref hb h1 hm _ ih =>
  simp only [okIL, A.okI, Bool.and_eq_true] at hp
  obtain ⟨blk', hb', e1, e2, e3⟩ := hB _ _ hp.1 hb
  refine .ref hb' h1 (fun ho => ?_) (ih hp.2 hI hF hμ hB bare)
  rw [e1] at ho
  obtain ⟨m1, m2⟩ := hm ho
  refine ⟨by omega, fun et => ?_⟩
  have := m2 (by omega)
  unfold RefOk at *
  rw [hμ, e3]
  exact this
 | ptr hrow hsp hk hsz hI' hi ho hz h1 _ _ ih =>
  exact .ptr hrow hsp hk hsz (by rw [hI]; exact hI') hi ho hz (h1.to bare) (ih (by simpa [okIL, A.okI] using hp) hI hF hμ hB bare)
 | fn hf1 hf2 _ _ _ ih1 ih2 ih =>
  simp only [okIL, A.okI, Bool.and_eq_true] at hp
  exact .fn hf1 hf2 (ih1 hp.1.1 hI hF hμ hB bare) (ih2 hp.1.2 hI hF hμ hB bare) (ih hp.2 hI hF hμ hB bare)
 | own hrow hsz hfz ho hp' he h1 _ _ ih =>
  exact .own hrow hsz hfz ho hp' he (h1.to bare) (ih (by simpa [okIL, A.okI] using hp) hI hF hμ hB bare)
theorem keepC_rep {a : A} {x : Value} (h : Rep1 C w a x fun _ => 0) (hI : D.I = C.I) (hF : D.F = C.F) (hμ : D.μ = C.μ)
  (hB : ∀ i blk, st.kept ks i = true → C.B i = some blk → ∃ blk', D.B i = some blk' ∧ blk'.on = blk.on ∧ blk'.es.length = blk.es.length ∧ blk'.k = blk.k) : Rep1 D w (keepC st ks a) x fun _ => 0 := by
 unfold keepC
 split
 ·rename_i hp
  exact RepL.kept h (by simp [okIL, hp]) hI hF hμ hB
 ·exact .any z0
theorem keepL_rep (hI : D.I = C.I) (hF : D.F = C.F) (hμ : D.μ = C.μ)
  (hB : ∀ i blk, st.kept ks i = true → C.B i = some blk → ∃ blk', D.B i = some blk' ∧ blk'.on = blk.on ∧ blk'.es.length = blk.es.length ∧ blk'.k = blk.k) :
  ∀ {l : List A} {xs : List Value}, (RepL C w l xs fun _ => 0) → RepL D w (l.map (keepC st ks)) xs fun _ => 0
 | [], xs, h => by cases h; exact z0
 | a :: l, xs, h => by
  obtain ⟨x, ys, rfl, h1, h2⟩ := h.cons0
  exact (keepC_rep h1 hI hF hμ hB).cons0 (keepL_rep hI hF hμ hB h2)
theorem keepEnv_rep (keep : List Nat) : ∀ {l : List A} {xs : List Value} (n : Nat), (RepL C w l xs fun _ => 0) → RepL C w (keepEnv keep n l) xs fun _ => 0
 | [], xs, n, h => by cases h; exact z0
 | a :: l, xs, n, h => by
  obtain ⟨x, ys, rfl, h1, h2⟩ := h.cons0
  have : Rep1 C w (if keep.contains n then a else .any) x fun _ => 0 := by
   split
   ·exact h1
   ·exact .any z0
  exact this.cons0 (keepEnv_rep keep (n + 1) h2)
theorem keepCells_cells (a : A) : (keepCells st ks a).cells = a.cells.map (keepC st ks) := by
 unfold keepCells
 split
 ·rfl
 ·rename_i hna
  have ha : a.cells = [a] := by cases a <;> first | rfl | exact (hna _ rfl).elim
  rw [ha]
  unfold keepC
  split
  ·simp [ha, *]
  ·simp [A.cells, *]
theorem keepCells_flat (es : List A) : flat (es.map (keepCells st ks)) = (flat es).map (keepC st ks) := by
 induction es with
 | nil => rfl
 | cons a l ih =>
  simp only [flat, List.map_cons, List.flatMap_cons, List.map_append] at *
  rw [ih, keepCells_cells]
theorem Blk.keep_on (b : Blk) : (b.keep st ks).on = b.on := by unfold Blk.keep; split <;> rfl
theorem Blk.keep_k (b : Blk) : (b.keep st ks).k = b.k := by unfold Blk.keep; split <;> rfl
theorem Blk.keep_box (b : Blk) : (b.keep st ks).box = b.box := by unfold Blk.keep; split <;> rfl
theorem Blk.keep_len (b : Blk) : (b.keep st ks).es.length = b.es.length := by unfold Blk.keep; split <;> simp
theorem BlkOk.keep {i : Id} {b : Blk} {f : Nat → Nat} (h : BlkOk C w i b f) (hI : D.I = C.I) (hF : D.F = C.F) (hμ : D.μ = C.μ)
  (hB : ∀ i blk, st.kept ks i = true → C.B i = some blk → ∃ blk', D.B i = some blk' ∧ blk'.on = blk.on ∧ blk'.es.length = blk.es.length ∧ blk'.k = blk.k) : BlkOk D w i (b.keep st ks) f := by
 obtain ⟨c, e, fz, h1, h2, h3, h4, h5, hx, h6, h7⟩ := h
 have bare : C.bare.To D.bare := ⟨fun b hb => by show D.I b; rw [hI]; exact hb, hF, fun i blk h => by cases h⟩
 refine ⟨c, e, fz, by rw [hμ]; exact h1, ⟨h2.1, by rw [hμ]; exact h2.2⟩, ?_, by rw [hμ, Blk.keep_len]; exact h4, by rw [hμ, Blk.keep_k]; exact h5, by rw [Blk.keep_box]; exact hx, by rw [hμ, Blk.keep_len, Blk.keep_k]; exact h6, ?_⟩
 ·intro x hx
  rw [Blk.keep_k]
  unfold Blk.keep at hx
  split at hx
  ·simp only [List.mem_map] at hx
   obtain ⟨y, hy, rfl⟩ := hx
   rw [keepCells_cells, List.length_map]
   exact h3 y hy
  ·exact h3 x hx
 ·rw [hμ, Blk.keep_len, Blk.keep_k, Blk.keep_box]
  unfold Blk.keep
  cases hbx : b.box with
  | false =>
   rw [if_neg (by simp)]
   rw [hbx] at h7
   exact h7.to bare
  | true =>
   rw [if_pos rfl]
   simp only [keepCells_flat]
   rw [hbx] at h7
   exact (keepL_rep hI hF hμ hB (RepL.congr h7 fun n => (hx hbx n).symm)).congr fun n => hx hbx n
theorem MemR.keep (hI : D.I = C.I) (hF : D.F = C.F) (hμ : D.μ = C.μ)
  (hB : ∀ i blk, st.kept ks i = true → C.B i = some blk → ∃ blk', D.B i = some blk' ∧ blk'.on = blk.on ∧ blk'.es.length = blk.es.length ∧ blk'.k = blk.k) (q : Id × Blk → Bool) {l : List (Id × Blk)} {f : Nat → Nat} (h : MemR C w l f) :
  ∃ f', (∀ n, f' n ≤ f n) ∧ MemR D w ((l.filter q).map fun p => (p.1, p.2.keep st ks)) f' := by
 induction h with
 | nil h => exact ⟨fun _ => 0, fun n => Nat.zero_le _, .nil fun _ => rfl⟩
 | @off i b r f ho _ ih =>
  obtain ⟨f', hf', h'⟩ := ih
  refine ⟨f', hf', ?_⟩
  rw [List.filter_cons]
  split
  ·exact .off (by rw [Blk.keep_on]; exact ho) h'
  ·exact h'
 | @nul i b r f ho he hc _ ih =>
  obtain ⟨f', hf', h'⟩ := ih
  refine ⟨f', hf', ?_⟩
  rw [List.filter_cons]
  split
  ·exact .nul (by rw [Blk.keep_on]; exact ho) (List.length_eq_zero_iff.1 (by rw [Blk.keep_len, he]; rfl)) (by rw [hμ]; exact hc) h'
  ·exact h'
 | @row i b r f f1 f2 ho hb hf _ ih =>
  obtain ⟨f', hf', h'⟩ := ih
  rw [List.filter_cons]
  split
  ·exact ⟨fun n => (if n = (D.μ i).blk then 1 else 0) + f1 n + f' n, fun n => by have := hf' n; have := hf n; rw [hμ]; show _ + _ + _ ≤ _; omega,
    .row (by rw [Blk.keep_on]; exact ho) (hb.keep hI hF hμ hB) (fun _ => rfl) h'⟩
  ·exact ⟨f', fun n => by have := hf' n; have := hf n; omega, h'⟩
end
section
variable {w0 : World} {E : Nat → Prop} {I0 : Ctx} {C : Ctx} {st : St} {a : Act} {w : World} {f : Nat → Nat}
theorem findB_keep {ks : List Nat} {k : Nat} {b : Blk} : ∀ {m : List (Nat × Blk)}, findB m k = some b → b.on = true → ks.contains k = true →
  findB ((m.filter fun p => p.2.on && ks.contains p.1).map fun p => (p.1, p.2.keep st ks)) k = some (b.keep st ks)
 | [], h, _, _ => by simp [findB] at h
 | (j, c) :: m, h, ho, hk => by
  simp only [findB] at h
  by_cases e : j = k
  ·subst e
   rw [if_pos rfl] at h
   simp at h
   subst h
   rw [List.filter_cons, if_pos (by simp only [ho, hk, Bool.and_self])]
   simp [findB]
  ·rw [if_neg e] at h
   have := findB_keep h ho hk
   rw [List.filter_cons]
   split
   ·simp only [List.map_cons, findB, if_neg e]
    exact this
   ·exact this
theorem mapIdx_keep (ks : List Nat) : ∀ (l : List Blk), (l.map (Blk.keep st ks)).mapIdx (fun j b => ((.x j : Id), b)) = (l.mapIdx (fun j b => ((.x j : Id), b))).map fun p => (p.1, p.2.keep st ks) := by
 intro l
 apply List.ext_getElem?
 intro i
 simp [List.getElem?_mapIdx]
 cases l[i]? <;> rfl
def keepQ (ks : List Nat) : Id × Blk → Bool
 | (.l k, b) => b.on && ks.contains k
 | (.x _, _) => true
theorem only_entries (e : List A) (ks : List Nat) : (st.onlyK e ks).entries = (st.entries.filter (keepQ ks)).map fun p => (p.1, p.2.keep st ks) := by
 unfold St.entries St.onlyK
 simp only
 rw [List.filter_append, List.map_append, mapIdx_keep]
 congr 1
 ·induction st.mem with
  | nil => rfl
  | cons p m ih =>
   by_cases hq : (p.2.on && ks.contains p.1) = true
   ·have hq2 : keepQ ks (.l p.1, p.2) = true := hq
    simp only [List.map_cons, List.filter_cons]
    rw [if_pos hq, if_pos hq2]
    simp only [List.map_cons, ih]
   ·have hq2 : ¬ keepQ ks (.l p.1, p.2) = true := hq
    simp only [List.map_cons, List.filter_cons]
    rw [if_neg hq, if_neg hq2]
    exact ih
 ·congr 1
  symm
  rw [List.filter_eq_self]
  intro p hp
  obtain ⟨i, hi, rfl⟩ := List.mem_mapIdx.1 hp
  rfl
theorem Inv.onlyK (h : Inv w0 E I0 C st a w f) {e : List A} (ks : List Nat) (he : RepL C w e a.tmps.toList fun _ => 0) :
  ∃ C' f', Inv w0 E I0 C' (st.onlyK e ks) a w f' := by
 obtain ⟨D, hD⟩ : ∃ D : Ctx, D = { C with B := fun i => (st.onlyK e ks).raw i } := ⟨_, rfl⟩
 have hI : D.I = C.I := by rw [hD]
 have hF : D.F = C.F := by rw [hD]
 have hμ : D.μ = C.μ := by rw [hD]
 have hB : ∀ i blk, st.kept ks i = true → C.B i = some blk → ∃ blk', D.B i = some blk' ∧ blk'.on = blk.on ∧ blk'.es.length = blk.es.length ∧ blk'.k = blk.k := by
  intro i blk hi hb
  rw [h.raw] at hb
  refine ⟨blk.keep st ks, ?_, Blk.keep_on _, Blk.keep_len _, Blk.keep_k _⟩
  rw [hD]
  cases i with
  | l k =>
   simp only [St.kept, Bool.and_eq_true] at hi
   obtain ⟨h1, h2⟩ := hi
   simp only [St.raw] at hb ⊢
   have hon : blk.on = true := by
    unfold getB at h1
    rw [hb] at h1
    simpa using h1
   exact findB_keep hb hon h2
  | x j =>
   simp only [St.raw] at hb ⊢
   simp only [St.onlyK, List.getElem?_map, hb]
   rfl
 obtain ⟨f', hf', hm⟩ := h.mem.keep hI hF hμ hB (keepQ ks)
 refine ⟨D, f', {
  defers := h.defers
  raw := fun i => by rw [hD]
  first := by rw [hF]; exact h.first
  firstX := by rw [hF]; exact h.firstX
  below := by rw [hI]; exact h.below
  old := by rw [hI]; exact h.old
  keep := by rw [hI]; exact h.keep
  ext0 := fun j blk hb => by
   obtain ⟨b1, h1, g1⟩ := h.ext0 j blk hb
   obtain ⟨b2, h2, e1, e2, e3⟩ := hB (.x j) b1 rfl h1
   refine ⟨b2, h2, fun ho => ?_⟩
   obtain ⟨o0, l0, e0, m0⟩ := g1 (by rw [← e1]; exact ho)
   refine ⟨o0, by omega, fun e => ?_, by rw [hμ]; exact m0⟩
   obtain ⟨a, b⟩ := e0 (by omega)
   exact ⟨e3.trans a, by rw [hμ]; exact b⟩
  extOn := by
   intro b hb
   obtain ⟨c, hc, rfl⟩ := List.mem_map.1 hb
   rw [Blk.keep_on]
   exact h.extOn c hc
  uniq := by
   rw [only_entries, List.map_map]
   exact List.Sublist.nodup (List.Sublist.map _ List.filter_sublist) h.uniq
  env := keepL_rep hI hF hμ hB he
  mem := by rw [only_entries]; exact hm
  one := fun b => Nat.le_trans (hf' b) (h.one b)
  own := fun b hb => by
   rw [hI]
   exact h.own b (Nat.le_trans hb (hf' b))
  same := h.same }⟩
theorem Inv.only (h : Inv w0 E I0 C st a w f) (keep : List Nat) : ∃ C' f', Inv w0 E I0 C' (st.only keep) a w f' :=
 let ⟨_, _, h1⟩ := h.onlyK _ (keepEnv_rep keep 0 h.env)
 h1.canon
end
end Go.AM

namespace Go.AM
open Go
section
variable {P : Program} {ops : Array Oper} {Q : Exit → Act → World → Prop} {J : World → Prop}
def YieldsJ (P : Program) (ops : Array Oper) (J : World → Prop) (o : Oper) (v : Value) (a : Act) : Prop :=
 (Region.wanted o (yielded ops a.tmps) = true ∧ ∀ w, J w → (execOp a.eval o).run P w = .ok (.value v) w) ∨ (Region.wanted o (yielded ops a.tmps) = false ∧ v = undef)
theorem yieldsJ_of {o : Oper} {v : Value} {a : Act} (h : Yields P ops o v a) : YieldsJ P ops J o v a := h.imp (fun h => ⟨h.1, fun w _ => h.2 w⟩) id
def wpAnyJ (P : Program) (ops : Array Oper) (Q : Exit → Act → World → Prop) (J : World → Prop) : Nat → Array Bool → Act → World → Prop
 | 0, listed, a, w => J w ∧ Region.ready .any ops listed = [] ∧ Q .normal a w
 | n + 1, listed, a, w => J w ∧ (Region.ready .any ops listed = [] → Q .normal a w) ∧ ∀ i ∈ Region.ready .any ops listed, wpOp P ops Q i (wpAnyJ P ops Q J n (listed.setIfInBounds i true)) a w
theorem wpAnyJ_any : ∀ {n : Nat} {listed : Array Bool} {a : Act} {w : World}, wpAnyJ P ops Q J n listed a w → wpAny P .any ops Q n listed a w
 | 0, _, _, _, h => h.2
 | _ + 1, _, _, _, h => ⟨h.2.1, fun i hi => wpOp_mono (fun _ _ h => wpAnyJ_any h) (h.2.2 i hi)⟩
theorem wpAnyJ_mono {J' : World → Prop} (hJ : ∀ w, J w → J' w) : ∀ {n : Nat} {listed : Array Bool} {a : Act} {w : World}, wpAnyJ P ops Q J n listed a w → wpAnyJ P ops Q J' n listed a w
 | 0, _, _, _, h => ⟨hJ _ h.1, h.2⟩
 | _ + 1, _, _, _, h => ⟨hJ _ h.1, h.2.1, fun i hi => wpOp_mono (fun _ _ h => wpAnyJ_mono hJ h) (h.2.2 i hi)⟩
theorem wpOp_yield {i : Nat} {o : Oper} {v : Value} {a : Act} {w : World} {K : Act → World → Prop} (hi : ops[i]? = some o) (hy : YieldsJ P ops J o v a) (hJ : J w) (h : K (a.put o.dst v) w) : wpOp P ops Q i K a w := by
 unfold wpOp
 rw [hi]
 rcases hy with ⟨hw, hv⟩ | ⟨hw, rfl⟩
 ·simp only [hw, if_true]
  left
  unfold Oper.wp
  rw [hv w hJ]
  exact h
 ·simp only [hw, Bool.false_eq_true, if_false]
  exact h
theorem wpOp_sep {j : Nat} {oi oj : Oper} {v : Value} {R : Act → Prop} (hj : ops[j]? = some oj) (hap : oi.apart ops oj = true) (hs : ∀ cs b, oj.op ≠ .select cs b)
  (hR1 : ∀ a u, R a → R (a.put oj.dst u)) (hR2 : ∀ a d, R a → R { a with defers := d :: a.defers }) (hQ : ∀ c a w, Q (.panic c) (a.put oi.dst v) w → Q (.panic c) a w)
  {K : Act → World → Prop} {a : Act} {w : World} (hr : R a) (h : wpOp P ops Q j K (a.put oi.dst v) w) : wpOp P ops Q j (fun a' w' => R a' ∧ K (a'.put oi.dst v) w') a w := by
 obtain ⟨p1, p2, _⟩ := Oper.apart_spec hap
 have hx := execOp_put oj hs a oi.dst v p1
 have pc : ∀ (a : Act) (u : Value), (a.put oi.dst v).put oj.dst u = (a.put oj.dst u).put oi.dst v := fun a u => Act.put_comm a v u p2
 unfold wpOp at h ⊢
 rw [hj] at h ⊢
 simp only [wanted_put oj a oi.dst v p1] at h
 by_cases hw : Region.wanted oj (yielded ops a.tmps) = true
 ·simp only [hw, if_true] at h ⊢
  rcases h with h | ⟨h, hl⟩
  ·left
   unfold Oper.wp at h ⊢
   rw [hx] at h
   cases hrun : (execOp a.eval oj).run P w with
   | halt y w' =>
    rw [hrun] at h
    cases y <;> first | exact h | exact hQ _ _ _ h
   | ok n w' =>
    rw [hrun] at h
    cases n with
    | value u => exact ⟨hR1 _ _ hr, by have h : K ((a.put oi.dst v).put oj.dst u) w' := h; rw [pc] at h; exact h⟩
    | skip => exact ⟨hR1 _ _ hr, by have h : K ((a.put oi.dst v).put oj.dst undef) w' := h; rw [pc] at h; exact h⟩
    | defer d =>
     refine ⟨hR1 _ _ (hR2 _ _ hr), ?_⟩
     simp only [Oper.upon] at h
     rw [← pc, ← Act.put_defers]
     exact h
    | enter g args =>
     simp only [Oper.upon] at h ⊢
     refine Calls.mono h fun e w2 he => ?_
     cases e with
     | returned u => exact ⟨hR1 _ _ hr, by rw [← pc]; exact he⟩
     | panicked c => exact hQ _ _ _ he
     | outgrown => exact he
    | row q args =>
     simp only [Oper.upon] at h ⊢
     exact Rows.mono h fun u w2 he => ⟨hR1 _ _ hr, by rw [← pc]; exact he⟩
    | _ => exact h
  ·right
   refine ⟨?_, hl⟩
   unfold Oper.asks at h ⊢
   rw [hx] at h
   exact h
 ·simp only [hw] at h ⊢
  exact ⟨hR1 _ _ hr, by rw [← pc]; exact h⟩
theorem wpAnyJ_first {i : Nat} {oi : Oper} {v : Value} (hi : ops[i]? = some oi) (hs : Region.noSelect ops = true) (hQ : ∀ c a w, Q (.panic c) (a.put oi.dst v) w → Q (.panic c) a w) :
  ∀ (n : Nat) (listed : Array Bool) (a : Act) (w : World),
   (∀ j oj, ops[j]? = some oj → j ≠ i → listed.getD j true = false → (∀ e ∈ oj.after, Region.binds .any e = true → e.on ≠ i) → oi.apart ops oj = true) →
   i ∈ Region.ready .any ops listed → YieldsJ P ops J oi v a → wpAnyJ P ops Q J n (listed.setIfInBounds i true) (a.put oi.dst v) w → wpAnyJ P ops Q J (n + 1) listed a w := by
 intro n
 have hsel := Region.noSelect_spec hs
 induction n with
 | zero =>
  intro listed a w _ hr hy H
  refine ⟨H.1, fun h => (by rw [h] at hr; cases hr), fun j hj => ?_⟩
  rcases Decidable.em (j = i) with rfl | hji
  ·exact wpOp_yield hi hy H.1 H
  ·have := ready_mono hj hji
   rw [H.2.1] at this
   cases this
 | succ n ih =>
  intro listed a w hfree hr hy H
  refine ⟨H.1, fun h => (by rw [h] at hr; cases hr), fun j hj => ?_⟩
  rcases Decidable.em (j = i) with rfl | hji
  ·exact wpOp_yield hi hy H.1 H
  ·obtain ⟨hun, oj, hoj, hall⟩ := mem_ready.1 hj
   have hiun := (mem_ready.1 hr).1
   have hno : ∀ e ∈ oj.after, Region.binds .any e = true → e.on ≠ i := by
    intro e he hb heq
    have h1 := hall e he hb
    rw [heq] at h1
    have h2 : listed.getD i true = true := by
     rw [Array.getD_eq_getD_getElem?] at h1 ⊢
     cases hx : listed[i]? with
     | none => rfl
     | some b => rw [hx] at h1; exact h1
    rw [h2] at hiun
    cases hiun
   have hap := hfree j oj hoj hji hun hno
   obtain ⟨q1, q2, q3⟩ := Oper.apart_spec hap
   have stay : ∀ (a a' : Act), execOp a'.eval oi = execOp a.eval oi → Region.wanted oi (yielded ops a'.tmps) = Region.wanted oi (yielded ops a.tmps) → YieldsJ P ops J oi v a → YieldsJ P ops J oi v a' := by
    intro a a' e1 e2 h
    unfold YieldsJ at *
    rw [e1, e2]
    exact h
   have h2 := wpOp_sep (R := YieldsJ P ops J oi v) hoj hap (fun cs b => hsel j oj cs b hoj) (fun a u => stay a _ (execOp_put oi (fun cs b => hsel i oi cs b hi) a oj.dst u q3) (wanted_put oi a oj.dst u q3)) (fun a d => stay a _ rfl rfl) hQ hy
    (H.2.2 j (ready_mono hj hji))
   refine wpOp_mono (fun a' w' h3 => ih (listed.setIfInBounds j true) a' w' ?_ (ready_mono hr (Ne.symm hji)) h3.1 ?_) h2
   ·intro k ok hk hki hkun hkno
    refine hfree k ok hk hki ?_ hkno
    rcases Decidable.em (j = k) with rfl | hjk
    ·exact hun
    ·rw [getD_set_ne true hjk] at hkun; exact hkun
   ·rw [Array.setIfInBounds_comm _ _ hji]
    exact h3.2
theorem wpAnyJ_take {i : Nat} {oi : Oper} {v : Value} {n : Nat} {listed : Array Bool} {a : Act} {w : World} (hi : ops[i]? = some oi) (hs : Region.noSelect ops = true) (hf : Region.free .any ops listed i = true)
  (hr : (Region.ready .any ops listed).contains i = true) (hQ : ∀ c a w, Q (.panic c) (a.put oi.dst v) w → Q (.panic c) a w) (hy : YieldsJ P ops J oi v a)
  (h : wpAnyJ P ops Q J n (listed.setIfInBounds i true) (a.put oi.dst v) w) : wpAnyJ P ops Q J (n + 1) listed a w :=
 wpAnyJ_first hi hs hQ n listed a w (Region.free_spec hi hf) (by simpa using hr) hy h
theorem wpAnyJ_all {rs : List Nat} {n : Nat} {listed : Array Bool} {a : Act} {w : World} (hJ : J w) (hr : Region.ready .any ops listed = rs) (hne : rs ≠ [])
  (h : ∀ i ∈ rs, wpOp P ops Q i (wpAnyJ P ops Q J n (listed.setIfInBounds i true)) a w) : wpAnyJ P ops Q J (n + 1) listed a w := ⟨hJ, fun h0 => absurd (hr ▸ h0) hne, hr ▸ h⟩
theorem wpAnyJ_done {listed : Array Bool} {a : Act} {w : World} (hJ : J w) (hr : Region.ready .any ops listed = []) (h : Q .normal a w) : ∀ n, wpAnyJ P ops Q J n listed a w
 | 0 => ⟨hJ, hr, h⟩
 | _ + 1 => ⟨hJ, fun _ => h, by rw [hr]; simp⟩
end
end Go.AM

namespace Go.AM
open Go
def stillOp : Op → Bool
 | .move _ | .assign _ | .pick .. | .binOp .. | .unOp .. | .fieldAddr .. | .field .. | .indexAddr .. | .index .. | .extract .. | .makeFunc .. | .nilCheck _ => true
 | .call c => match c.callee with | .builtin .len => true | _ => false
 | _ => false
def stillAt (ops : Array Oper) (i : Nat) : Bool := match ops[i]? with | some o => stillOp o.op | none => false
def loadAt (ops : Array Oper) (i : Nat) : Bool := match ops[i]? with
 | some o => (match o.op with | .load .. => true | _ => false)
 | none => false
def convAt (ops : Array Oper) (i : Nat) : Bool := match ops[i]? with
 | some o => (match o.op with | .convert .. => true | _ => false)
 | none => false
def ldsOk (ops : Array Oper) : List Nat → Nat → Array Bool → Option (Nat × Array Bool)
 | [], n, listed => some (n, listed)
 | i :: r, n, listed => if (n != 0 && loadAt ops i && Region.free .any ops listed i && (Region.ready .any ops listed).contains i) = true then ldsOk ops r (n - 1) (listed.setIfInBounds i true) else none
def Sched.ok (ops : Array Oper) : Sched → Nat → Option (List Nat) → Array Bool → Bool
 | .fin, _, q, listed => q.isNone && (Region.ready .any ops listed).isEmpty
 | .take i s, n, q, listed => q.isNone && n != 0 && stillAt ops i && Region.free .any ops listed i && (Region.ready .any ops listed).contains i && s.ok ops (n - 1) none (listed.setIfInBounds i true)
 | .ld i s, n, q, listed => q.isNone && n != 0 && loadAt ops i && Region.free .any ops listed i && (Region.ready .any ops listed).contains i && s.ok ops (n - 1) none (listed.setIfInBounds i true)
 | .cv i s, n, q, listed => q.isNone && n != 0 && convAt ops i && Region.free .any ops listed i && (Region.ready .any ops listed).contains i && s.ok ops (n - 1) none (listed.setIfInBounds i true)
 | .lds _ is s, n, q, listed => q.isNone && (match ldsOk ops is n listed with
  | some (n', l') => s.ok ops n' none l'
  | none => false)
 | .alt i s rest, n, q, listed => n != 0 && (match q with
  | none => match Region.ready .any ops listed with
   | j :: js => j == i && s.ok ops (n - 1) none (listed.setIfInBounds i true) && rest.ok ops n (some js) listed
   | [] => false
  | some (j :: js) => j == i && s.ok ops (n - 1) none (listed.setIfInBounds i true) && rest.ok ops n (some js) listed
  | some [] => false)
 | .jn _ s, n, q, listed => q.isNone && s.ok ops n none listed
 | .alf i j s, n, q, listed => q.isNone && decide (2 ≤ n) && Region.ready .any ops listed == [i] && Region.ready .any ops (listed.setIfInBounds i true) == [j] && s.ok ops (n - 2) none ((listed.setIfInBounds i true).setIfInBounds j true)
 | .nil, _, q, _ => match q with | some [] => true | _ => false
section
variable {T : Tab} {by_ : Nat → Mode} {ann : Ann} {Φ : Known} {P : Program} {w0 : World} {E : Nat → Prop} {I0 : Ctx}
 {o : Oper} {a : Act} {w : World} {m : Nat} {K : St → Free} {r : A} {X : List Blk} {C : Ctx} {st : St} {f : Nat → Nat}
theorem op1_still (hs : stillOp o.op = true) (hT : TabOk P T) (hI : Inv w0 E I0 C st a w f)
  (hR : RunsN T by_ ann Φ m (op1 T by_ st o K) r X) : OpStill T by_ ann Φ P C st o a w m K r X := by
 unfold op1 at hR
 simp only at hR
 split at hR
 ·rename_i hop; exact move_ok (.inl hop) hI hR
 ·rename_i hop; exact move_ok (.inr hop) hI hR
 ·rename_i hop; exact pick_ok hop hI hR
 ·rename_i hop; rw [hop] at hs; simp [stillOp] at hs
 ·rename_i hop; rw [hop] at hs; simp [stillOp] at hs
 ·rename_i hop; rw [hop] at hs; simp [stillOp] at hs
 ·rename_i hop; rw [hop] at hs; simp [stillOp] at hs
 ·rename_i hop; rw [hop] at hs; simp [stillOp] at hs
 ·rename_i hop; rw [hop] at hs; simp [stillOp] at hs
 ·rename_i hop; exact bin_ok hop hT hI hR
 ·rename_i hop; exact un_ok hop hI hR
 ·rename_i hop; rw [hop] at hs; simp [stillOp] at hs
 ·rename_i hop; exact makeFunc_ok hop hI hR
 ·rename_i hop; rw [hop] at hs; simp [stillOp] at hs
 ·rename_i hop; rw [hop] at hs; simp [stillOp] at hs
 ·rename_i hop; exact fieldAddr_ok hop hT hI hR
 ·rename_i hop; exact field_ok hop hT hI hR
 ·rename_i hop; exact indexAddr_ok hop hT hI hR
 ·rename_i hop; exact index_ok hop hT hI hR
 ·rename_i hop; exact extract_ok hop hI hR
 ·rename_i hop; exact nilCheck_ok hop hI hR
 ·rename_i c hop
  rw [hop] at hs
  obtain ⟨callee, args, ts⟩ := c
  simp only [stillOp] at hs
  split at hs
  ·unfold opCall at hR
   exact len_ok hop hT hI hR
  ·simp at hs
 ·exact hR.bad.elim
theorem opG_still {ops : Array Oper} (hs : stillOp o.op = true) (hT : TabOk P T) (hI : Inv w0 E I0 C st a w f) (hR : RunsN T by_ ann Φ m (opG T by_ ops st o K) r X) :
  ∃ m' st' v, m' ≤ m ∧ RunsN T by_ ann Φ m' (K st') r X ∧ Yields P ops o v a ∧ Inv w0 E I0 C st' (a.put o.dst v) w f := by
 unfold opG at hR
 split at hR
 ·rename_i hg
  obtain ⟨m', x, v, hm, hR, hrun, hx⟩ := op1_still hs hT hI hR
  exact ⟨m', _, v, hm, hR, .inl ⟨by simp [Region.wanted, hg], hrun⟩, hI.dst o.dst hx⟩
 ·rename_i j want hg
  split at hR
  ·exact hR.bad.elim
  rename_i t ht
  split at hR
  case h_3 => exact hR.bad.elim
  case h_2 =>
   rename_i b hb
   have hat := guard_at hI hb
   have hw : Region.wanted o (yielded ops a.tmps) = false := by
    simp [Region.wanted, hg, yielded, ht, hat]
   exact ⟨m, _, undef, Nat.le_refl _, hR, .inr ⟨hw, rfl⟩, hI.dst o.dst (x := .v (.tuple #[])) (v := undef) (.v z0)⟩
  rename_i b hb
  obtain ⟨m', rfl, hR⟩ := hR.ask
  change RunsN T by_ ann Φ m' (if _ then _ else _) r X at hR
  have hat := guard_at hI hb
  have hI2 : Inv w0 E I0 C (st.dst (some t) (.v (.bool b))) a w f := by
   have := hI.dst (some t) (x := .v (.bool b)) (v := .bool b) (.v z0)
   rwa [act_put_same hat] at this
  have hw : Region.wanted o (yielded ops a.tmps) = (b == want) := by
   simp [Region.wanted, hg, yielded, ht, hat]
  split at hR
  ·rename_i hbw
   obtain ⟨m2, x, v, hm, hR, hrun, hx⟩ := op1_still hs hT hI2 hR
   exact ⟨m2, _, v, by omega, hR, .inl ⟨by rw [hw]; simpa using hbw, hrun⟩, hI2.dst o.dst hx⟩
  ·rename_i hbw
   exact ⟨m', _, undef, by omega, hR, .inr ⟨by rw [hw]; simpa using hbw, rfl⟩, hI2.dst o.dst (x := .v (.tuple #[])) (v := undef) (.v z0)⟩
def onlyNormal (Q : Act → World → Prop) : Exit → Act → World → Prop
 | .normal, a, w => Q a w
 | _, _, _ => False
def Draws (P : Program) (ops : Array Oper) (st st1 : St) : Prop :=
 ∀ (w0 : World) (E : Nat → Prop) (I0 : Ctx) (C : Ctx) (a : Act) (w : World) (f : Nat → Nat) (Q : Act → World → Prop), Inv w0 E I0 C st a w f →
  (∀ a' w' C' f', Inv w0 E I0 C' st1 a' w' f' → Q a' w') → wpAny P .any ops (onlyNormal Q) ops.size (Array.replicate ops.size false) a w
def Stood (w : World) (f : Nat → Nat) (w2 : World) : Prop := ∀ b, b < w.heap.size → f b = 0 → w2.heap[b]? = w.heap[b]?
theorem Inv.rebase (h : Inv w0 E I0 C st a w f) : Inv w (fun b => 1 ≤ f b) C C st a w f :=
 {defers := h.defers, raw := h.raw, firstX := rfl, below := h.below, extOn := h.extOn, uniq := h.uniq, env := h.env, mem := h.mem, one := h.one
  first := Nat.le_trans h.first h.same.size
  old := fun b hb => .inl hb
  keep := fun b hb => hb
  ext0 := .refl C
  own := fun b hb => ⟨(h.own b hb).1, .inl hb⟩
  same := .refl _ _ }
theorem Inv.unbase {C' : Ctx} {st' : St} {a' : Act} {w' : World} {f' : Nat → Nat} (h : Inv w0 E I0 C st a w f) (h' : Inv w (fun b => 1 ≤ f b) C C' st' a' w' f') : Inv w0 E I0 C' st' a' w' f' :=
 {defers := h'.defers, raw := h'.raw, below := h'.below, extOn := h'.extOn, uniq := h'.uniq, env := h'.env, mem := h'.mem, one := h'.one
  first := by rw [← h'.firstX]; exact h.first
  firstX := h.firstX.trans h'.firstX
  old := fun b hb => by
   rcases h'.old b hb with h1 | h1
   ·exact h.old b h1
   ·exact .inr (Nat.le_trans h.same.size h1)
  keep := fun b hb => h'.keep b (h.keep b hb)
  ext0 := Ctx.ToX.trans h.firstX.symm h.ext0 h'.ext0
  own := fun b hb => by
   obtain ⟨h1, h2⟩ := h'.own b hb
   refine ⟨h1, ?_⟩
   rcases h2 with h2 | h2
   ·exact (h.own b h2).2
   ·exact .inr (Nat.le_trans h.same.size h2)
  same := by
   refine ⟨h'.same.os.trans h.same.os, h'.same.tape.trans h.same.tape, h'.same.output.trans h.same.output, Nat.le_trans h.same.size h'.same.size, fun b h1 h2 => ?_⟩
   rw [← h.same.block b h1 h2]
   refine h'.same.block b (Nat.lt_of_lt_of_le h1 h.same.size) fun h3 => ?_
   rcases (h.own b h3).2 with h4 | h4
   ·exact h2 h4
   ·omega }
theorem Inv.stood {C' : Ctx} {st' : St} {a' : Act} {w' : World} {f' : Nat → Nat} (h' : Inv w (fun b => 1 ≤ f b) C C' st' a' w' f') : Stood w f w' :=
 fun b h1 h2 => h'.same.block b h1 (by omega)
theorem load_stood {t : TypeId} {p : Operand} {es : List A} {i0 off0 : Nat} (hop : o.op = .load t p) (hT : TabOk P T) (hI : Inv w0 E I0 C st a w f) (ep : ev st.env p = .ptr es i0 off0)
  (hR : RunsN T by_ ann Φ m (opLoad T st o.dst t (ev st.env p) K) r X) :
  ∃ x v, RunsN T by_ ann Φ m (K (st.dst o.dst x)) r X ∧ (∀ w2, Stood w f w2 → (execOp a.eval o).run P w2 = .ok (.value v) w2) ∧ Rep1 C w x v fun _ => 0 := by
 have hp := ev_rep hI.env p
 rw [ep] at hp hR
 unfold opLoad at hR
 simp only at hR
 split at hR
 ·exact hR.bad.elim
 rename_i ht
 split at hR
 case isFalse => exact hR.bad.elim
 rename_i hc
 obtain ⟨ad, k, c, e, fz, hv, g1, g2, g3, g4, g5, g6, g7, g8⟩ := inv_ptr hp
 have hcl := getD_cells g3 g6
 have hik : i0 * k + k ≤ es.length * k := by rw [← Nat.succ_mul]; exact Nat.mul_le_mul_right _ g6
 obtain ⟨f', hf', hrep⟩ := rep_load (T := T) (t := t) (o := off0) ht g3 g6 (by omega) g4 (hT.one ht) g8
 have hrep : Rep1 C w _ _ f' := RepL.to hrep C.bareTo
 refine ⟨_, _, hR, fun w2 hw => ?_, RepL.congr hrep fun n => by have := hf' n; show 0 = _; simp at this; omega⟩
 have hb := hI.below _ g5
 have h0 : f ad.block = 0 := by
  rcases Nat.eq_zero_or_pos (f ad.block) with h | h
  ·exact h
  ·exact absurd g5 (hI.own _ h).1
 have g1' : w2.heap[ad.block]? = some (.cells c e fz) := by rw [hw _ hb h0]; exact g1
 simp only [execOp, hop, Instr.loadAt, hv, Instr.sureAddr, Sem.run_bind, Sem.run_pure, Result.andThen_ok]
 rw [run_loadVar hT ht g1' (by omega)]
 rfl
theorem opG_stood {ops : Array Oper} {t : TypeId} {p : Operand} {es : List A} {i0 off0 : Nat} (hop : o.op = .load t p) (hT : TabOk P T) (hI : Inv w0 E I0 C st a w f) (ep : ev st.env p = .ptr es i0 off0)
  (hR : RunsN T by_ ann Φ m (opG T by_ ops st o K) r X) :
  ∃ m' st' v, m' ≤ m ∧ RunsN T by_ ann Φ m' (K st') r X ∧ YieldsJ P ops (Stood w f) o v a ∧ Inv w0 E I0 C st' (a.put o.dst v) w f := by
 unfold opG at hR
 split at hR
 case h_2 =>
  rename_i j want hg
  split at hR
  ·exact hR.bad.elim
  rename_i t' ht
  split at hR
  case h_3 => exact hR.bad.elim
  case h_2 =>
   rename_i b hb
   have hat := guard_at hI hb
   have hw : Region.wanted o (yielded ops a.tmps) = false := by simp [Region.wanted, hg, yielded, ht, hat]
   exact ⟨m, _, undef, Nat.le_refl _, hR, .inr ⟨hw, rfl⟩, hI.dst o.dst (x := .v (.tuple #[])) (v := undef) (.v z0)⟩
  rename_i b hb
  obtain ⟨m', rfl, hR⟩ := hR.ask
  change RunsN T by_ ann Φ m' (if _ then _ else _) r X at hR
  have hat := guard_at hI hb
  have hI2 : Inv w0 E I0 C (st.dst (some t') (.v (.bool b))) a w f := by
   have := hI.dst (some t') (x := .v (.bool b)) (v := .bool b) (.v z0)
   rwa [act_put_same hat] at this
  have hw : Region.wanted o (yielded ops a.tmps) = (b == want) := by simp [Region.wanted, hg, yielded, ht, hat]
  split at hR
  ·rename_i hbw
   unfold op1 at hR
   rw [hop] at hR
   simp only at hR
   have ep2 : ev (st.dst (some t') (.v (.bool b))).env p = .ptr es i0 off0 := by
    cases p with
    | tmp k =>
     simp only [St.dst, ev] at ep ⊢
     by_cases e : t' = k
     ·subst e
      rw [hb] at ep
      cases ep
     ·rw [List.getD, List.getElem?_set_ne e]
      exact ep
    | _ => exact ep
   obtain ⟨x, v, h1, h2, h3⟩ := load_stood hop hT hI2 ep2 hR
   exact ⟨m', _, v, by omega, h1, .inl ⟨by rw [hw]; simpa using hbw, h2⟩, hI2.dst o.dst h3⟩
  ·rename_i hbw
   exact ⟨m', _, undef, by omega, hR, .inr ⟨by rw [hw]; simpa using hbw, rfl⟩, hI2.dst o.dst (x := .v (.tuple #[])) (v := undef) (.v z0)⟩
 ·rename_i hg
  unfold op1 at hR
  rw [hop] at hR
  simp only at hR
  obtain ⟨x, v, h1, h2, h3⟩ := load_stood hop hT hI ep hR
  exact ⟨m, _, v, Nat.le_refl _, h1, .inl ⟨by simp [Region.wanted, hg], h2⟩, hI.dst o.dst h3⟩
theorem opG_skip {ops : Array Oper} (hs : skipG ops st o = true) (hI : Inv w0 E I0 C st a w f) (hR : RunsN T by_ ann Φ m (opG T by_ ops st o K) r X) :
  ∃ m' st' v, m' ≤ m ∧ RunsN T by_ ann Φ m' (K st') r X ∧ YieldsJ P ops (Stood w f) o v a ∧ Inv w0 E I0 C st' (a.put o.dst v) w f := by
 unfold opG at hR
 unfold skipG at hs
 split at hR
 case h_1 => rename_i hg; rw [hg] at hs; simp at hs
 rename_i j want hg
 rw [hg] at hs
 simp only at hs
 split at hR
 ·exact hR.bad.elim
 rename_i t ht
 rw [ht] at hs
 simp only [skipO] at hs
 split at hR
 case h_3 => exact hR.bad.elim
 case h_2 =>
  rename_i b hb
  have hat := guard_at hI hb
  have hw : Region.wanted o (yielded ops a.tmps) = false := by simp [Region.wanted, hg, yielded, ht, hat]
  exact ⟨m, _, undef, Nat.le_refl _, hR, .inr ⟨hw, rfl⟩, hI.dst o.dst (x := .v (.tuple #[])) (v := undef) (.v z0)⟩
 rename_i b hb
 rw [hb] at hs
 have hbw : b ≠ want := by cases b <;> cases want <;> simp_all [skipV]
 obtain ⟨m', rfl, hR⟩ := hR.ask
 change RunsN T by_ ann Φ m' (if _ then _ else _) r X at hR
 have hat := guard_at hI hb
 have hI2 : Inv w0 E I0 C (st.dst (some t) (.v (.bool b))) a w f := by
  have := hI.dst (some t) (x := .v (.bool b)) (v := .bool b) (.v z0)
  rwa [act_put_same hat] at this
 have hw : Region.wanted o (yielded ops a.tmps) = (b == want) := by simp [Region.wanted, hg, yielded, ht, hat]
 rw [if_neg hbw] at hR
 exact ⟨m', _, undef, by omega, hR, .inr ⟨by rw [hw]; simpa using hbw, rfl⟩, hI2.dst o.dst (x := .v (.tuple #[])) (v := undef) (.v z0)⟩
theorem conv_still {src dst : TypeId} {x : Operand} {κ : IntKind} {n : Int} (hop : o.op = .convert src dst x) (hT : TabOk P T) (hI : Inv w0 E I0 C st a w f) (ex : ev st.env x = .v (.int κ n))
  (hR : RunsN T by_ ann Φ m (opConvert T st o.dst src dst (ev st.env x) K) r X) : OpStill T by_ ann Φ P C st o a w m K r X := by
 have hx := ev_rep hI.env x
 rw [ex] at hx hR
 unfold opConvert at hR
 split at hR
 ·exact hR.bad.elim
 rename_i hsrc
 obtain ⟨ds, hds⟩ := hT.some hsrc
 split at hR
 ·rename_i k k' n' hk e2
  cases e2
  refine OpStill.value (Nat.le_refl _) hR (fun w => ?_) (.v z0)
  simp [execOp, hop, convert, run_underlying hds, run_underlying (hT.int hk), inv_v hx, Conv.intToInt]
 ·rename_i e2; cases e2
 ·rename_i e2; cases e2
 ·split at hR
  ·rename_i he; simp [St.elems] at he
  ·exact hR.bad.elim
 ·exact hR.bad.elim
theorem load_var {t : TypeId} {p : Operand} {k i off tot : Nat} (hop : o.op = .load t p) (hT : TabOk P T) (hI : Inv w0 E I0 C st a w f) (ep : ev st.env p = .ref (.l k) i off tot)
  (hR : RunsN T by_ ann Φ m (opLoad T st o.dst t (ev st.env p) K) r X) :
  ∃ x v, RunsN T by_ ann Φ m (K (st.dst o.dst x)) r X ∧ (∀ w2, w2.heap[(C.μ (.l k)).blk]? = w.heap[(C.μ (.l k)).blk]? → (execOp a.eval o).run P w2 = .ok (.value v) w2) ∧ Rep1 C w x v fun _ => 0 := by
 have hp := ev_rep hI.env p
 rw [ep] at hp hR
 unfold opLoad at hR
 simp only at hR
 split at hR
 ·exact hR.bad.elim
 rename_i ht
 split at hR
 case h_2 => exact hR.bad.elim
 rename_i blk hb
 split at hR
 case isFalse => exact hR.bad.elim
 rename_i hc
 obtain ⟨hc1, hc2, hc3⟩ := hc
 obtain ⟨h1, h2, h3⟩ := hI.get hb
 obtain ⟨blk', hb', hm⟩ := inv_ref hp
 rw [h2] at hb'
 cases hb'
 obtain ⟨_, hm⟩ := hm h3
 obtain ⟨hx, hi⟩ := hm hc1
 rcases hI.blk hb with ⟨he, _⟩ | ⟨fb, ⟨c, e, fz, g1, g2, g3, g4, g5, gx, g6, g7⟩, hfb⟩
 ·rw [he] at hc1; simp at hc1; omega
 ·rw [hc1] at hi
  have hcl := getD_cells g3 hi
  have hcap : blk.es.length * blk.k ≤ (C.μ (.l k)).cap * blk.k := Nat.mul_le_mul_right _ g4
  have hik : i * blk.k + blk.k ≤ blk.es.length * blk.k := by rw [← Nat.succ_mul]; exact Nat.mul_le_mul_right _ hi
  obtain ⟨f', hf', hrep⟩ := rep_load (T := T) (t := t) (o := off) ht g3 hi (by omega) (by omega) (hT.one ht) g7
  have hrep : Rep1 C w _ _ f' := RepL.to hrep (C.forTo _)
  refine ⟨_, (T.row t).loadV c ((C.μ (.l k)).base + i * blk.k + off), hR, fun w2 hw => ?_, ?_⟩
  ·simp only [execOp, hop, Instr.loadAt, hx, Instr.sureAddr, Sem.run_bind, Sem.run_pure, Result.andThen_ok]
   rw [run_loadVar hT ht (by rw [hw]; exact g1) (by omega)]
   rfl
  ·cases hbx : blk.box with
   | true => exact RepL.congr hrep fun n => by have := hf' n; have := gx hbx n; show 0 = _; omega
   | false => rw [hbx] at hc3; simp only [Bool.false_or] at hc3; exact plain_zero hc3 hrep
theorem Inv.drop {k : Nat} {b : Blk} (h : Inv w0 E I0 C st a w f) (hb : st.get (.l k) = some b) (hne : b.es ≠ []) :
  ∃ C' f', Inv w0 E I0 C' (st.kill k) a w f' ∧ f' (C.μ (.l k)).blk = 0 ∧ (C.μ (.l k)).blk < w.heap.size := by
 have hG := h.toG
 obtain ⟨_, hB, hon⟩ := hG.get hb
 have t := Ctx.up_put (l := C.μ (.l k)) (b' := ⟨false, 0, false, []⟩) hB (fun ho => by cases ho)
 obtain ⟨l1, l2, f1, f2, e1, e2, m1, m2, n1, n2, hc⟩ := hG.focus hb
 rcases hc with ⟨he, _⟩ | ⟨fb, hbk, hf⟩
 ·exact absurd he hne
 have m1' := m1.up t fun b' hb' => absurd hb' (n1 b')
 have m2' := m2.up t fun b' hb' => absurd hb' (n2 b')
 refine ⟨C.up (.l k) (C.μ (.l k)) ⟨false, 0, false, []⟩, fun n => f1 n + f2 n,
  {defers := h.defers, first := h.first, firstX := h.firstX, below := h.below, old := h.old, keep := h.keep, same := h.same, ext0 := Ctx.ToX.trans h.firstX.symm h.ext0 t.x
   raw := fun i => by rw [kill_put, St.raw_put (hG.get hb).1]; simp only [Ctx.up, h.raw]
   extOn := h.extOn
   uniq := put_uniq hG hb _
   env := h.env.to t
   mem := by
    rw [kill_put, e2]
    exact m1'.app (MemR.off rfl m2') fun _ => rfl
   one := fun n => by have := h.one n; have := hf n; show f1 n + f2 n ≤ 1; omega
   own := fun n hn => h.own n (by have := hf n; have hn : 1 ≤ f1 n + f2 n := hn; omega) }, ?_, ?_⟩
 ·have := h.one (C.μ (.l k)).blk
  have := hf (C.μ (.l k)).blk
  simp only [if_true] at this
  show f1 _ + f2 _ = 0
  omega
 ·obtain ⟨c, e, fz, g1, _⟩ := hbk
  exact heap_lt g1
theorem lds_ok {ops : Array Oper} (hT : TabOk P T) (hns : Region.noSelect ops = true) {Q : Act → World → Prop} {J : World → Prop} {k n' : Nat} {l' : Array Bool} {K1 : St → Free}
  (hJn : ∀ w2, J w2 → w2.heap[(C.μ (.l k)).blk]? = w.heap[(C.μ (.l k)).blk]?) :
  ∀ (is : List Nat) (n : Nat) (listed : Array Bool) (st : St) (a : Act) (m : Nat), Inv w0 E I0 C st a w f → RunsN T by_ ann Φ m (ldsS T by_ ops k is st K1) r X → ldsOk ops is n listed = some (n', l') →
   (∀ m' st' a', m' ≤ m → Inv w0 E I0 C st' a' w f → RunsN T by_ ann Φ m' (K1 st') r X → wpAnyJ P ops (onlyNormal Q) J n' l' a' w) → wpAnyJ P ops (onlyNormal Q) J n listed a w
 | [], n, listed, st, a, m, hI, hR, hok, hK => by
  simp only [ldsOk, Option.some.injEq, Prod.mk.injEq] at hok
  obtain ⟨rfl, rfl⟩ := hok
  exact hK m st a (Nat.le_refl _) hI hR
 | i :: is, n, listed, st, a, m, hI, hR, hok, hK => by
  simp only [ldsOk] at hok
  split at hok
  case isFalse => simp at hok
  rename_i hc
  simp only [Bool.and_eq_true, bne_iff_ne, ne_eq] at hc
  obtain ⟨⟨⟨hn, hst⟩, hfree⟩, hready⟩ := hc
  obtain ⟨n, rfl⟩ : ∃ k, n = k + 1 := ⟨n - 1, by omega⟩
  simp only [ldsS] at hR
  split at hR
  case h_2 => exact hR.bad.elim
  rename_i o ho
  split at hR
  case h_2 => exact hR.bad.elim
  rename_i t p hop hg
  split at hR
  case h_2 => exact hR.bad.elim
  rename_i k' i0 off tot ep
  split at hR
  case isFalse => exact hR.bad.elim
  rename_i hk
  subst hk
  unfold opG at hR
  rw [hg] at hR
  simp only at hR
  unfold op1 at hR
  rw [hop] at hR
  simp only at hR
  obtain ⟨x, v, h1, h2, h3⟩ := load_var hop hT hI ep hR
  have hy : YieldsJ P ops J o v a := .inl ⟨by simp [Region.wanted, hg], fun w2 hw => h2 w2 (hJn w2 hw)⟩
  exact wpAnyJ_take ho hns hfree hready (fun c a w h => h.elim) hy (lds_ok hT hns hJn is n _ _ _ m (hI.dst o.dst h3) h1 hok hK)
theorem drawS_ok {ops : Array Oper} (hΦ : ∀ f as x a x', Φ.calls f as x a x' → Holds P f as x a x') (hT : TabOk P T) (hns : Region.noSelect ops = true) {Q : Act → World → Prop} :
  ∀ (s : Sched) (n : Nat) (q : Option (List Nat)) (listed : Array Bool) {w0 : World} {E : Nat → Prop} {I0 : Ctx} {J : World → Prop} (_ : ∀ C st a w f, Inv w0 E I0 C st a w f → J w)
   (_ : ∀ m s, RunsN T by_ ann Φ m (K s) r X → ∀ a' w' C' f', Inv w0 E I0 C' s a' w' f' → Q a' w') {m : Nat} {C : Ctx} {st : St} {a : Act} {w : World} {f : Nat → Nat},
   s.ok ops n q listed = true → Inv w0 E I0 C st a w f → RunsN T by_ ann Φ m (drawS T by_ ops s st K) r X →
   match q with
   | none => wpAnyJ P ops (onlyNormal Q) J n listed a w
   | some rs => ∀ i ∈ rs, wpOp P ops (onlyNormal Q) i (wpAnyJ P ops (onlyNormal Q) J (n - 1) (listed.setIfInBounds i true)) a w := by
 intro s
 induction s with
 | fin =>
  intro n q listed w0 E I0 J hJ hK m C st a w f hok hI hR
  simp only [Sched.ok, Bool.and_eq_true, Option.isNone_iff_eq_none, List.isEmpty_iff] at hok
  obtain ⟨rfl, hr⟩ := hok
  exact wpAnyJ_done (hJ _ _ _ _ _ hI) hr (hK m _ hR _ _ _ _ hI) n
 | take i s ih =>
  intro n q listed w0 E I0 J hJ hK m C st a w f hok hI hR
  simp only [Sched.ok, Bool.and_eq_true, Option.isNone_iff_eq_none, bne_iff_ne, ne_eq] at hok
  obtain ⟨⟨⟨⟨⟨rfl, hn⟩, hst⟩, hfree⟩, hready⟩, hok⟩ := hok
  obtain ⟨n, rfl⟩ : ∃ k, n = k + 1 := ⟨n - 1, by omega⟩
  simp only [drawS] at hR
  split at hR
  case h_2 => exact hR.bad.elim
  rename_i o ho
  simp only [stillAt, ho] at hst
  obtain ⟨m', st', v, hm, hR', hy, hI'⟩ := opG_still hst hT hI hR
  exact wpAnyJ_take ho hns hfree hready (fun c a w h => h.elim) (yieldsJ_of hy) (ih n none _ hJ hK hok hI' hR')
 | ld i s ih =>
  intro n q listed w0 E I0 J hJ hK m C st a w f hok hI hR
  simp only [Sched.ok, Bool.and_eq_true, Option.isNone_iff_eq_none, bne_iff_ne, ne_eq] at hok
  obtain ⟨⟨⟨⟨⟨rfl, hn⟩, hst⟩, hfree⟩, hready⟩, hok⟩ := hok
  obtain ⟨n, rfl⟩ : ∃ k, n = k + 1 := ⟨n - 1, by omega⟩
  simp only [drawS] at hR
  split at hR
  case h_2 => exact hR.bad.elim
  rename_i o ho
  split at hR
  case h_2 => exact hR.bad.elim
  rename_i t p hop
  have key : ∃ m' st' v, m' ≤ m ∧ RunsN T by_ ann Φ m' (drawS T by_ ops s st' K) r X ∧ YieldsJ P ops (Stood w f) o v a ∧ Inv w0 E I0 C st' (a.put o.dst v) w f := by
   split at hR
   ·rename_i hsk
    exact opG_skip hsk hI hR
   ·split at hR
    case h_2 => exact hR.bad.elim
    rename_i es i0 off0 ep
    exact opG_stood hop hT hI ep hR
  obtain ⟨m', st', v, hm, hR', hy, hI'⟩ := key
  have := ih n none (listed.setIfInBounds i true) (w0 := w) (E := fun b => 1 ≤ f b) (I0 := C) (J := fun w2 => J w2 ∧ Stood w f w2) (fun C2 st2 a2 w2 f2 h2 => ⟨hJ _ _ _ _ _ (hI'.unbase h2), h2.stood⟩)
   (fun m2 s2 h2 a2 w2 C2 f2 h3 => hK m2 s2 h2 a2 w2 C2 f2 (hI'.unbase h3)) hok hI'.rebase hR'
  have hy2 : YieldsJ P ops (fun w2 => J w2 ∧ Stood w f w2) o v a := hy.imp (fun h => ⟨h.1, fun w2 hw => h.2 w2 hw.2⟩) id
  exact wpAnyJ_mono (fun _ h => h.1) (wpAnyJ_take ho hns hfree hready (fun c a w h => h.elim) hy2 this)
 | cv i s ih =>
  intro n q listed w0 E I0 J hJ hK m C st a w f hok hI hR
  simp only [Sched.ok, Bool.and_eq_true, Option.isNone_iff_eq_none, bne_iff_ne, ne_eq] at hok
  obtain ⟨⟨⟨⟨⟨rfl, hn⟩, hst⟩, hfree⟩, hready⟩, hok⟩ := hok
  obtain ⟨n, rfl⟩ : ∃ k, n = k + 1 := ⟨n - 1, by omega⟩
  simp only [drawS] at hR
  split at hR
  case h_2 => exact hR.bad.elim
  rename_i o ho
  split at hR
  case h_2 => exact hR.bad.elim
  rename_i t1 t2 p hop hg
  split at hR
  case h_2 => exact hR.bad.elim
  rename_i κ n0 ep
  unfold opG at hR
  rw [hg] at hR
  simp only at hR
  unfold op1 at hR
  rw [hop] at hR
  simp only at hR
  obtain ⟨m', x, v, hm, hR', hrun, hx⟩ := conv_still hop hT hI ep hR
  have hy : Yields P ops o v a := .inl ⟨by simp [Region.wanted, hg], hrun⟩
  exact wpAnyJ_take ho hns hfree hready (fun c a w h => h.elim) (yieldsJ_of hy) (ih n none _ hJ hK hok (hI.dst o.dst hx) hR')
 | lds k is s ih =>
  intro n q listed w0 E I0 J hJ hK m C st a w f hok hI hR
  simp only [Sched.ok, Bool.and_eq_true, Option.isNone_iff_eq_none] at hok
  obtain ⟨rfl, hok⟩ := hok
  split at hok
  case h_2 => simp at hok
  rename_i n' l' hl
  simp only [drawS] at hR
  have main := lds_ok (J := fun w2 => J w2 ∧ w2.heap[(C.μ (.l k)).blk]? = w.heap[(C.μ (.l k)).blk]?) (Q := Q) hT hns (fun _ h => h.2) is n listed st a m hI hR hl (by
   intro m' st' a' hm hI' hR'
   split at hR'
   case h_2 => exact hR'.bad.elim
   rename_i blk hb
   split at hR'
   ·exact hR'.bad.elim
   rename_i hne
   obtain ⟨C2, f2, hI2, hz, hlt⟩ := hI'.drop hb (by intro e; rw [e] at hne; simp at hne)
   have := ih n' none l' (w0 := w) (E := fun b => 1 ≤ f2 b) (I0 := C2) (J := fun w2 => J w2 ∧ w2.heap[(C.μ (.l k)).blk]? = w.heap[(C.μ (.l k)).blk]?)
    (fun C3 st3 a3 w3 f3 h3 => ⟨hJ _ _ _ _ _ (hI2.unbase h3), h3.stood _ hlt hz⟩)
    (fun m2 s2 h2 a2 w2 C3 f3 h3 => hK m2 s2 h2 a2 w2 C3 f3 (hI2.unbase h3)) hok hI2.rebase hR'
   exact this)
  exact wpAnyJ_mono (fun _ h => h.1) main
 | alt i s rest ihs ihr =>
  intro n q listed w0 E I0 J hJ hK m C st a w f hok hI hR
  simp only [Sched.ok, Bool.and_eq_true, bne_iff_ne, ne_eq] at hok
  obtain ⟨hn, hok⟩ := hok
  obtain ⟨n, rfl⟩ : ∃ k, n = k + 1 := ⟨n - 1, by omega⟩
  cases m with
  | zero => exact hR.elim
  | succ m =>
  simp only [drawS] at hR
  obtain ⟨hR1, hR2⟩ := hR
  have one : ∀ j, j = i → s.ok ops n none (listed.setIfInBounds i true) = true → wpOp P ops (onlyNormal Q) j (wpAnyJ P ops (onlyNormal Q) J n (listed.setIfInBounds j true)) a w := by
   intro j hj hs
   subst hj
   unfold wpOp
   split at hR1
   case h_2 => exact hR1.bad.elim
   rename_i o ho
   rw [ho]
   exact opG_ok hΦ hT hI hR1 _ _ fun m' st' a' w' C' f' hm hR' hI' => ihs n none _ hJ hK hs hI' hR'
  cases q with
  | none =>
   simp only at hok
   split at hok
   case h_2 => simp at hok
   rename_i j js hr
   simp only [Bool.and_eq_true, beq_iff_eq] at hok
   obtain ⟨⟨hj, hs⟩, hrest⟩ := hok
   have hrs := ihr (n + 1) (some js) listed hJ hK hrest hI hR2
   simp only at hrs
   refine wpAnyJ_all (hJ _ _ _ _ _ hI) hr (by simp) ?_
   intro k hk
   rcases List.mem_cons.1 hk with rfl | hk
   ·exact one k hj (by simpa using hs)
   ·exact hrs k hk
  | some rs =>
   cases rs with
   | nil => simp at hok
   | cons j js =>
    simp only [Bool.and_eq_true, beq_iff_eq] at hok
    obtain ⟨⟨hj, hs⟩, hrest⟩ := hok
    have hrs := ihr (n + 1) (some js) listed hJ hK hrest hI hR2
    simp only at hrs
    simp only
    intro k hk
    rcases List.mem_cons.1 hk with rfl | hk
    ·exact one k hj (by simpa using hs)
    ·exact hrs k hk
 | jn keep s ih =>
  intro n q listed w0 E I0 J hJ hK m C st a w f hok hI hR
  simp only [Sched.ok, Bool.and_eq_true, Option.isNone_iff_eq_none] at hok
  obtain ⟨rfl, hok⟩ := hok
  cases m with
  | zero => exact hR.elim
  | succ m =>
  have hR : RunsN T by_ ann Φ m (drawS T by_ ops s (st.only keep) K) r X := hR
  obtain ⟨C2, f2, hI2⟩ := hI.only keep
  exact ih n none listed hJ hK hok hI2 hR
 | alf i j s ih =>
  intro n q listed w0 E I0 J hJ hK m C st a w f hok hI hR
  simp only [Sched.ok, Bool.and_eq_true, Option.isNone_iff_eq_none, decide_eq_true_eq, beq_iff_eq] at hok
  obtain ⟨⟨⟨⟨rfl, hn⟩, hr1⟩, hr2⟩, hok⟩ := hok
  obtain ⟨n, rfl⟩ : ∃ k, n = k + 2 := ⟨n - 2, by omega⟩
  simp only [drawS, alfS] at hR
  split at hR
  case h_2 => exact hR.bad.elim
  rename_i oi oj hoi hoj
  obtain ⟨a1, w1, w2, st1, st2, C2, v, e1, ea, i1, e2, ep, i2, hR', g1, g2⟩ := alf_ok hT hI hR
  refine wpAnyJ_all (hJ _ _ _ _ _ hI) hr1 (by simp) fun k hk => ?_
  obtain rfl : k = i := by simpa using hk
  unfold wpOp
  rw [hoi]
  simp only [Region.wanted, g1, if_true]
  left
  unfold Oper.wp
  rw [e1]
  show wpAnyJ P ops (onlyNormal Q) J (n + 1) (listed.setIfInBounds k true) (a.put oi.dst v) w1
  rw [← ea]
  refine wpAnyJ_all (hJ _ _ _ _ _ i1) hr2 (by simp) fun k2 hk2 => ?_
  obtain rfl : k2 = j := by simpa using hk2
  unfold wpOp
  rw [hoj]
  simp only [Region.wanted, g2, if_true]
  left
  unfold Oper.wp
  rw [e2]
  show wpAnyJ P ops (onlyNormal Q) J n ((listed.setIfInBounds k true).setIfInBounds k2 true) (a1.put oj.dst undef) w2
  rw [ep]
  exact ih n none _ hJ hK hok i2 hR'
 | nil =>
  intro n q listed w0 E I0 J hJ hK m C st a w f hok hI hR
  simp only [Sched.ok] at hok
  split at hok
  ·simp
  ·simp at hok
theorem draws_of {ops : Array Oper} {st1 : St} (s : Sched) (hΦ : ∀ f as x a x', Φ.calls f as x a x' → Holds P f as x a x') (hT : TabOk P T)
  (hok : (Region.noSelect ops && s.ok ops ops.size none (Array.replicate ops.size false)) = true)
  (h : ∀ (K : St → Free) (r : A) (X : List Blk), Runs T by_ ann Φ (K st1) r X → Runs T by_ ann Φ (drawS T by_ ops s st K) r X) : Draws P ops st st1 := by
 classical
 intro w0 E I0 C a w f Q hI hQ
 simp only [Bool.and_eq_true] at hok
 obtain ⟨m, hm⟩ := h (fun s => if s = st1 then .ret (.tup []) [] else .bad) (.tup []) [] ⟨1, by simp only [if_true]; exact ⟨Le.refl _, rfl⟩⟩
 refine wpAnyJ_any (drawS_ok (K := fun s => if s = st1 then .ret (.tup []) [] else .bad) (r := .tup []) (X := []) hΦ hT hok.1 s ops.size none _ (J := fun _ => True) (fun _ _ _ _ _ _ => trivial) ?_ hok.2 hI hm)
 intro m s hs a' w' C' f' hI'
 by_cases e : s = st1
 ·subst e
  exact hQ a' w' C' f' hI'
 ·simp only [if_neg e] at hs
  exact hs.bad.elim
end
end Go.AM
