import Derived.Test.YtopckcfadimpoabGreatMachine3
set_option linter.unusedVariables false
set_option linter.unusedSimpArgs false
namespace Go.Proofs.G
structure Fld (p : Nat) [NeZero p] : Prop where
 nz : ∀ x y : Fin p, x * y = 0 → x = 0 ∨ y = 0
 inv : ∀ x : Fin p, x ≠ 0 → ∃ z, x * z = 1
 two : (2 : Fin p) ≠ 0
inductive Pt (p : Nat) where | O | A (x y : Fin p)
section
variable {p : Nat} [NeZero p]
noncomputable def finv (x : Fin p) : Fin p := open Classical in if h : ∃ z, x * z = 1 then h.choose else 0
theorem Fld.mul_inv (F : Fld p) {x : Fin p} (h : x ≠ 0) : x * finv x = 1 := by
 unfold finv
 rw [dif_pos (F.inv x h)]
 exact (F.inv x h).choose_spec
theorem Fld.cancel (F : Fld p) {x y z : Fin p} (h : x ≠ 0) (e : x * y = x * z) : y = z := by
 have := F.nz x (y - z) (by grind)
 grind
theorem Fld.uniq (F : Fld p) {x y : Fin p} (e : x * y = 1) : y = finv x := by
 have h : x ≠ 0 := by
  intro h
  subst h
  have : (2 : Fin p) = 0 := by grind
  exact F.two this
 have := F.mul_inv h
 exact F.cancel h (by grind)
variable (a b : Fin p)
def On : Pt p → Prop
 | .O => True
 | .A x y => y * y = x * x * x + a * x + b
def neg : Pt p → Pt p
 | .O => .O
 | .A x y => .A x (-y)
noncomputable def slope (x1 y1 x2 y2 : Fin p) : Fin p := if x1 = x2 then (3 * x1 * x1 + a) * finv (2 * y1) else (y2 - y1) * finv (x2 - x1)
noncomputable def add : Pt p → Pt p → Pt p
 | .O, Q => Q
 | P, .O => P
 | .A x1 y1, .A x2 y2 =>
  if x1 = x2 ∧ y1 + y2 = 0 then .O else
  let s := slope a x1 y1 x2 y2
  .A (s * s - x1 - x2) (s * (x1 - (s * s - x1 - x2)) - y1)
def Sl (x1 y1 x2 y2 s : Fin p) : Prop := y2 - y1 = s * (x2 - x1) ∧ s * (y1 + y2) = x1 * x1 + x1 * x2 + x2 * x2 + a
def third (x1 y1 x2 s : Fin p) : Pt p := .A (s * s - x1 - x2) (s * (x1 - (s * s - x1 - x2)) - y1)
variable {a b}
theorem add_O (P : Pt p) : add a P .O = P := by cases P <;> rfl
theorem O_add (P : Pt p) : add a .O P = P := by cases P <;> rfl
theorem Sl.uniq (F : Fld p) {x1 y1 x2 y2 s t : Fin p} (h : ¬ (x1 = x2 ∧ y1 + y2 = 0)) (h1 : Sl a x1 y1 x2 y2 s) (h2 : Sl a x1 y1 x2 y2 t) : s = t := by
 obtain ⟨h1, h1'⟩ := h1
 obtain ⟨h2, h2'⟩ := h2
 by_cases e : x1 = x2
 ·have e2 : y1 + y2 ≠ 0 := fun h' => h ⟨e, h'⟩
  exact F.cancel e2 (by grind)
 ·have e2 : x2 - x1 ≠ 0 := fun h' => e (by grind)
  exact F.cancel e2 (by grind)
theorem slope_sl (F : Fld p) {x1 y1 x2 y2 : Fin p} (h1 : On a b (.A x1 y1)) (h2 : On a b (.A x2 y2)) (h : ¬ (x1 = x2 ∧ y1 + y2 = 0)) : Sl a x1 y1 x2 y2 (slope a x1 y1 x2 y2) := by
 simp only [On] at h1 h2
 unfold slope
 by_cases e : x1 = x2
 ·subst e
  rw [if_pos rfl]
  have e2 : y1 + y2 ≠ 0 := fun h' => h ⟨rfl, h'⟩
  have e3 : y1 = y2 := by
   rcases F.nz (y1 - y2) (y1 + y2) (by grind) with h | h
   ·grind
   ·exact absurd h e2
  subst e3
  have := F.mul_inv (x := 2 * y1) (by grind)
  generalize finv (2 * y1) = i at this
  constructor <;> grind
 ·rw [if_neg e]
  have e2 : x2 - x1 ≠ 0 := fun h' => e (by grind)
  have := F.mul_inv e2
  generalize finv (x2 - x1) = i at this
  refine ⟨by grind, ?_⟩
  refine F.cancel e2 ?_
  grind
theorem add_of (F : Fld p) {x1 y1 x2 y2 s : Fin p} (h1 : On a b (.A x1 y1)) (h2 : On a b (.A x2 y2)) (h : ¬ (x1 = x2 ∧ y1 + y2 = 0)) (hs : Sl a x1 y1 x2 y2 s) : add a (.A x1 y1) (.A x2 y2) = third x1 y1 x2 s := by
 rw [Sl.uniq F h hs (slope_sl F h1 h2 h)]
 simp only [add, if_neg h, third]
theorem third_on {x1 y1 x2 y2 s : Fin p} (h1 : On a b (.A x1 y1)) (hs : Sl a x1 y1 x2 y2 s) : On a b (third x1 y1 x2 s) := by
 obtain ⟨hs1, hs2⟩ := hs
 simp only [On, third] at *
 grind
theorem add_comm (F : Fld p) {P Q : Pt p} (hP : On a b P) (hQ : On a b Q) : add a P Q = add a Q P := by
 cases P with
 | O => rw [O_add, add_O]
 | A x1 y1 => cases Q with
  | O => rw [O_add, add_O]
  | A x2 y2 =>
   by_cases h : x1 = x2 ∧ y1 + y2 = 0
   ·have h' : x2 = x1 ∧ y2 + y1 = 0 := by grind
    simp only [add, if_pos h, if_pos h']
   ·have h' : ¬ (x2 = x1 ∧ y2 + y1 = 0) := by grind
    have hs := slope_sl F hP hQ h
    generalize slope a x1 y1 x2 y2 = s at hs
    have hs' : Sl a x2 y2 x1 y1 s := by
     obtain ⟨u, v⟩ := hs
     constructor <;> grind
    rw [add_of F hP hQ h hs, add_of F hQ hP h' hs']
    obtain ⟨u, v⟩ := hs
    simp only [third]
    congr 1 <;> grind
theorem add_on (F : Fld p) {P Q : Pt p} (hP : On a b P) (hQ : On a b Q) : On a b (add a P Q) := by
 cases P with
 | O => rw [O_add]; exact hQ
 | A x1 y1 => cases Q with
  | O => exact hP
  | A x2 y2 =>
   by_cases h : x1 = x2 ∧ y1 + y2 = 0
   ·simp only [add, if_pos h]; trivial
   ·have hs := slope_sl F hP hQ h
    rw [add_of F hP hQ h hs]
    exact third_on hP hs
theorem neg_on {P : Pt p} (hP : On a b P) : On a b (neg P) := by
 cases P with
 | O => trivial
 | A x y => simp only [neg, On] at *; grind
theorem neg_neg (P : Pt p) : neg (neg P) = P := by
 cases P with
 | O => rfl
 | A x y => simp only [neg]; congr 1; grind
theorem add_neg (P : Pt p) : add a P (neg P) = .O := by
 cases P with
 | O => rfl
 | A x y =>
  have : y + -y = 0 := by grind
  simp only [neg, add, this, and_self, if_true]
theorem neg_add (F : Fld p) (D : 4 * a * a * a + 27 * b * b ≠ 0) {Q R : Pt p} (hQ : On a b Q) (hR : On a b R) : add a (neg Q) (add a Q R) = R := by
 cases Q with
 | O => simp only [neg, O_add]
 | A x1 y1 => cases R with
  | O => rw [add_O, add_comm F (neg_on hQ) hQ, add_neg]
  | A x2 y2 =>
   by_cases h : x1 = x2 ∧ y1 + y2 = 0
   ·have : add a (.A x1 y1) (.A x2 y2) = .O := by simp only [add, if_pos h]
    rw [this, add_O]
    simp only [neg]
    congr 1 <;> grind
   ·have hs := slope_sl F hQ hR h
    generalize slope a x1 y1 x2 y2 = s at hs
    have h3 := third_on hQ hs
    rw [add_of F hQ hR h hs]
    have hn := neg_on hQ
    simp only [neg, third] at *
    obtain ⟨u, v⟩ := hs
    have hs' : Sl a x1 (-y1) (s * s - x1 - x2) (s * (x1 - (s * s - x1 - x2)) - y1) (-s) := by
     constructor <;> grind
    have h' : ¬ (x1 = (s * s - x1 - x2) ∧ -y1 + (s * (x1 - (s * s - x1 - x2)) - y1) = 0) := by
     rintro ⟨e1, e2⟩
     have e3 : 2 * y1 = 0 := by grind
     have e4 : y1 = 0 := by
      rcases F.nz 2 y1 e3 with h | h
      ·exact absurd h F.two
      ·exact h
     obtain ⟨_, v'⟩ := hs'
     simp only [On] at hQ
     apply D
     grind
    rw [add_of F hn h3 h' hs']
    simp only [third]
    congr 1 <;> grind
theorem neg_hom (F : Fld p) {P Q : Pt p} (hP : On a b P) (hQ : On a b Q) : neg (add a P Q) = add a (neg P) (neg Q) := by
 cases P with
 | O => simp only [neg, O_add]
 | A x1 y1 => cases Q with
  | O => simp only [neg, add_O]
  | A x2 y2 =>
   by_cases h : x1 = x2 ∧ y1 + y2 = 0
   ·have h' : x1 = x2 ∧ -y1 + -y2 = 0 := ⟨h.1, by have := h.2; grobner⟩
    simp only [neg, add, if_pos h, if_pos h']
   ·have h' : ¬ (x1 = x2 ∧ -y1 + -y2 = 0) := fun h' => h ⟨h'.1, by have := h'.2; grobner⟩
    have hs := slope_sl F hP hQ h
    generalize slope a x1 y1 x2 y2 = s at hs
    rw [add_of F hP hQ h hs]
    have hs' : Sl a x1 (-y1) x2 (-y2) (-s) := by
     obtain ⟨u, v⟩ := hs
     exact ⟨by grobner, by grobner⟩
    have hP' := neg_on hP
    have hQ' := neg_on hQ
    simp only [neg] at hP' hQ' ⊢
    rw [add_of F hP' hQ' h' hs']
    simp only [third, neg]
    congr 1 <;> grobner
theorem turned (F : Fld p) (D : 4 * a * a * a + 27 * b * b ≠ 0) {P Q R : Pt p} (hP : On a b P) (hQ : On a b Q) (hR : On a b R) (h : add a P Q = neg R) : add a Q R = neg P := by
 have h1 := neg_add F D hQ hP
 rw [add_comm F hQ hP, h, ← neg_hom F hQ hR] at h1
 rw [← h1, neg_neg]
theorem lines (F : Fld p) {x1 y1 x2 y2 x3 y3 l m k : Fin p} (hd : l - m ≠ 0) (hk : k * (l - m) = (x3 - x2) - (x1 - x2)) (s12 : Sl a x1 y1 x2 y2 l) (s23 : Sl a x2 y2 x3 y3 m) :
  Sl a (l * l - x1 - x2) (l * (x1 - (l * l - x1 - x2)) - y1) x3 y3 (-(l + k)) ∧
  Sl a x1 y1 (m * m - x2 - x3) (m * (x2 - (m * m - x2 - x3)) - y2) (-(m + k)) ∧
  (-(l + k)) * (-(l + k)) - (l * l - x1 - x2) - x3 = (-(m + k)) * (-(m + k)) - x1 - (m * m - x2 - x3) ∧
  (-(l + k)) * ((l * l - x1 - x2) - ((-(m + k)) * (-(m + k)) - x1 - (m * m - x2 - x3))) - (l * (x1 - (l * l - x1 - x2)) - y1) = (-(m + k)) * (x1 - ((-(m + k)) * (-(m + k)) - x1 - (m * m - x2 - x3))) - y1 := by
 obtain ⟨u1, v1⟩ := s12
 obtain ⟨u2, v2⟩ := s23
 have hy1 : y1 = y2 - l * (x2 - x1) := by clear v1 v2 u2 hk hd; grobner
 have hy3 : y3 = y2 + m * (x3 - x2) := by clear v1 v2 u1 hk hd hy1; grobner
 have ha : a = l * (y1 + y2) - (x1 * x1 + x1 * x2 + x2 * x2) := by clear v2 u1 u2 hk hd hy1 hy3; grobner
 subst ha hy1 hy3
 have hx : x3 = x1 + k * (l - m) := by clear v1 v2 u1 u2 hd; grobner
 subst hx
 have r : (l - m) * (2 * y2 + (l + m) * (x1 + k * (l - m) - x2) - k * (l * l - x1 - x2 - (x1 + k * (l - m)))) = 0 := by clear v1 u1 u2 hk hd; grobner
 have r2 := (F.nz _ _ r).resolve_left hd
 clear r v2 v1 hk u1 u2
 refine ⟨⟨?_, ?_⟩, ⟨?_, ?_⟩, ?_, ?_⟩ <;> grobner
theorem add_assoc (F : Fld p) (D : 4 * a * a * a + 27 * b * b ≠ 0) {P Q R : Pt p} (hP : On a b P) (hQ : On a b Q) (hR : On a b R) : add a (add a P Q) R = add a P (add a Q R) := by
 have hPQ := add_on F hP hQ
 have hQR := add_on F hQ hR
 cases P with
 | O => rw [O_add, O_add]
 | A x1 y1 => cases Q with
  | O => rw [O_add, add_O]
  | A x2 y2 => cases R with
   | O => rw [add_O, add_O]
   | A x3 y3 =>
    by_cases h12 : x1 = x2 ∧ y1 + y2 = 0
    ·have e : add a (.A x1 y1) (.A x2 y2) = .O := by simp only [add, if_pos h12]
     have e2 : Pt.A x1 y1 = neg (.A x2 y2) := by simp only [neg]; congr 1 <;> grind
     rw [e, O_add, e2, neg_add F D hQ hR]
    by_cases h23 : x2 = x3 ∧ y2 + y3 = 0
    ·have e : add a (.A x2 y2) (.A x3 y3) = .O := by simp only [add, if_pos h23]
     have e2 : Pt.A x3 y3 = neg (.A x2 y2) := by simp only [neg]; congr 1 <;> grind
     rw [e, add_O, add_comm F hPQ hR, add_comm F hP hQ, e2, neg_add F D hQ hP]
    have s12 := slope_sl F hP hQ h12
    have s23 := slope_sl F hQ hR h23
    generalize slope a x1 y1 x2 y2 = l at s12
    generalize slope a x2 y2 x3 y3 = m at s23
    have e12 := add_of F hP hQ h12 s12
    have e23 := add_of F hQ hR h23 s23
    by_cases hS : add a (.A x1 y1) (.A x2 y2) = neg (.A x3 y3)
    ·rw [turned F D hP hQ hR hS, add_neg, hS, add_comm F (neg_on hR) hR, add_neg]
    by_cases hU : add a (.A x2 y2) (.A x3 y3) = neg (.A x1 y1)
    ·have := turned F D hR hQ hP (by rw [add_comm F hR hQ]; exact hU)
     rw [add_comm F hQ hP] at this
     rw [hU, add_neg, this, add_comm F (neg_on hR) hR, add_neg]
    rw [e12] at hPQ hS ⊢
    rw [e23] at hQR hU ⊢
    by_cases hlm : l = m
    ·subst hlm
     obtain ⟨u1, v1⟩ := s12
     obtain ⟨u2, v2⟩ := s23
     have r : (x1 - x3) * (l * l - x1 - x2 - x3) = 0 := by
      clear hS hU e12 e23 hPQ hQR hP hQ hR h12 h23 D
      have q1 : y1 - y3 = l * (x1 - x3) := by clear v1 v2; grobner
      have q2 : l * (y1 - y3) = (x1 - x3) * (x1 + x2 + x3) := by clear u1 u2 q1; grobner
      rw [q1] at q2
      clear u1 u2 v1 v2 q1
      grobner
     rcases F.nz _ _ r with h | h
     ·have hx : x1 = x3 := by clear hS hU e12 e23 hPQ hQR hP hQ hR h12 h23 D u1 u2 v1 v2; grobner
      have hy : y1 = y3 := by clear hS hU e12 e23 hPQ hQR hP hQ hR h12 h23 D v1 v2; grobner
      subst hx hy
      rw [← e12, ← e23, add_comm F hQ hP, add_comm F hP (add_on F hP hQ)]
     ·exfalso
      apply hS
      simp only [third, neg]
      have hx : l * l - x1 - x2 = x3 := by clear hS hU e12 e23 hPQ hQR hP hQ hR h12 h23 D u1 u2 v1 v2; grobner
      rw [hx]
      congr 1
      clear hS hU e12 e23 hPQ hQR hP hQ hR h12 h23 D v1 v2 h hx r
      grobner
    ·have hd : l - m ≠ 0 := fun h => hlm (by grind)
     have hk : ∃ k, k * (l - m) = (x3 - x2) - (x1 - x2) := ⟨finv (l - m) * ((x3 - x2) - (x1 - x2)), by have := F.mul_inv hd; grobner⟩
     obtain ⟨k, hk⟩ := hk
     obtain ⟨c1, c2, c3, c4⟩ := lines F hd hk s12 s23
     simp only [third] at *
     rw [add_of F hPQ hR (fun h => hS (by simp only [neg]; congr 1 <;> grobner)) c1, add_of F hP hQR (fun h => hU (by simp only [neg]; congr 1 <;> grobner)) c2]
     simp only [third]
     rw [c3, c4]
end
end Go.Proofs.G

namespace Go.Proofs.G
section
variable {p : Nat} [NeZero p]
structure Tw (d : Fin p) : Prop where
 ns : ∀ z : Fin p, z * z ≠ d
 i : ∃ z : Fin p, z * z = -1
def EOn (d : Fin p) (a : Fin p × Fin p) : Prop := a.2 * a.2 - a.1 * a.1 = 1 + d * a.1 * a.1 * a.2 * a.2
noncomputable def eadd (d : Fin p) (a b : Fin p × Fin p) : Fin p × Fin p :=
 ((a.1 * b.2 + a.2 * b.1) * finv (1 + d * a.1 * b.1 * a.2 * b.2), (a.2 * b.2 + a.1 * b.1) * finv (1 - d * a.1 * b.1 * a.2 * b.2))
theorem em_sq (F : Fld p) {x1 y1 x2 y2 d e : Fin p} (h : Tw d) (e1 : y1*y1 - x1*x1 = 1 + d*x1*x1*y1*y1) (e2 : y2*y2 - x2*x2 = 1 + d*x2*x2*y2*y2) (he : e * e = 1) (hm : d * x1 * x2 * y1 * y2 = e) : False := by
 obtain ⟨i, hi⟩ := h.i
 have n1 : x1 ≠ 0 ∧ y1 ≠ 0 ∧ x2 ≠ 0 ∧ y2 ≠ 0 := by
  have : e ≠ 0 := by
   intro h
   subst h
   have : (2 : Fin p) = 0 := by grobner
   exact F.two this
  refine ⟨?_, ?_, ?_, ?_⟩ <;> (intro h; subst h; apply this; clear e1 e2 he hi; grobner)
 have q : d*x1*x1*y1*y1*(y2*y2 - x2*x2) = y1*y1 - x1*x1 := by
  rw [e1]
  have : (d*x1*x1*y1*y1) * (d*x2*x2*y2*y2) = 1 := by rw [← he, ← hm]; grobner
  rw [e2]
  clear e1 e2 hm he hi
  grobner
 have r : ∀ s : Fin p, s * s = 1 → (y1 + s * e * i * x1) * (y1 + s * e * i * x1) = d * (x1 * y1) * (x1 * y1) * ((y2 + s * i * x2) * (y2 + s * i * x2)) := by
  intro s hs
  have t1 : (y1 + s * e * i * x1) * (y1 + s * e * i * x1) = (y1 * y1 - x1 * x1) + 2 * s * e * i * x1 * y1 := by clear e1 e2 q hm; grobner
  have t2 : (y2 + s * i * x2) * (y2 + s * i * x2) = (y2 * y2 - x2 * x2) + 2 * s * i * x2 * y2 := by clear e1 e2 q hm; grobner
  rw [t1, t2, ← q, ← hm]
  clear t1 t2 e1 e2 q hm he hs hi
  grobner
 have s0 : ∀ s : Fin p, s * s = 1 → y2 + s * i * x2 = 0 := by
  intro s hs
  have hr := r s hs
  apply Classical.byContradiction
  intro h0
  have m1 := F.mul_inv n1.1
  have m2 := F.mul_inv n1.2.1
  have m3 := F.mul_inv h0
  generalize y2 + s * i * x2 = w at *
  generalize y1 + s * e * i * x1 = v at *
  generalize finv x1 = a at *
  generalize finv y1 = b at *
  generalize finv w = c at *
  apply h.ns (v * a * b * c)
  have : (v * a * b * c) * (v * a * b * c) = (v * v) * (a * a * b * b * c * c) := by clear hr m1 m2 m3 r q e1 e2 hm hi he hs; grobner
  rw [this, hr]
  have : d * (x1 * y1) * (x1 * y1) * (w * w) * (a * a * b * b * c * c) = d * (x1 * a) * (x1 * a) * ((y1 * b) * (y1 * b)) * ((w * c) * (w * c)) := by clear hr m1 m2 m3 r q e1 e2 hm hi he hs this; grobner
  rw [this, m1, m2, m3]
  clear hr m1 m2 m3 r q e1 e2 hm hi he hs this
  grobner
 have a1 := s0 1 (by grobner)
 have a2 := s0 (-1) (by grobner)
 have : 2 * y2 = 0 := by clear r q e1 e2 hm he hi s0; grobner
 rcases F.nz _ _ this with h | h
 ·exact F.two h
 ·exact n1.2.2.2 h
theorem em_p (F : Fld p) {x1 y1 x2 y2 d : Fin p} (h : Tw d) (e1 : EOn d (x1, y1)) (e2 : EOn d (x2, y2)) : 1 + d * x1 * x2 * y1 * y2 ≠ 0 := fun h0 => em_sq F (e := -1) h e1 e2 (by grobner) (by clear e1 e2; grobner)
theorem em_n (F : Fld p) {x1 y1 x2 y2 d : Fin p} (h : Tw d) (e1 : EOn d (x1, y1)) (e2 : EOn d (x2, y2)) : 1 - d * x1 * x2 * y1 * y2 ≠ 0 := fun h0 => em_sq F (e := 1) h e1 e2 (by grobner) (by clear e1 e2; grobner)
theorem eadd_comm (d : Fin p) (a b : Fin p × Fin p) : eadd d a b = eadd d b a := by
 unfold eadd
 have h : d * b.1 * a.1 * b.2 * a.2 = d * a.1 * b.1 * a.2 * b.2 := by grobner
 rw [h]
 congr 1 <;> grobner
theorem eadd_zero (F : Fld p) (d : Fin p) (a : Fin p × Fin p) : eadd d a (0, 1) = a := by
 unfold eadd
 have h1 : finv (1 : Fin p) = 1 := (F.uniq (by grobner)).symm
 have h2 : (1 + d * a.1 * 0 * a.2 * 1 : Fin p) = 1 := by grobner
 have h3 : (1 - d * a.1 * 0 * a.2 * 1 : Fin p) = 1 := by grobner
 simp only [h2, h3, h1]
 obtain ⟨x, y⟩ := a
 congr 1 <;> grobner
theorem ezero_on (d : Fin p) : EOn d ((0, 1) : Fin p × Fin p) := by unfold EOn; grobner
theorem on_id (x1 y1 x2 y2 d : Fin p) (e1 : y1*y1 - x1*x1 = 1 + d*x1*x1*y1*y1) (e2 : y2*y2 - x2*x2 = 1 + d*x2*x2*y2*y2) :
  ((y1*y2+x1*x2)*(1+d*x1*x2*y1*y2))*((y1*y2+x1*x2)*(1+d*x1*x2*y1*y2)) - ((x1*y2+y1*x2)*(1-d*x1*x2*y1*y2))*((x1*y2+y1*x2)*(1-d*x1*x2*y1*y2)) = (1+d*x1*x2*y1*y2)*(1+d*x1*x2*y1*y2)*(1-d*x1*x2*y1*y2)*(1-d*x1*x2*y1*y2) + d*(x1*y2+y1*x2)*(x1*y2+y1*x2)*(y1*y2+x1*x2)*(y1*y2+x1*x2) := by grobner
theorem eadd_on (F : Fld p) {d : Fin p} (h : Tw d) {a b : Fin p × Fin p} (ha : EOn d a) (hb : EOn d b) : EOn d (eadd d a b) := by
 obtain ⟨x1, y1⟩ := a
 obtain ⟨x2, y2⟩ := b
 have m1 := F.mul_inv (em_p F h ha hb)
 have m2 := F.mul_inv (em_n F h ha hb)
 have q := on_id x1 y1 x2 y2 d ha hb
 unfold eadd EOn
 simp only
 generalize finv (1 + d * x1 * x2 * y1 * y2) = u at *
 generalize finv (1 - d * x1 * x2 * y1 * y2) = v at *
 generalize 1 + d * x1 * x2 * y1 * y2 = M at *
 generalize 1 - d * x1 * x2 * y1 * y2 = N at *
 generalize x1 * y2 + y1 * x2 = A at *
 generalize y1 * y2 + x1 * x2 = B at *
 have hM : M * u * (M * u) * (N * v * (N * v)) = 1 := by rw [m1, m2]; grobner
 have l : B * v * (B * v) - A * u * (A * u) = ((B * M) * (B * M) - (A * N) * (A * N)) * (u * u * v * v) := by
  have l1 : ((B * M) * (B * M) - (A * N) * (A * N)) * (u * u * v * v) = (M * u) * (M * u) * (B * v * (B * v)) - (N * v) * (N * v) * (A * u * (A * u)) := by clear m1 m2 hM q ha hb; grobner
  rw [l1, m1, m2]
  clear m1 m2 hM q ha hb l1
  grobner
 rw [l, q]
 have l2 : (M * M * N * N + d * A * A * B * B) * (u * u * v * v) = M * u * (M * u) * (N * v * (N * v)) + d * (A * u) * (A * u) * (B * v) * (B * v) := by clear m1 m2 hM q ha hb l; grobner
 rw [l2, hM]
theorem assoc_x (x1 y1 x2 y2 x3 y3 d : Fin p)
(e1 : y1*y1 - x1*x1 = 1 + d*x1*x1*y1*y1) (e2 : y2*y2 - x2*x2 = 1 + d*x2*x2*y2*y2) (e3 : y3*y3 - x3*x3 = 1 + d*x3*x3*y3*y3) :
((x1*y2+y1*x2)*(1-d*x1*x2*y1*y2)*y3 + (y1*y2+x1*x2)*(1+d*x1*x2*y1*y2)*x3) * ((1-d*x2*x3*y2*y3)*(1+d*x2*x3*y2*y3) + d*(x2*y3+y2*x3)*(y2*y3+x2*x3)*x1*y1)
= (x1*(y2*y3+x2*x3)*(1+d*x2*x3*y2*y3) + y1*(x2*y3+y2*x3)*(1-d*x2*x3*y2*y3)) * ((1-d*x1*x2*y1*y2)*(1+d*x1*x2*y1*y2) + d*(x1*y2+y1*x2)*(y1*y2+x1*x2)*x3*y3) := by grobner
theorem assoc_y (x1 y1 x2 y2 x3 y3 d : Fin p)
(e1 : y1*y1 - x1*x1 = 1 + d*x1*x1*y1*y1) (e2 : y2*y2 - x2*x2 = 1 + d*x2*x2*y2*y2) (e3 : y3*y3 - x3*x3 = 1 + d*x3*x3*y3*y3) :
((y1*y2+x1*x2)*(1+d*x1*x2*y1*y2)*y3 + (x1*y2+y1*x2)*(1-d*x1*x2*y1*y2)*x3) * ((1-d*x2*x3*y2*y3)*(1+d*x2*x3*y2*y3) - d*(x2*y3+y2*x3)*(y2*y3+x2*x3)*x1*y1)
= (y1*(y2*y3+x2*x3)*(1+d*x2*x3*y2*y3) + x1*(x2*y3+y2*x3)*(1-d*x2*x3*y2*y3)) * ((1-d*x1*x2*y1*y2)*(1+d*x1*x2*y1*y2) - d*(x1*y2+y1*x2)*(y1*y2+x1*x2)*x3*y3) := by grobner
theorem frac {n1 n2 d1 d2 a b : Fin p} (h : n1 * d2 = n2 * d1) (h1 : d1 * a = 1) (h2 : d2 * b = 1) : n1 * a = n2 * b := by
 have e1 : n1 * a = n1 * a * (d2 * b) := by rw [h2]; grobner
 have e2 : n2 * b = n2 * b * (d1 * a) := by rw [h1]; grobner
 have e3 : n1 * a * (d2 * b) = (n1 * d2) * (a * b) := by grobner
 rw [e1, e2, e3, h]
 grobner
theorem fold_p {A B M N u v x y d w : Fin p} (hu : M * u = 1) (hv : N * v = 1) (h : (1 + d * (A * u) * x * (B * v) * y) * w = 1) :
  (M * N + d * A * B * x * y) * (u * v * w) = 1 ∧ (A * u * y + B * v * x) * w = (A * N * y + B * M * x) * (u * v * w) ∧ (B * v * y + A * u * x) * w = (B * M * y + A * N * x) * (u * v * w) := by
 refine ⟨?_, ?_, ?_⟩
 ·have e : (M * N + d * A * B * x * y) * (u * v * w) = ((M * u) * (N * v) + d * (A * u) * x * (B * v) * y) * w := by grobner
  rw [e, hu, hv, ← h]
  grobner
 ·have e : (A * N * y + B * M * x) * (u * v * w) = ((A * u) * (N * v) * y + (B * v) * (M * u) * x) * w := by grobner
  rw [e, hu, hv]
  grobner
 ·have e : (B * M * y + A * N * x) * (u * v * w) = ((B * v) * (M * u) * y + (A * u) * (N * v) * x) * w := by grobner
  rw [e, hu, hv]
  grobner
theorem fold_n {A B M N u v x y d w : Fin p} (hu : M * u = 1) (hv : N * v = 1) (h : (1 - d * (A * u) * x * (B * v) * y) * w = 1) :
  (M * N - d * A * B * x * y) * (u * v * w) = 1 ∧ (B * v * y + A * u * x) * w = (B * M * y + A * N * x) * (u * v * w) := by
 refine ⟨?_, ?_⟩
 ·have e : (M * N - d * A * B * x * y) * (u * v * w) = ((M * u) * (N * v) - d * (A * u) * x * (B * v) * y) * w := by grobner
  rw [e, hu, hv, ← h]
  grobner
 ·have e : (B * M * y + A * N * x) * (u * v * w) = ((B * v) * (M * u) * y + (A * u) * (N * v) * x) * w := by grobner
  rw [e, hu, hv]
  grobner
theorem eadd_assoc (F : Fld p) {d : Fin p} (h : Tw d) {a b c : Fin p × Fin p} (ha : EOn d a) (hb : EOn d b) (hc : EOn d c) : eadd d (eadd d a b) c = eadd d a (eadd d b c) := by
 rw [eadd_comm d a (eadd d b c)]
 obtain ⟨x1, y1⟩ := a
 obtain ⟨x2, y2⟩ := b
 obtain ⟨x3, y3⟩ := c
 have u1 := F.mul_inv (em_p F h ha hb)
 have v1 := F.mul_inv (em_n F h ha hb)
 have u2 := F.mul_inv (em_p F h hb hc)
 have v2 := F.mul_inv (em_n F h hb hc)
 have hS := eadd_on F h ha hb
 have hU := eadd_on F h hb hc
 have gx := assoc_x x1 y1 x2 y2 x3 y3 d ha hb hc
 have gy := assoc_y x1 y1 x2 y2 x3 y3 d ha hb hc
 simp only [eadd] at hS hU ⊢
 have w1 := F.mul_inv (em_p F h hS hc)
 have z1 := F.mul_inv (em_n F h hS hc)
 have w2 := F.mul_inv (em_p F h hU ha)
 have z2 := F.mul_inv (em_n F h hU ha)
 generalize finv (1 + d * x1 * x2 * y1 * y2) = i1 at *
 generalize finv (1 - d * x1 * x2 * y1 * y2) = j1 at *
 generalize finv (1 + d * x2 * x3 * y2 * y3) = i2 at *
 generalize finv (1 - d * x2 * x3 * y2 * y3) = j2 at *
 have f1 := fold_p u1 v1 w1
 have f2 := fold_p u2 v2 w2
 have f3 := fold_n u1 v1 z1
 have f4 := fold_n u2 v2 z2
 rw [f1.2.1, f2.2.1, f3.2, f4.2]
 congr 1
 ·refine frac ?_ f1.1 f2.1
  clear f1 f2 f3 f4 gy w1 w2 z1 z2 u1 u2 v1 v2 hS hU ha hb hc
  grobner
 ·refine frac ?_ f3.1 f4.1
  clear f1 f2 f3 f4 gx w1 w2 z1 z2 u1 u2 v1 v2 hS hU ha hb hc
  grobner
end
end Go.Proofs.G

namespace Go.Proofs.G
def PrimeN (p : Nat) : Prop := 2 ≤ p ∧ ∀ d, 2 ≤ d → d * d ≤ p → ¬ d ∣ p
theorem PrimeN.dvd {p : Nat} (h : PrimeN p) {g : Nat} (hg : g ∣ p) : g = 1 ∨ g = p := by
 obtain ⟨k, hk⟩ := hg
 have hp := h.1
 rcases Nat.lt_or_ge g 2 with h1 | h1
 ·left
  have : g ≠ 0 := by intro e; subst e; omega
  omega
 rcases Nat.lt_or_ge k 2 with h2 | h2
 ·right
  have : k ≠ 0 := by intro e; subst e; omega
  have : k = 1 := by omega
  subst this
  omega
 exfalso
 rcases Nat.le_total g k with h3 | h3
 ·exact h.2 g h1 (by rw [hk]; exact Nat.mul_le_mul_left g h3) ⟨k, hk⟩
 ·exact h.2 k h2 (by rw [hk, Nat.mul_comm g k]; exact Nat.mul_le_mul_left k h3) ⟨g, by rw [hk, Nat.mul_comm]⟩
theorem PrimeN.coprime {p : Nat} (h : PrimeN p) {x : Nat} (hx : ¬ p ∣ x) : Nat.gcd x p = 1 := by
 rcases h.dvd (Nat.gcd_dvd_right x p) with h1 | h1
 ·exact h1
 ·exact absurd (h1 ▸ Nat.gcd_dvd_left x p) hx
theorem PrimeN.mul {p : Nat} (h : PrimeN p) {x y : Nat} (hxy : p ∣ x * y) : p ∣ x ∨ p ∣ y := by
 by_cases hx : p ∣ x
 ·exact .inl hx
 ·right
  have hc : Nat.Coprime p x := by
   have := h.coprime hx
   rw [Nat.gcd_comm] at this
   exact this
  exact hc.dvd_of_dvd_mul_left hxy
def invGo (r s : Nat) (x y : Int) : Nat × Int :=
 if h : s = 0 then (r, x) else invGo s (r % s) y (x - (r / s : Nat) * y)
termination_by s
decreasing_by exact Nat.mod_lt _ (by omega)
theorem invGo_spec (m a : Int) : ∀ (s r : Nat) (x y : Int), m ∣ (r - a * x) → m ∣ (s - a * y) → (invGo r s x y).1 = Nat.gcd r s ∧ m ∣ ((invGo r s x y).1 - a * (invGo r s x y).2) := by
 intro s
 induction s using Nat.strongRecOn with
 | _ s ih =>
  intro r x y h1 h2
  rw [invGo]
  split
  ·rename_i h
   subst h
   exact ⟨by simp, h1⟩
  ·rename_i h
   have hlt : r % s < s := Nat.mod_lt _ (by omega)
   have h3 : m ∣ (((r % s : Nat) : Int) - a * (x - (r / s : Nat) * y)) := by
    have hd : (r : Int) = s * (r / s : Nat) + (r % s : Nat) := by exact_mod_cast (Nat.div_add_mod r s).symm
    have e : (((r % s : Nat) : Int) - a * (x - (r / s : Nat) * y)) = (r - a * x) - (r / s : Nat) * (s - a * y) := by
     generalize ((r / s : Nat) : Int) = q at *
     generalize ((r % s : Nat) : Int) = t at *
     grind
    rw [e]
    exact Int.dvd_sub h1 (Int.dvd_mul_of_dvd_right h2)
   have := ih (r % s) hlt s y _ h2 h3
   refine ⟨?_, this.2⟩
   rw [this.1, Nat.gcd_comm s, ← Nat.gcd_rec, Nat.gcd_comm]
def invI (a m : Int) : Int :=
 let g := invGo m.toNat (a % m).toNat 0 1
 if g.1 = 1 then g.2 % m else 0
theorem invI_spec {a m : Int} (hm : 0 < m) (hc : Nat.gcd m.toNat (a % m).toNat = 1) : m ∣ (1 - a * invI a m) := by
 have h1 : m ∣ ((m.toNat : Int) - a * 0) := by rw [Int.toNat_of_nonneg (by omega)]; simp
 have h2 : m ∣ (((a % m).toNat : Int) - a * 1) := by
  rw [Int.toNat_of_nonneg (Int.emod_nonneg _ (by omega)), Int.mul_one]
  have := Int.emod_def a m
  exact ⟨-(a / m), by grind⟩
 have := invGo_spec m a _ _ _ _ h1 h2
 unfold invI
 simp only
 rw [this.1, if_pos hc] at *
 have h3 := this.2
 rw [hc] at h3
 have h4 : m ∣ ((invGo m.toNat (a % m).toNat 0 1).2 - (invGo m.toNat (a % m).toNat 0 1).2 % m) := by
  generalize (invGo m.toNat (a % m).toNat 0 1).2 = z
  exact ⟨z / m, by have := Int.emod_def z m; grind⟩
 generalize (invGo m.toNat (a % m).toNat 0 1).2 = z at *
 obtain ⟨k, hk⟩ := h3
 obtain ⟨l, hl⟩ := h4
 exact ⟨k + a * l, by grind⟩
theorem invI_range {a m : Int} (hm : 0 < m) : 0 ≤ invI a m ∧ invI a m < m := by
 unfold invI
 simp only
 split
 ·exact ⟨Int.emod_nonneg _ (by omega), Int.emod_lt_of_pos _ hm⟩
 ·omega
end Go.Proofs.G

namespace Go.Proofs.G
structure Mon {α : Type} (S : α → Prop) (op : α → α → α) (e : α) : Prop where
 e_ok : S e
 op_ok : ∀ {a b}, S a → S b → S (op a b)
 assoc : ∀ {a b c}, S a → S b → S c → op (op a b) c = op a (op b c)
 comm : ∀ {a b}, S a → S b → op a b = op b a
 e_op : ∀ {a}, S a → op e a = a
section
variable {α : Type} {S : α → Prop} {op : α → α → α} {e : α}
def npow (op : α → α → α) (e : α) : Nat → α → α
 | 0, _ => e
 | n + 1, a => op (npow op e n a) a
theorem Mon.pow_ok (M : Mon S op e) {a : α} (h : S a) : ∀ n, S (npow op e n a)
 | 0 => M.e_ok
 | n + 1 => M.op_ok (M.pow_ok h n) h
theorem Mon.pow_add (M : Mon S op e) {a : α} (h : S a) (m : Nat) : ∀ n, npow op e (m + n) a = op (npow op e m a) (npow op e n a)
 | 0 => by rw [npow, M.comm (M.pow_ok h m) M.e_ok, M.e_op (M.pow_ok h m)]; rfl
 | n + 1 => by
  rw [← Nat.add_assoc, npow, M.pow_add h m n, M.assoc (M.pow_ok h m) (M.pow_ok h n) h]
  rfl
theorem Mon.pow_two (M : Mon S op e) {a : α} (h : S a) : ∀ n, npow op e n (op a a) = npow op e (2 * n) a
 | 0 => rfl
 | n + 1 => by
  rw [npow, M.pow_two h n, Nat.mul_add, M.pow_add h (2 * n) 2]
  congr 1
  show op a a = op (op e a) a
  rw [M.e_op h]
def mulL (op : α → α → α) (n : Nat) (out a : α) : α :=
 if h : n = 0 then out else mulL op (n / 2) (if n % 2 = 1 then op out a else out) (op a a)
termination_by n
decreasing_by omega
theorem Mon.mulL (M : Mon S op e) : ∀ (n : Nat) {out a : α}, S out → S a → mulL op n out a = op out (npow op e n a) := by
 intro n
 induction n using Nat.strongRecOn with
 | _ n ih =>
  intro out a ho ha
  rw [G.mulL]
  split
  ·rename_i h
   subst h
   rw [npow, M.comm ho M.e_ok, M.e_op ho]
  ·rename_i h
   have hs : S (if n % 2 = 1 then op out a else out) := by
    split
    ·exact M.op_ok ho ha
    ·exact ho
   rw [ih (n / 2) (by omega) hs (M.op_ok ha ha), M.pow_two ha]
   split
   ·rename_i h1
    rw [M.assoc ho ha (M.pow_ok ha _)]
    congr 1
    have e1 : n = 2 * (n / 2) + 1 := by omega
    conv => rhs; rw [e1, npow]
    rw [M.comm ha (M.pow_ok ha _)]
   ·have e1 : n = 2 * (n / 2) := by omega
    conv => rhs; rw [e1]
def mulM (op : α → α → α) (e : α) (n : Nat) (a : α) : α :=
 if h : n = 0 then e else
  let d := mulM op e (n / 2) a
  if n % 2 = 1 then op (op d d) a else op d d
termination_by n
decreasing_by omega
theorem Mon.mulM (M : Mon S op e) {a : α} (ha : S a) : ∀ (n : Nat), mulM op e n a = npow op e n a := by
 intro n
 induction n using Nat.strongRecOn with
 | _ n ih =>
  rw [G.mulM]
  split
  ·rename_i h
   subst h
   rfl
  ·rename_i h
   simp only
   rw [ih (n / 2) (by omega), ← M.pow_add ha]
   split
   ·have e1 : n = (n / 2 + n / 2) + 1 := by omega
    conv => rhs; rw [e1]
    rfl
   ·have e1 : n = n / 2 + n / 2 := by omega
    conv => rhs; rw [e1]
theorem Mon.same (M : Mon S op e) {a : α} (ha : S a) (n : Nat) : G.mulM op e n a = G.mulL op n e a := by
 rw [M.mulM ha, M.mulL n M.e_ok ha, M.e_op (M.pow_ok ha n)]
end
end Go.Proofs.G

namespace Go.Proofs.G
section
variable {p : Nat} [NeZero p]
def phi (n : Int) : Fin p := ⟨(n % p).toNat, by
 have : 0 < p := Nat.pos_of_ne_zero (NeZero.ne p)
 have h1 := Int.emod_lt_of_pos n (b := p) (by omega)
 have h2 := Int.emod_nonneg n (b := p) (by omega)
 omega⟩
theorem pos : (0 : Int) < p := by have : 0 < p := Nat.pos_of_ne_zero (NeZero.ne p); omega
theorem phi_val (n : Int) : (((phi n : Fin p).val : Nat) : Int) = n % p := Int.toNat_of_nonneg (Int.emod_nonneg _ (by have := pos (p := p); omega))
theorem phi_eq {m n : Int} : (phi m : Fin p) = phi n ↔ m % p = n % p := by
 constructor
 ·intro h
  rw [← phi_val m, ← phi_val n, h]
 ·intro h
  apply Fin.ext
  have := phi_val (p := p) m
  have := phi_val (p := p) n
  omega
theorem phi_mod (n : Int) : (phi (n % p) : Fin p) = phi n := phi_eq.mpr (by simp)
theorem phi_add (m n : Int) : (phi (m + n) : Fin p) = phi m + phi n := by
 apply Fin.ext
 apply Int.ofNat.inj
 show (((phi (m + n) : Fin p).val : Nat) : Int) = ((((phi m).val + (phi n).val) % p : Nat) : Int)
 rw [phi_val, Int.natCast_emod, Int.natCast_add, phi_val, phi_val]
 simp
theorem phi_mul (m n : Int) : (phi (m * n) : Fin p) = phi m * phi n := by
 apply Fin.ext
 apply Int.ofNat.inj
 show (((phi (m * n) : Fin p).val : Nat) : Int) = ((((phi m).val * (phi n).val) % p : Nat) : Int)
 rw [phi_val, Int.natCast_emod, Int.natCast_mul, phi_val, phi_val]
 simp [Int.mul_emod]
theorem phi_zero : (phi 0 : Fin p) = 0 := by
 apply Fin.ext
 simp [phi]
theorem phi_one : (phi 1 : Fin p) = 1 := by
 apply Fin.ext
 apply Int.ofNat.inj
 show (((phi 1 : Fin p).val : Nat) : Int) = ((1 % p : Nat) : Int)
 rw [phi_val]
 simp
theorem phi_neg (n : Int) : (phi (-n) : Fin p) = -phi n := by
 have : (phi (-n) : Fin p) + phi n = 0 := by rw [← phi_add, Int.add_left_neg, phi_zero]
 grind
theorem phi_sub (m n : Int) : (phi (m - n) : Fin p) = phi m - phi n := by
 rw [Int.sub_eq_add_neg, phi_add, phi_neg]
 grind
theorem phi_two : (phi 2 : Fin p) = 2 := by
 have : (2 : Int) = 1 + 1 := rfl
 rw [this, phi_add, phi_one]
 grind
theorem phi_three : (phi 3 : Fin p) = 3 := by
 have : (3 : Int) = 2 + 1 := rfl
 rw [this, phi_add, phi_two, phi_one]
 grind
theorem phi_four : (phi 4 : Fin p) = 4 := by
 have : (4 : Int) = 3 + 1 := rfl
 rw [this, phi_add, phi_three, phi_one]
 grind
theorem phi_27 : (phi 27 : Fin p) = 27 := by
 have : (27 : Int) = 4 * 4 + 4 + 4 + 3 := rfl
 rw [this]
 simp only [phi_add, phi_mul, phi_four, phi_three]
 grind
theorem phi_surj (x : Fin p) : phi (x.val : Int) = x := by
 apply Fin.ext
 apply Int.ofNat.inj
 show (((phi (x.val : Int) : Fin p).val : Nat) : Int) = (x.val : Int)
 rw [phi_val]
 exact Int.emod_eq_of_lt (by omega) (by have := x.isLt; omega)
theorem phi_inj {m n : Int} (h1 : 0 ≤ m) (h2 : m < p) (h3 : 0 ≤ n) (h4 : n < p) (h : (phi m : Fin p) = phi n) : m = n := by
 rw [phi_eq, Int.emod_eq_of_lt h1 h2, Int.emod_eq_of_lt h3 h4] at h
 exact h
theorem phi_z {n : Int} : (phi n : Fin p) = 0 ↔ n % p = 0 := by
 rw [← phi_zero, phi_eq]
 simp
theorem PrimeN.fld (h : PrimeN p) (h2 : p ≠ 2) : Fld p := by
 have hp := h.1
 have inv : ∀ x : Fin p, x ≠ 0 → x * phi (invI x.val p) = 1 := by
  intro x hx
  have hx' : x.val ≠ 0 := fun e => hx (Fin.ext (by rw [e]; simp))
  have hc : Nat.gcd ((p : Int)).toNat ((x.val : Int) % p).toNat = 1 := by
   rw [Int.toNat_natCast, ← Int.natCast_emod, Int.toNat_natCast, Nat.mod_eq_of_lt x.isLt, Nat.gcd_comm]
   apply h.coprime
   intro hd
   have := Nat.le_of_dvd (by omega) hd
   have := x.isLt
   omega
  have h1 := invI_spec (a := x.val) (m := p) pos hc
  have h3 : (phi (1 - (x.val : Int) * invI x.val p) : Fin p) = 0 := phi_z.mpr (Int.emod_eq_zero_of_dvd h1)
  rw [phi_sub, phi_mul, phi_one, phi_surj] at h3
  grind
 refine ⟨?_, fun x hx => ⟨_, inv x hx⟩, ?_⟩
 ·intro x y hxy
  by_cases hx : x = 0
  ·exact .inl hx
  ·right
   have := inv x hx
   generalize (phi (invI x.val p) : Fin p) = z at this
   have e : y = z * (x * y) := by grind
   rw [e, hxy]
   grind
 ·intro h0
  have := congrArg Fin.val h0
  have e : ((2 : Fin p)).val = 2 % p := rfl
  rw [e] at this
  have e0 : ((0 : Fin p)).val = 0 := by simp
  rw [e0] at this
  have := Nat.mod_eq_of_lt (show 2 < p by omega)
  omega
theorem phi_inv (F : Fld p) (h : PrimeN p) {a : Int} (ha : (phi a : Fin p) ≠ 0) : (phi (invI a p) : Fin p) = finv (phi a) := by
 apply F.uniq
 rw [← phi_mul]
 have hd : ¬ p ∣ (a % p).toNat := by
  intro hd
  apply ha
  rw [phi_z]
  have h1 := Int.emod_nonneg a (b := p) (by have := pos (p := p); omega)
  have h2 := Int.emod_lt_of_pos a (b := p) pos
  rcases Nat.eq_zero_or_pos (a % p).toNat with h0 | h0
  ·omega
  ·have := Nat.le_of_dvd h0 hd
   omega
 have hc := h.coprime hd
 rw [Nat.gcd_comm] at hc
 have := invI_spec (a := a) (m := p) pos (by rw [Int.toNat_natCast]; exact hc)
 have h3 : (phi (1 - a * invI a p) : Fin p) = 0 := phi_z.mpr (Int.emod_eq_zero_of_dvd this)
 rw [phi_sub, phi_one] at h3
 grind
end
end Go.Proofs.G

namespace Go.Proofs.G
section
variable {p : Nat} [NeZero p]
def fpow (x : Fin p) : Nat → Fin p
 | 0 => 1
 | n + 1 => fpow x n * x
theorem fpow_add (x : Fin p) (m : Nat) : ∀ n, fpow x (m + n) = fpow x m * fpow x n
 | 0 => by rw [fpow, Nat.add_zero]; grind
 | n + 1 => by rw [← Nat.add_assoc, fpow, fpow, fpow_add x m n]; grind
theorem fpow_sq (x : Fin p) (n : Nat) : fpow x (n + n) = fpow x n * fpow x n := fpow_add x n n
theorem fpow_mul (x y : Fin p) : ∀ n, fpow (x * y) n = fpow x n * fpow y n
 | 0 => by simp only [fpow]; grind
 | n + 1 => by simp only [fpow, fpow_mul x y n]; grind
def fprod (l : List (Fin p)) : Fin p := l.foldr (· * ·) 1
theorem fprod_perm {l m : List (Fin p)} (h : l.Perm m) : fprod l = fprod m := by
 induction h with
 | nil => rfl
 | cons x _ ih => simp only [fprod, List.foldr_cons] at *; rw [ih]
 | swap x y l => simp only [fprod, List.foldr_cons]; grind
 | trans _ _ h1 h2 => rw [h1, h2]
theorem fprod_map (x : Fin p) : ∀ l : List (Fin p), fprod (l.map (x * ·)) = fpow x l.length * fprod l
 | [] => by simp only [fprod, List.map_nil, List.foldr_nil, List.length_nil, fpow]; grind
 | a :: l => by
  have := fprod_map x l
  simp only [fprod, List.map_cons, List.foldr_cons, List.length_cons, fpow] at *
  rw [this]
  grind
theorem fprod_ne (F : Fld p) : ∀ {l : List (Fin p)}, (∀ x ∈ l, x ≠ 0) → fprod l ≠ 0
 | [], _ => by
  intro h
  have h1 : (1 : Fin p) = 0 := h
  have : (2 : Fin p) = 0 := by grind
  exact F.two this
 | a :: l, h => by
  intro h0
  rcases F.nz a (fprod l) h0 with h1 | h1
  ·exact h a List.mem_cons_self h1
  ·exact fprod_ne F (fun x hx => h x (List.mem_cons_of_mem _ hx)) h1
def units (p : Nat) [NeZero p] : List (Fin p) := (List.finRange p).filter fun x => x != 0
theorem units_mem {x : Fin p} : x ∈ units p ↔ x ≠ 0 := by simp [units, List.mem_filter]
theorem units_nodup : (units p).Nodup := (List.nodup_finRange p).sublist List.filter_sublist
theorem units_length (p : Nat) [NeZero p] : (units p).length = p - 1 := by
 have h := List.length_eq_countP_add_countP (fun x : Fin p => x != 0) (l := List.finRange p)
 have h1 : List.countP (fun x : Fin p => ¬(x != 0) = true) (List.finRange p) = 1 := by
  have : List.countP (fun x : Fin p => ¬(x != 0) = true) (List.finRange p) = List.count 0 (List.finRange p) := by
   rw [List.count]
   congr 1
   funext x
   by_cases h : x = 0 <;> simp [h]
  rw [this, (List.nodup_finRange p).count, if_pos (List.mem_finRange 0)]
 rw [List.length_finRange, h1] at h
 rw [units, ← List.countP_eq_length_filter]
 omega
theorem fermat (F : Fld p) {x : Fin p} (hx : x ≠ 0) : fpow x (p - 1) = 1 := by
 have hperm : ((units p).map (x * ·)).Perm (units p) := by
  apply (List.perm_ext_iff_of_nodup ?_ units_nodup).mpr
  ·intro a
   rw [units_mem, List.mem_map]
   constructor
   ·rintro ⟨y, hy, rfl⟩ h0
    rcases F.nz _ _ h0 with h | h
    ·exact hx h
    ·exact units_mem.mp hy h
   ·intro ha
    refine ⟨finv x * a, units_mem.mpr ?_, ?_⟩
    ·intro h0
     apply ha
     have := F.mul_inv hx
     have e : a = x * (finv x * a) := by grind
     rw [e, h0]
     grind
    ·have := F.mul_inv hx
     grind
  ·have := units_nodup (p := p)
   unfold List.Nodup at *
   rw [List.pairwise_map]
   exact this.imp fun {a b} h e => h (F.cancel hx e)
 have h1 := fprod_perm hperm
 rw [fprod_map, units_length] at h1
 have h2 := fprod_ne F (l := units p) (fun x hx => units_mem.mp hx)
 generalize fprod (units p) = q at *
 exact F.cancel h2 (by grind)
theorem euler (F : Fld p) (hp : p % 2 = 1) {x : Fin p} (hx : x ≠ 0) : fpow x ((p - 1) / 2) = 1 ∨ fpow x ((p - 1) / 2) = -1 := by
 have h := fermat F hx
 have e : p - 1 = (p - 1) / 2 + (p - 1) / 2 := by omega
 rw [e, fpow_sq] at h
 generalize fpow x ((p - 1) / 2) = y at *
 rcases F.nz (y - 1) (y + 1) (by grind) with h | h
 ·left; grind
 ·right; grind
theorem euler_sq (F : Fld p) (hp : p % 2 = 1) {z : Fin p} (hz : z * z ≠ 0) : fpow (z * z) ((p - 1) / 2) = 1 := by
 have h0 : z ≠ 0 := by intro h; subst h; apply hz; grind
 rw [fpow_mul, ← fpow_sq]
 have e : (p - 1) / 2 + (p - 1) / 2 = p - 1 := by omega
 rw [e]
 exact fermat F h0
end
def mulZ (m : Int) (a b : Int) : Int := a * b % m
theorem mon_mulZ {m : Int} (hm : 0 < m) : Mon (fun a => 0 ≤ a ∧ a < m) (mulZ m) (1 % m) := by
 have h : ∀ n : Int, 0 ≤ n % m ∧ n % m < m := fun n => ⟨Int.emod_nonneg _ (by omega), Int.emod_lt_of_pos _ hm⟩
 refine ⟨h _, fun _ _ => h _, fun {a b c} ha hb hc => ?_, fun {a b} _ _ => ?_, fun {a} ha => ?_⟩
 ·unfold mulZ
  rw [Int.mul_emod, Int.emod_emod, ← Int.mul_emod, Int.mul_emod a, Int.emod_emod, ← Int.mul_emod, Int.mul_assoc]
 ·unfold mulZ
  rw [Int.mul_comm]
 ·unfold mulZ
  rw [Int.mul_emod, Int.emod_emod, ← Int.mul_emod, Int.one_mul, Int.emod_eq_of_lt ha.1 ha.2]
def powZ (a : Int) (e : Nat) (m : Int) : Int := npow (mulZ m) (1 % m) e (a % m)
theorem powZ_L {m : Int} (hm : 0 < m) (a : Int) (e : Nat) : mulL (mulZ m) e (1 % m) (a % m) = powZ a e m := by
 have M := mon_mulZ hm
 have ha : 0 ≤ a % m ∧ a % m < m := ⟨Int.emod_nonneg _ (by omega), Int.emod_lt_of_pos _ hm⟩
 rw [M.mulL e M.e_ok ha, M.e_op (M.pow_ok ha e)]
 rfl
theorem powZ_M {m : Int} (hm : 0 < m) (a : Int) (e : Nat) : mulM (mulZ m) (1 % m) e (a % m) = powZ a e m := by
 have M := mon_mulZ hm
 have ha : 0 ≤ a % m ∧ a % m < m := ⟨Int.emod_nonneg _ (by omega), Int.emod_lt_of_pos _ hm⟩
 rw [M.mulM ha]
 rfl
theorem powZ_in {m : Int} (hm : 0 < m) (a : Int) (e : Nat) : 0 ≤ powZ a e m ∧ powZ a e m < m := by
 have M := mon_mulZ hm
 exact M.pow_ok ⟨Int.emod_nonneg _ (by omega), Int.emod_lt_of_pos _ hm⟩ e
theorem phi_powZ {p : Nat} [NeZero p] (a : Int) : ∀ e, (phi (powZ a e p) : Fin p) = fpow (phi a) e
 | 0 => by
  show (phi (1 % (p : Int)) : Fin p) = 1
  rw [phi_mod, phi_one]
 | e + 1 => by
  show (phi (mulZ p (powZ a e p) (a % p)) : Fin p) = fpow (phi a) e * phi a
  rw [mulZ, phi_mod, phi_mul, phi_powZ a e, phi_mod]
end Go.Proofs.G

namespace Go.Proofs.G
abbrev GPr := Int × Int
def eaddZ (p D : Int) (a b : GPr) : GPr :=
 let x := a.1 * b.1 % p
 let y := a.2 * b.2 % p
 let m := D * x % p * y % p
 ((a.1 * b.2 + a.2 * b.1) % p * invI (1 + m) p % p, (y + x) % p * invI (1 - m) p % p)
def esumZ (p D : Int) (a b : GPr) : GPr :=
 let m := D * a.1 % p * b.1 % p * a.2 % p * b.2 % p
 ((a.1 * b.2 + a.2 * b.1) % p * invI (1 + m) p % p, (a.2 * b.2 + a.1 * b.1) % p * invI (1 - m) p % p)
def eonZ (p D : Int) (a : GPr) : Bool :=
 decide (0 ≤ a.1) && decide (a.1 ≤ p - 1) && decide (0 ≤ a.2) && decide (a.2 ≤ p - 1) &&
 decide ((a.2 * a.2 % p - a.1 * a.1 % p) % p = (1 + D * (a.1 * a.1 % p) % p * (a.2 * a.2 % p)) % p)
section
variable {p : Nat} [NeZero p] {D : Int}
theorem esum_eq (a b : GPr) : esumZ p D a b = eaddZ p D a b := by
 have h1 : D * a.1 % (p : Int) * b.1 % p * a.2 % p * b.2 % p = D * (a.1 * b.1 % p) % p * (a.2 * b.2 % p) % p := by
  apply (phi_eq (p := p)).mp
  simp only [phi_mul, phi_mod]
  grind
 have h2 : (a.2 * b.2 % (p : Int) + a.1 * b.1 % p) % p = (a.2 * b.2 + a.1 * b.1) % p := by
  apply (phi_eq (p := p)).mp
  simp only [phi_mul, phi_mod, phi_add]
 simp only [esumZ, eaddZ, h1, h2]
def toE (a : GPr) : Fin p × Fin p := (phi a.1, phi a.2)
theorem eonZ_on {a : GPr} (h : eonZ p D a = true) : EOn (phi D : Fin p) (toE a) := by
 unfold eonZ at h
 simp only [Bool.and_eq_true, decide_eq_true_eq] at h
 have h5 := phi_eq (p := p).mpr h.2
 simp only [EOn, toE]
 simp only [phi_add, phi_mul, phi_mod, phi_sub, phi_one] at h5
 grind
theorem eonZ_of {x y : Int} (hx : 0 ≤ x ∧ x < p) (hy : 0 ≤ y ∧ y < p) (h : EOn (phi D : Fin p) (phi x, phi y)) : eonZ p D (x, y) = true := by
 unfold eonZ
 simp only [Bool.and_eq_true, decide_eq_true_eq]
 refine ⟨⟨⟨⟨hx.1, by omega⟩, hy.1⟩, by omega⟩, ?_⟩
 apply (phi_eq (p := p)).mp
 simp only [EOn] at h
 simp only [phi_add, phi_mul, phi_mod, phi_sub, phi_one]
 grind
theorem eonZ_inj {a b : GPr} (ha : eonZ p D a = true) (hb : eonZ p D b = true) (h : (toE a : Fin p × Fin p) = toE b) : a = b := by
 obtain ⟨x1, y1⟩ := a
 obtain ⟨x2, y2⟩ := b
 unfold eonZ at ha hb
 unfold toE at h
 simp only [Bool.and_eq_true, decide_eq_true_eq, Prod.mk.injEq] at ha hb h
 have e1 := phi_inj ha.1.1.1.1 (by omega) hb.1.1.1.1 (by omega) h.1
 have e2 := phi_inj ha.1.1.2 (by omega) hb.1.1.2 (by omega) h.2
 rw [e1, e2]
theorem emod_in (n : Int) : 0 ≤ n % p ∧ n % p < p := ⟨Int.emod_nonneg _ (by have := pos (p := p); omega), Int.emod_lt_of_pos _ pos⟩
theorem eaddZ_pt (F : Fld p) (hp : PrimeN p) (T : Tw (phi D : Fin p)) {a b : GPr} (ha : eonZ p D a = true) (hb : eonZ p D b = true) :
  (toE (eaddZ p D a b) : Fin p × Fin p) = eadd (phi D) (toE a) (toE b) ∧ eonZ p D (eaddZ p D a b) = true := by
 have h1 := eonZ_on ha
 have h2 := eonZ_on hb
 have h3 := eadd_on F T h1 h2
 have n1 := em_p F T h1 h2
 have n2 := em_n F T h1 h2
 have m1 : (phi (1 + D * (a.1 * b.1 % p) % p * (a.2 * b.2 % p) % p) : Fin p) = 1 + phi D * phi a.1 * phi b.1 * phi a.2 * phi b.2 := by
  simp only [phi_add, phi_mul, phi_mod, phi_one]
  grind
 have m2 : (phi (1 - D * (a.1 * b.1 % p) % p * (a.2 * b.2 % p) % p) : Fin p) = 1 - phi D * phi a.1 * phi b.1 * phi a.2 * phi b.2 := by
  simp only [phi_sub, phi_mul, phi_mod, phi_one]
  grind
 have e : (toE (eaddZ p D a b) : Fin p × Fin p) = eadd (phi D) (toE a) (toE b) := by
  unfold eaddZ toE eadd
  simp only
  congr 1
  ·rw [phi_mod, phi_mul, phi_mod, phi_add, phi_mul, phi_mul, phi_inv F hp (by rw [m1]; exact n1), m1]
  ·rw [phi_mod, phi_mul, phi_mod, phi_add, phi_mod, phi_mod, phi_mul, phi_mul, phi_inv F hp (by rw [m2]; exact n2), m2]
 refine ⟨e, ?_⟩
 apply eonZ_of (emod_in _) (emod_in _)
 have e' : ((phi (eaddZ p D a b).1, phi (eaddZ p D a b).2) : Fin p × Fin p) = eadd (phi D) (toE a) (toE b) := e
 exact e' ▸ h3
theorem emonZ (hp : PrimeN p) (h2 : p ≠ 2) (T : Tw (phi D : Fin p)) : Mon (fun a => eonZ p D a = true) (eaddZ p D) (0, 1) := by
 have F := hp.fld h2
 have hlt := hp.1
 have z0 : (toE (0, 1) : Fin p × Fin p) = (0, 1) := by simp only [toE, phi_zero, phi_one]
 have z : eonZ p D (0, 1) = true := by
  apply eonZ_of (by omega) (by omega)
  rw [phi_zero, phi_one]
  exact ezero_on _
 refine ⟨z, fun ha hb => (eaddZ_pt F hp T ha hb).2, fun {a b c} ha hb hc => ?_, fun {a b} ha hb => ?_, fun {a} ha => ?_⟩
 ·have h1 := eaddZ_pt F hp T ha hb
  have h2 := eaddZ_pt F hp T hb hc
  have h3 := eaddZ_pt F hp T h1.2 hc
  have h4 := eaddZ_pt F hp T ha h2.2
  apply eonZ_inj h3.2 h4.2
  rw [h3.1, h4.1, h1.1, h2.1]
  exact eadd_assoc F T (eonZ_on ha) (eonZ_on hb) (eonZ_on hc)
 ·have h1 := eaddZ_pt F hp T ha hb
  have h2 := eaddZ_pt F hp T hb ha
  apply eonZ_inj h1.2 h2.2
  rw [h1.1, h2.1, eadd_comm]
 ·have h1 := eaddZ_pt F hp T z ha
  apply eonZ_inj h1.2 ha
  rw [h1.1, z0, eadd_comm, eadd_zero F]
theorem dOk (hp : PrimeN p) (h8 : p % 8 = 5) (hD : 0 < D ∧ D < p) : (powZ D ((p - 1) / 2) p = p - 1 ↔ powZ D ((p - 1) / 2) p ≠ 1) ∧ (powZ D ((p - 1) / 2) p = p - 1 → Tw (phi D : Fin p)) := by
 have F := hp.fld (by omega)
 have hne : (phi D : Fin p) ≠ 0 := by
  rw [Ne, phi_z, Int.emod_eq_of_lt (by omega) hD.2]
  omega
 have hi := powZ_in (m := p) pos D ((p - 1) / 2)
 have hph := phi_powZ (p := p) D ((p - 1) / 2)
 have hm1 : (phi ((p : Int) - 1) : Fin p) = -1 := by
  rw [phi_sub, phi_one]
  have : (phi (p : Int) : Fin p) = 0 := phi_z.mpr (by simp)
  rw [this]
  grind
 have h11 : (1 : Fin p) ≠ -1 := by
  intro h
  apply F.two
  have e : (2 : Fin p) = 1 - -1 := by grind
  rw [e, ← h]
  grind
 have hq : powZ D ((p - 1) / 2) p = p - 1 → fpow (phi D : Fin p) ((p - 1) / 2) = -1 := fun h => by rw [← hph, h, hm1]
 refine ⟨⟨fun h h1 => by omega, fun h => ?_⟩, fun h => ?_⟩
 ·rcases euler F (by omega) hne with h1 | h1
  ·exfalso
   apply h
   apply phi_inj (p := p) hi.1 hi.2 (by omega) (by omega)
   rw [hph, h1, phi_one]
  ·apply phi_inj (p := p) hi.1 hi.2 (by omega) (by omega)
   rw [hph, h1, hm1]
 ·have h1 := hq h
  refine ⟨fun z hz => ?_, ⟨fpow (phi D) ((p - 1) / 4), ?_⟩⟩
  ·have := euler_sq F (by omega) (z := z) (by rw [hz]; exact hne)
   rw [hz, h1] at this
   exact h11 this.symm
  ·rw [← fpow_sq]
   have e : (p - 1) / 4 + (p - 1) / 4 = (p - 1) / 2 := by omega
   rw [e, h1]
end
end Go.Proofs.G

namespace Go.Proofs.G
structure GPt where
 x : Int
 y : Int
 far : Bool
def farP : GPt := ⟨0, 0, true⟩
def addZ (p A : Int) (a b : GPt) : GPt :=
 if a.far = true then b else if b.far = true then a else if a.x = b.x ∧ (a.y + b.y) % p = 0 then farP else
 let s := if a.x = b.x then (3 * a.x % p * a.x + A) % p * invI (2 * a.y) p % p else (b.y - a.y) % p * invI (b.x - a.x) p % p
 let x := (s * s - a.x - b.x) % p
 ⟨x, (s * (a.x - x) - a.y) % p, false⟩
def sumZ (p A : Int) (a b : GPt) : GPt :=
 if a.far = true then b else if b.far = true then a else if a.x = b.x ∧ (a.y + b.y) % p = 0 then farP else
 let s := if a.x = b.x ∧ a.y = b.y then (3 * a.x * a.x + A) % p * invI (2 * a.y) p % p else (b.y - a.y) % p * invI (b.x - a.x) p % p
 let x := (s * s - a.x - b.x) % p
 ⟨x, (s * (a.x - x) - a.y) % p, false⟩
def onZ (p A B : Int) (a : GPt) : Bool :=
 if a.far = true then decide (a.x = 0) && decide (a.y = 0) else
 decide (0 ≤ a.x) && decide (a.x ≤ p - 1) && decide (0 ≤ a.y) && decide (a.y ≤ p - 1) && decide (a.y * a.y % p = ((a.x * a.x % p + A) * a.x + B) % p)
section
variable {p : Nat} [NeZero p] {A B : Int}
def toPt (a : GPt) : Pt p := if a.far = true then .O else .A (phi a.x) (phi a.y)
theorem onZ_on {a : GPt} (h : onZ p A B a = true) : On (phi A : Fin p) (phi B) (toPt a) := by
 unfold onZ at h
 unfold toPt
 split
 ·trivial
 ·rename_i hf
  rw [if_neg hf] at h
  simp only [Bool.and_eq_true, decide_eq_true_eq] at h
  have h5 := phi_eq (p := p).mpr h.2
  simp only [On]
  simp only [phi_add, phi_mul, phi_mod] at h5
  grind
theorem onZ_inj {a b : GPt} (ha : onZ p A B a = true) (hb : onZ p A B b = true) (h : (toPt a : Pt p) = toPt b) : a = b := by
 obtain ⟨x1, y1, f1⟩ := a
 obtain ⟨x2, y2, f2⟩ := b
 unfold onZ at ha hb
 unfold toPt at h
 cases f1 <;> cases f2 <;> simp at ha hb h
 ·have e1 := phi_inj ha.1.1.1.1 (by omega) hb.1.1.1.1 (by omega) h.1
  have e2 := phi_inj ha.1.1.2 (by omega) hb.1.1.2 (by omega) h.2
  subst e1 e2
  rfl
 ·obtain ⟨rfl, rfl⟩ := ha
  obtain ⟨rfl, rfl⟩ := hb
  rfl
theorem onZ_of {x y : Int} (hx : 0 ≤ x ∧ x < p) (hy : 0 ≤ y ∧ y < p) (h : On (phi A : Fin p) (phi B) (.A (phi x) (phi y))) : onZ p A B ⟨x, y, false⟩ = true := by
 unfold onZ
 simp only [Bool.false_eq_true, if_false, Bool.and_eq_true, decide_eq_true_eq]
 refine ⟨⟨⟨⟨hx.1, by omega⟩, hy.1⟩, by omega⟩, ?_⟩
 apply (phi_eq (p := p)).mp
 simp only [On] at h
 simp only [phi_add, phi_mul, phi_mod]
 grind
theorem mod_in (n : Int) : 0 ≤ n % p ∧ n % p < p := ⟨Int.emod_nonneg _ (by have := pos (p := p); omega), Int.emod_lt_of_pos _ pos⟩
theorem addZ_pt (F : Fld p) (hp : PrimeN p) {a b : GPt} (ha : onZ p A B a = true) (hb : onZ p A B b = true) :
  (toPt (addZ p A a b) : Pt p) = add (phi A) (toPt a) (toPt b) ∧ onZ p A B (addZ p A a b) = true := by
 have h1 := onZ_on ha
 have h2 := onZ_on hb
 have h3 := add_on F h1 h2
 have ha' := ha
 have hb' := hb
 unfold onZ at ha hb
 unfold addZ
 split
 ·rename_i hf
  simp only [toPt, hf, if_true, O_add]
  exact ⟨trivial, hb'⟩
 ·rename_i hf
  split
  ·rename_i hg
   simp only [toPt, hg, if_true, add_O]
   exact ⟨trivial, ha'⟩
  ·rename_i hg
   rw [if_neg hf] at ha
   rw [if_neg hg] at hb
   simp only [Bool.and_eq_true, decide_eq_true_eq] at ha hb
   simp only [toPt, if_neg hf, if_neg hg] at h1 h2 h3 ⊢
   have hxx : (phi a.x : Fin p) = phi b.x ↔ a.x = b.x := ⟨fun h => phi_inj ha.1.1.1.1 (by omega) hb.1.1.1.1 (by omega) h, fun h => by rw [h]⟩
   have hyy : (phi a.y + phi b.y : Fin p) = 0 ↔ (a.y + b.y) % p = 0 := by rw [← phi_add, phi_z]
   have hc : (phi a.x = (phi b.x : Fin p) ∧ phi a.y + phi b.y = (0 : Fin p)) ↔ (a.x = b.x ∧ (a.y + b.y) % p = 0) := by rw [hxx, hyy]
   split
   ·rename_i h
    have := hc.mpr h
    simp only [add, if_pos this]
    exact ⟨by simp [farP], by simp [onZ, farP]⟩
   ·rename_i h
    have hn := fun h' => h (hc.mp h')
    have hs : slope (phi A : Fin p) (phi a.x) (phi a.y) (phi b.x) (phi b.y) = phi (if a.x = b.x then (3 * a.x % p * a.x + A) % p * invI (2 * a.y) p % p else (b.y - a.y) % p * invI (b.x - a.x) p % p) := by
     unfold slope
     by_cases e : a.x = b.x
     ·rw [if_pos (hxx.mpr e), if_pos e, phi_mod, phi_mul, phi_inv F hp, phi_mod, phi_add, phi_mul, phi_mod, phi_mul, phi_mul, phi_three, phi_two]
      rw [phi_mul, phi_two]
      intro h0
      rcases F.nz _ _ h0 with h0 | h0
      ·exact F.two h0
      ·apply hn
       refine ⟨hxx.mpr e, ?_⟩
       have e2 := hxx.mpr e
       simp only [On] at h1 h2
       rw [← e2, ← h1, h0] at h2
       rcases F.nz _ _ (show phi b.y * phi b.y = (0 : Fin p) by rw [h2]; grind) with h4 | h4 <;> (rw [h0, h4]; grind)
     ·rw [if_neg (fun h => e (hxx.mp h)), if_neg e, phi_mod, phi_mul, phi_inv F hp, phi_mod, phi_sub, phi_sub]
      rw [phi_sub]
      intro h0
      apply e
      apply hxx.mp
      grind
    simp only [add, if_neg hn, hs] at h3 ⊢
    generalize (if a.x = b.x then (3 * a.x % p * a.x + A) % p * invI (2 * a.y) p % p else (b.y - a.y) % p * invI (b.x - a.x) p % p) = s at *
    have e1 : (phi ((s * s - a.x - b.x) % p) : Fin p) = phi s * phi s - phi a.x - phi b.x := by rw [phi_mod, phi_sub, phi_sub, phi_mul]
    have e2 : (phi ((s * (a.x - (s * s - a.x - b.x) % p) - a.y) % p) : Fin p) = phi s * (phi a.x - (phi s * phi s - phi a.x - phi b.x)) - phi a.y := by rw [phi_mod, phi_sub, phi_mul, phi_sub, e1]
    simp only [Bool.false_eq_true, if_false, e1, e2, true_and]
    apply onZ_of (mod_in _) (mod_in _)
    rw [e1, e2]
    exact h3
theorem sumZ_addZ (hp : PrimeN p) (F : Fld p) {a b : GPt} (ha : onZ p A B a = true) (hb : onZ p A B b = true) : sumZ p A a b = addZ p A a b := by
 have h1 := onZ_on ha
 have h2 := onZ_on hb
 unfold onZ at ha hb
 unfold sumZ addZ
 split
 ·rfl
 ·rename_i hf
  split
  ·rfl
  ·rename_i hg
   rw [if_neg hf] at ha
   rw [if_neg hg] at hb
   simp only [Bool.and_eq_true, decide_eq_true_eq] at ha hb
   simp only [toPt, if_neg hf, if_neg hg] at h1 h2
   split
   ·rfl
   ·rename_i h
    have hs : (if a.x = b.x ∧ a.y = b.y then (3 * a.x * a.x + A) % p * invI (2 * a.y) p % p else (b.y - a.y) % p * invI (b.x - a.x) p % p) = (if a.x = b.x then (3 * a.x % p * a.x + A) % p * invI (2 * a.y) p % p else (b.y - a.y) % p * invI (b.x - a.x) p % p) := by
     by_cases e : a.x = b.x
     ·have e2 : a.y = b.y := by
       simp only [On] at h1 h2
       rw [e, ← h2] at h1
       rcases F.nz (phi a.y - phi b.y) (phi a.y + phi b.y) (by grind) with h4 | h4
       ·exact phi_inj ha.1.1.2 (by omega) hb.1.1.2 (by omega) (show (phi a.y : Fin p) = phi b.y by grind)
       ·exfalso
        apply h
        refine ⟨e, ?_⟩
        rw [← phi_add, phi_z] at h4
        exact h4
      rw [if_pos ⟨e, e2⟩, if_pos e]
      have : (3 * a.x * a.x + A) % (p : Int) = (3 * a.x % p * a.x + A) % p := by
       apply (phi_eq (p := p)).mp
       simp only [phi_add, phi_mul, phi_mod]
      rw [this]
     ·rw [if_neg (fun h => e h.1), if_neg e]
    simp only [hs]
theorem monZ (hp : PrimeN p) (h2 : p ≠ 2) (D : (4 * A * A * A + 27 * B * B) % p ≠ 0) : Mon (fun a => onZ p A B a = true) (addZ p A) farP := by
 have F := hp.fld h2
 have D' : 4 * (phi A : Fin p) * phi A * phi A + 27 * phi B * phi B ≠ 0 := by
  intro h
  apply D
  rw [← phi_z]
  simp only [phi_add, phi_mul, phi_four, phi_27]
  exact h
 have z : onZ p A B farP = true := by simp [onZ, farP]
 refine ⟨z, fun ha hb => (addZ_pt F hp ha hb).2, fun {a b c} ha hb hc => ?_, fun {a b} ha hb => ?_, fun {a} ha => ?_⟩
 ·have h1 := addZ_pt F hp ha hb
  have h2 := addZ_pt F hp hb hc
  have h3 := addZ_pt F hp h1.2 hc
  have h4 := addZ_pt F hp ha h2.2
  apply onZ_inj h3.2 h4.2
  rw [h3.1, h4.1, h1.1, h2.1]
  exact add_assoc F D' (onZ_on ha) (onZ_on hb) (onZ_on hc)
 ·have h1 := addZ_pt F hp ha hb
  have h2 := addZ_pt F hp hb ha
  apply onZ_inj h1.2 h2.2
  rw [h1.1, h2.1]
  exact add_comm F (onZ_on ha) (onZ_on hb)
 ·simp [addZ, farP]
end
end Go.Proofs.G

namespace Go.Proofs.G
theorem left_eq {a m : Int} (h : 0 < m) : (a.tmod m + m).tmod m = a % m := by
 have h1 : a.tmod m = a % m ∨ a.tmod m = a % m - m := by
  rw [Int.tmod_eq_emod]
  split
  ·left; omega
  ·right
   have : (m.natAbs : Int) = m := by omega
   omega
 have h2 := Int.emod_nonneg a (show m ≠ 0 by omega)
 have h3 := Int.emod_lt_of_pos a h
 rcases h1 with h1 | h1
 ·rw [h1, Int.tmod_eq_emod_of_nonneg (by omega), Int.add_emod_right, Int.emod_emod]
 ·rw [h1, show a % m - m + m = a % m by omega, Int.tmod_eq_emod_of_nonneg h2, Int.emod_emod]
theorem tmod_bd {a m : Int} (h : 0 < m) : -m < a.tmod m ∧ a.tmod m < m := by
 have h2 := Int.emod_nonneg a (show m ≠ 0 by omega)
 have h3 := Int.emod_lt_of_pos a h
 rw [Int.tmod_eq_emod]
 have : (m.natAbs : Int) = m := by omega
 split <;> omega
def InvS (m : Int) (r s : Nat) (x y : Int) : Prop := 1 ≤ r ∧ ((x ≤ 0 ∧ 0 ≤ y ∧ y * r - x * s = m) ∨ (0 ≤ x ∧ y ≤ 0 ∧ x * s - y * r = m))
theorem InvS.next {m : Int} {r s : Nat} {x y : Int} (h : InvS m r s x y) (hs : s ≠ 0) : InvS m s (r % s) y (x - (r / s : Nat) * y) ∧ -m ≤ (r / s : Nat) * y ∧ (r / s : Nat) * y ≤ m ∧ -m ≤ x - (r / s : Nat) * y ∧ x - (r / s : Nat) * y ≤ m := by
 obtain ⟨h1, h2⟩ := h
 have hd : (r : Int) = s * (r / s : Nat) + (r % s : Nat) := by exact_mod_cast (Nat.div_add_mod r s).symm
 have hq : 0 ≤ ((r / s : Nat) : Int) := Int.natCast_nonneg _
 have ht : 0 ≤ ((r % s : Nat) : Int) := Int.natCast_nonneg _
 generalize ((r / s : Nat) : Int) = q at *
 generalize hS : (s : Int) = S at *
 have hS1 : 1 ≤ S := by omega
 rcases h2 with ⟨a1, a2, a3⟩ | ⟨a1, a2, a3⟩
 ·have e : y * ((r % s : Nat) : Int) - (x - q * y) * S = m := by rw [← a3, hd]; grind
  have b1 : 0 ≤ q * y := Int.mul_nonneg hq a2
  have b2 : 0 ≤ y * ((r % s : Nat) : Int) := Int.mul_nonneg a2 ht
  have b3 : (q * y - x) * 1 ≤ (q * y - x) * S := Int.mul_le_mul_of_nonneg_left hS1 (by omega)
  have b4 : (q * y - x) * S = -((x - q * y) * S) := by grind
  refine ⟨⟨by omega, .inr ⟨a2, by omega, ?_⟩⟩, ?_⟩
  ·rw [hS]; exact e
  ·omega
 ·have e : (x - q * y) * S - y * ((r % s : Nat) : Int) = m := by rw [← a3, hd]; grind
  have b1 : 0 ≤ q * -y := Int.mul_nonneg hq (by omega)
  have b0 : q * -y = -(q * y) := by grind
  have b2 : 0 ≤ -y * ((r % s : Nat) : Int) := Int.mul_nonneg (by omega) ht
  have b5 : -y * ((r % s : Nat) : Int) = -(y * ((r % s : Nat) : Int)) := by grind
  have b3 : (x - q * y) * 1 ≤ (x - q * y) * S := Int.mul_le_mul_of_nonneg_left hS1 (by omega)
  refine ⟨⟨by omega, .inl ⟨a2, by omega, ?_⟩⟩, ?_⟩
  ·rw [hS]; exact e
  ·omega
theorem InvS.zero {m : Nat} {s : Nat} (h : 1 ≤ m) : InvS m m s 0 1 := ⟨h, .inl ⟨by omega, by omega, by omega⟩⟩
def invOk (a m : Int) : Bool := (invGo m.toNat (a % m).toNat 0 1).1 == 1
noncomputable def primeZ (n : Int) : Bool := (decide (2 ≤ n) && decide (n ≤ 1099511627776)) && @decide (PrimeN n.toNat) (Classical.propDecidable _)
theorem prime_no {n d : Int} (h1 : 2 ≤ d) (h2 : d * d ≤ n) (h3 : n.tmod d = 0) : primeZ n = false := by
 have : ¬ PrimeN n.toNat := by
  intro hp
  have hn : 0 ≤ n := Int.le_trans (Int.mul_nonneg (by omega) (by omega)) h2
  apply hp.2 d.toNat (by omega)
  ·have : ((d.toNat * d.toNat : Nat) : Int) ≤ n.toNat := by
    rw [Int.natCast_mul, Int.toNat_of_nonneg (by omega), Int.toNat_of_nonneg hn]
    exact h2
   omega
  ·have h4 : d ∣ n := Int.dvd_of_tmod_eq_zero h3
   have : ((d.toNat : Nat) : Int) ∣ n.toNat := by
    rw [Int.toNat_of_nonneg (by omega), Int.toNat_of_nonneg hn]
    exact h4
   exact Int.natCast_dvd_natCast.mp this
 unfold primeZ
 rw [@decide_eq_false _ (Classical.propDecidable _) this, Bool.and_false]
theorem prime_yes {n d : Int} (h0 : 2 ≤ n) (hb : n ≤ 1099511627776) (h1 : 2 ≤ d) (h2 : n < d * d) (h3 : ∀ e : Int, 2 ≤ e → e < d → e * e ≤ n → n.tmod e ≠ 0) : primeZ n = true := by
 have : PrimeN n.toNat := by
  refine ⟨by omega, fun e he1 he2 he3 => ?_⟩
  have hee : ((e : Int) * e) ≤ n := by
   have : ((e * e : Nat) : Int) ≤ n := by omega
   rwa [Int.natCast_mul] at this
  refine h3 e (by omega) ?_ hee ?_
  ·rcases Int.lt_or_le e d with h | h
   ·exact h
   ·exfalso
    have : d * d ≤ (e : Int) * e := Int.mul_le_mul h h (by omega) (by omega)
    omega
  ·have : ((e : Nat) : Int) ∣ n.toNat := Int.natCast_dvd_natCast.mpr he3
   rw [Int.toNat_of_nonneg (by omega)] at this
   exact Int.tmod_eq_zero_of_dvd this
 unfold primeZ
 rw [@decide_eq_true _ (Classical.propDecidable _) this, decide_eq_true h0, decide_eq_true hb]
 rfl
theorem primeZ_of {n : Int} (h : primeZ n = true) : 2 ≤ n ∧ n ≤ 1099511627776 ∧ PrimeN n.toNat := by
 unfold primeZ at h
 simp only [Bool.and_eq_true, decide_eq_true_eq] at h
 exact ⟨h.1.1, h.1.2, h.2⟩
theorem sq_bd {d n : Int} (h1 : 0 ≤ d) (h : d * d ≤ n) (hn : n ≤ 1099511627776) : d ≤ 1048576 := by
 rcases Int.lt_or_le 1048576 d with h2 | h2
 ·exfalso
  have : (1048577 : Int) * 1048577 ≤ d * d := Int.mul_le_mul (by omega) (by omega) (by omega) h1
  omega
 ·exact h2
def blen (n : Nat) : Nat := if h : n = 0 then 0 else blen (n / 2) + 1
termination_by n
decreasing_by omega
theorem blen_zero : blen 0 = 0 := by rw [blen]; rfl
theorem blen_pos {n : Nat} (h : n ≠ 0) : blen n = blen (n / 2) + 1 := by rw [blen, dif_neg h]
theorem blen_shift {n : Nat} : ∀ (k : Nat), 2 ^ k ≤ n → blen n = k + blen (n / 2 ^ k)
 | 0, _ => by simp
 | k + 1, h => by
  have h1 : 2 ^ k ≤ n := Nat.le_trans (Nat.pow_le_pow_right (by omega) (by omega)) h
  rw [blen_shift k h1, blen_pos (n := n / 2 ^ k), Nat.div_div_eq_div_mul, ← Nat.pow_succ]
  ·show k + (blen (n / 2 ^ (k + 1)) + 1) = _
   omega
  ·have : 0 < n / 2 ^ k := Nat.div_pos h1 (Nat.two_pow_pos k)
   omega
theorem blen_lt {n : Nat} : n < 2 ^ blen n := by
 induction n using Nat.strongRecOn with
 | _ n ih =>
  by_cases h : n = 0
  ·subst h; rw [blen_zero]; decide
  ·rw [blen_pos h, Nat.pow_succ]
   have := ih (n / 2) (by omega)
   omega
theorem blen_ge {n : Nat} (h : n ≠ 0) : 2 ^ (blen n - 1) ≤ n := by
 induction n using Nat.strongRecOn with
 | _ n ih =>
  rw [blen_pos h, Nat.add_sub_cancel]
  by_cases h2 : n / 2 = 0
  ·rw [h2, blen_zero]; simp; omega
  ·have := ih (n / 2) (by omega) h2
   have e : blen (n / 2) = (blen (n / 2) - 1) + 1 := by have := blen_pos h2; omega
   rw [e, Nat.pow_succ]
   omega
theorem blen_le {n k : Nat} (h : n < 2 ^ k) : blen n ≤ k := by
 rcases Nat.lt_or_ge k (blen n) with h1 | h1
 ·exfalso
  have hn : n ≠ 0 := by intro e; subst e; rw [blen_zero] at h1; omega
  have h2 := blen_ge hn
  have : 2 ^ k ≤ 2 ^ (blen n - 1) := Nat.pow_le_pow_right (by omega) (by omega)
  omega
 ·exact h1
theorem blen_uniq {n k : Nat} (h1 : n < 2 ^ k) (h2 : (k = 0 ∨ 2 ^ (k - 1) ≤ n)) : blen n = k := by
 have a := blen_le h1
 rcases h2 with h2 | h2
 ·omega
 ·have b := blen_lt (n := n)
  have c : 2 ^ (k - 1) < 2 ^ blen n := by omega
  have := (Nat.pow_lt_pow_iff_right (a := 2) (by omega)).mp c
  omega
theorem mulM_step {α : Type} (op : α → α → α) (e : α) (n i : Nat) (a : α) (h : 2 ^ i ≤ n) : mulM op e (n / 2 ^ i) a = (if n / 2 ^ i % 2 = 1 then op (op (mulM op e (n / 2 ^ (i + 1)) a) (mulM op e (n / 2 ^ (i + 1)) a)) a else op (mulM op e (n / 2 ^ (i + 1)) a) (mulM op e (n / 2 ^ (i + 1)) a)) := by
 have h1 : n / 2 ^ i ≠ 0 := by have := Nat.div_pos h (Nat.two_pow_pos i); omega
 rw [mulM, dif_neg h1, Nat.div_div_eq_div_mul, ← Nat.pow_succ]
theorem mulL_step {α : Type} (op : α → α → α) (n : Nat) (out a : α) (h : n ≠ 0) : mulL op n out a = mulL op (n / 2) (if n % 2 = 1 then op out a else out) (op a a) := by rw [mulL, dif_neg h]
theorem mulL_zero {α : Type} (op : α → α → α) (out a : α) : mulL op 0 out a = out := by rw [mulL, dif_pos rfl]
theorem mulM_zero {α : Type} (op : α → α → α) (e a : α) : mulM op e 0 a = e := by rw [mulM, dif_pos rfl]
theorem mul_bd {a b m : Int} (h1 : 0 ≤ a ∧ a < m) (h2 : 0 ≤ b ∧ b < m) (hm : m ≤ 2147483648) : 0 ≤ a * b ∧ a * b ≤ 4611686018427387904 := by
 have : a * b ≤ 2147483648 * 2147483648 := Int.mul_le_mul (by omega) (by omega) h2.1 (by omega)
 exact ⟨Int.mul_nonneg h1.1 h2.1, by omega⟩
theorem emod_of {a b p : Int} (k : Int) (h : a - b = p * k) : a % p = b % p := by
 have : a = b + p * k := by omega
 rw [this, Int.add_mul_emod_self_left]
theorem mod_on (x a b p : Int) : ((x * x + a) % p * x + b) % p = ((x * x % p + a) * x + b) % p := by
 have e1 := Int.emod_def (x * x + a) p
 have e2 := Int.emod_def (x * x) p
 refine emod_of (-((x * x + a) / p) * x + (x * x / p) * x) ?_
 rw [e1, e2]
 generalize (x * x + a) / p = u
 generalize x * x / p = v
 grind
end Go.Proofs.G

namespace Go.Proofs.G
theorem mulM_pos {α : Type} (op : α → α → α) (e a : α) {n : Nat} (h : n ≠ 0) : mulM op e n a = (if n % 2 = 1 then op (op (mulM op e (n / 2) a) (mulM op e (n / 2) a)) a else op (mulM op e (n / 2) a) (mulM op e (n / 2) a)) := by
 have := mulM_step op e n 0 a (by simp; omega)
 simpa using this
theorem mulM_sum {p : Nat} [NeZero p] {A B : Int} (hp : PrimeN p) (h2 : p ≠ 2) (D : (4 * A * A * A + 27 * B * B) % p ≠ 0) {P : GPt} (hP : onZ p A B P = true) (n : Nat) :
  mulM (sumZ p A) farP n P = mulM (addZ p A) farP n P := by
 have M := monZ hp h2 D
 have F := hp.fld h2
 induction n using Nat.strongRecOn with
 | _ n ih =>
  by_cases h : n = 0
  ·subst h; rw [mulM_zero, mulM_zero]
  ·have hd := M.pow_ok hP (n / 2)
   rw [← M.mulM hP] at hd
   rw [mulM_pos _ _ _ h, mulM_pos _ _ _ h]
   rw [ih (n / 2) (by omega), sumZ_addZ hp F hd hd]
   have hd2 := M.op_ok hd hd
   split
   ·rw [sumZ_addZ hp F hd2 hP]
   ·rfl
theorem times_same {p A B : Int} (h1 : 3 ≤ p) (hp : PrimeN p.toNat) (D : (4 * (A * A % p) * A + 27 * (B * B % p)) % p ≠ 0) {P : GPt} (hP : onZ p A B P = true) (n : Nat) :
  mulM (sumZ p A) farP n P = mulL (addZ p A) n farP P := by
 obtain ⟨q, rfl⟩ : ∃ q : Nat, p = q := ⟨p.toNat, (Int.toNat_of_nonneg (by omega)).symm⟩
 haveI : NeZero q := ⟨by omega⟩
 rw [Int.toNat_natCast] at hp
 have D' : (4 * A * A * A + 27 * B * B) % (q : Int) ≠ 0 := by
  have e : (4 * A * A * A + 27 * B * B) % (q : Int) = (4 * (A * A % q) * A + 27 * (B * B % q)) % q := by
   have e1 := Int.emod_def (A * A) q
   have e2 := Int.emod_def (B * B) q
   refine emod_of (4 * (A * A / q) * A + 27 * (B * B / q)) ?_
   rw [e1, e2]
   generalize A * A / q = u
   generalize B * B / q = v
   grind
  rw [e]; exact D
 rw [mulM_sum hp (by omega) D' hP, (monZ hp (by omega) D').same hP]
theorem disc_mod (a b p : Int) : (4 * a * a % p * a + 27 * b * b) % p = (4 * (a * a % p) * a + 27 * (b * b % p)) % p := by
 have e1 := Int.emod_def (4 * a * a) p
 have e2 := Int.emod_def (a * a) p
 have e3 := Int.emod_def (b * b) p
 refine emod_of (-(4 * a * a / p) * a + 4 * (a * a / p) * a + 27 * (b * b / p)) ?_
 rw [e1, e2, e3]
 generalize 4 * a * a / p = t
 generalize a * a / p = u
 generalize b * b / p = v
 grind
theorem etimes_same {p D : Int} (h1 : 3 ≤ p) (hp : PrimeN p.toNat) (h8 : p % 8 = 5) (hD : 0 < D ∧ D < p) (hd : powZ D ((p.toNat - 1) / 2) p = p - 1) {P : GPr} (hP : eonZ p D P = true) (n : Nat) :
  mulM (esumZ p D) (0, 1) n P = mulL (eaddZ p D) n (0, 1) P := by
 obtain ⟨q, rfl⟩ : ∃ q : Nat, p = q := ⟨p.toNat, (Int.toNat_of_nonneg (by omega)).symm⟩
 haveI : NeZero q := ⟨by omega⟩
 rw [Int.toNat_natCast] at hp hd
 have T := (dOk (D := D) hp (by omega) hD).2 hd
 have e : esumZ q D = eaddZ q D := by funext a b; exact esum_eq a b
 rw [e, (emonZ hp (by omega) T).same hP]
theorem d_same {p D : Int} (h1 : 3 ≤ p) (hp : PrimeN p.toNat) (h8 : p % 8 = 5) (hD : 0 < D ∧ D < p) : powZ D ((p.toNat - 1) / 2) p = p - 1 ↔ powZ D ((p.toNat - 1) / 2) p ≠ 1 := by
 obtain ⟨q, rfl⟩ : ∃ q : Nat, p = q := ⟨p.toNat, (Int.toNat_of_nonneg (by omega)).symm⟩
 haveI : NeZero q := ⟨by omega⟩
 rw [Int.toNat_natCast] at hp ⊢
 exact (dOk (D := D) hp (by omega) hD).1
end Go.Proofs.G

namespace Go.Proofs.G
section
variable {p : Nat} [NeZero p]
def fcF (p : Nat) [NeZero p] : Nat → Fin p
 | 0 => 1
 | n + 1 => fcF p n * phi ((n : Int) + 1)
def evF (p : Nat) [NeZero p] : Nat → Fin p
 | 0 => 1
 | n + 1 => evF p n * phi (2 * ((n : Int) + 1))
def odF (p : Nat) [NeZero p] : Nat → Fin p
 | 0 => 1
 | n + 1 => odF p n * phi (2 * (n : Int) + 1)
def tpF (p : Nat) [NeZero p] (m : Nat) : Nat → Fin p
 | 0 => 1
 | n + 1 => tpF p m n * phi (2 * ((m : Int) - n))
theorem ev_pow (n : Nat) : evF p n = fpow 2 n * fcF p n := by
 induction n with
 | zero => simp only [evF, fcF, fpow]; grind
 | succ n ih =>
  simp only [evF, fcF, fpow, ih, phi_mul, phi_two]
  grind
theorem fc_two (n : Nat) : fcF p (2 * n) = evF p n * odF p n := by
 induction n with
 | zero => simp only [evF, odF, Nat.mul_zero, fcF]; grind
 | succ n ih =>
  have e : 2 * (n + 1) = 2 * n + 1 + 1 := by omega
  rw [e]
  simp only [fcF, evF, odF, ih]
  have e1 : ((2 * n + 1 : Nat) : Int) + 1 = 2 * ((n : Int) + 1) := by omega
  have e2 : ((2 * n : Nat) : Int) + 1 = 2 * (n : Int) + 1 := by omega
  rw [e1, e2]
  grind
theorem ev_tp (m : Nat) : ∀ j, j ≤ m → evF p m = evF p (m - j) * tpF p m j
 | 0, _ => by rw [Nat.sub_zero, tpF]; grind
 | j + 1, h => by
  have e : m - j = (m - (j + 1)) + 1 := by omega
  rw [ev_tp m j (by omega), e, evF, tpF]
  have e2 : ((m - (j + 1) : Nat) : Int) + 1 = (m : Int) - j := by omega
  rw [e2]
  grind
theorem tp_od {k : Nat} (h : p = 8 * k + 5) : ∀ j, tpF p (4 * k + 2) j = (if j % 2 = 0 then 1 else -1) * odF p j
 | 0 => by simp only [tpF, odF]; grind
 | j + 1 => by
  have hp : (phi (p : Int) : Fin p) = 0 := phi_z.mpr (by simp)
  have e : (phi (2 * (((4 * k + 2 : Nat) : Int) - j)) : Fin p) = - phi (2 * (j : Int) + 1) := by
   have e1 : 2 * (((4 * k + 2 : Nat) : Int) - j) = (p : Int) - (2 * (j : Int) + 1) := by omega
   rw [e1, phi_sub, hp]
   grind
  rw [tpF, tp_od h j, e, odF]
  by_cases h2 : j % 2 = 0
  ·rw [if_pos h2, if_neg (by omega)]; grind
  ·rw [if_neg h2, if_pos (by omega)]; grind
theorem fc_ne (F : Fld p) : ∀ n, n < p → fcF p n ≠ 0
 | 0, h => by
  intro h0
  have h1 : (1 : Fin p) = 0 := h0
  have : (2 : Fin p) = 0 := by grind
  exact F.two this
 | n + 1, h => by
  intro h0
  rcases F.nz _ _ h0 with h1 | h1
  ·exact fc_ne F n (by omega) h1
  ·rw [phi_z, Int.emod_eq_of_lt (by omega) (by omega)] at h1
   omega
theorem two_non (hp : PrimeN p) (h8 : p % 8 = 5) : fpow (2 : Fin p) ((p - 1) / 2) = -1 := by
 have F := hp.fld (by omega)
 obtain ⟨k, hk⟩ : ∃ k, p = 8 * k + 5 := ⟨p / 8, by omega⟩
 have e : (p - 1) / 2 = 2 * (2 * k + 1) := by omega
 have h1 := ev_pow (p := p) (2 * (2 * k + 1))
 have h2 := ev_tp (p := p) (2 * (2 * k + 1)) (2 * k + 1) (by omega)
 have e3 : 2 * (2 * k + 1) - (2 * k + 1) = 2 * k + 1 := by omega
 have h3 := tp_od hk (2 * k + 1)
 have e4 : 2 * (2 * k + 1) = 4 * k + 2 := by omega
 rw [if_neg (by omega)] at h3
 rw [e3] at h2
 have h4 := fc_two (p := p) (2 * k + 1)
 have h5 := fc_ne F (2 * (2 * k + 1)) (by omega)
 rw [e]
 rw [← e4] at h3
 rw [h3] at h2
 generalize fcF p (2 * (2 * k + 1)) = fc at *
 generalize evF p (2 * (2 * k + 1)) = ev at *
 generalize fpow (2 : Fin p) (2 * (2 * k + 1)) = t at *
 exact F.cancel h5 (by grind)
theorem root_five (hp : PrimeN p) (h8 : p % 8 = 5) {w x : Fin p} (hx : x * x = w) :
  fpow w ((p + 3) / 8) * fpow w ((p + 3) / 8) = w ∨ (fpow w ((p + 3) / 8) * fpow 2 ((p - 1) / 4)) * (fpow w ((p + 3) / 8) * fpow 2 ((p - 1) / 4)) = w := by
 have F := hp.fld (by omega)
 obtain ⟨k, hk⟩ : ∃ k, p = 8 * k + 5 := ⟨p / 8, by omega⟩
 have e1 : (p + 3) / 8 = k + 1 := by omega
 have e2 : (p - 1) / 4 = 2 * k + 1 := by omega
 have e3 : (p - 1) / 2 = (2 * k + 1) + (2 * k + 1) := by omega
 have ht := two_non hp h8
 rw [e3, fpow_sq] at ht
 rw [e1, e2]
 have hs : fpow w (k + 1) * fpow w (k + 1) = fpow w (2 * k + 1) * w := by
  rw [← fpow_add]
  have e : k + 1 + (k + 1) = 2 * k + 1 + 1 := by omega
  rw [e]; rfl
 have hw : fpow w (2 * k + 1) = fpow x ((2 * k + 1) + (2 * k + 1)) := by rw [← hx, fpow_mul, ← fpow_sq]
 by_cases h0 : x = 0
 ·left
  subst h0
  have hz : w = 0 := by rw [← hx]; grind
  rw [hs, hz]; grind
 ·have he := euler F (by omega) h0
  rw [e3, ← hw] at he
  generalize fpow w (k + 1) = a at *
  generalize fpow (2 : Fin p) (2 * k + 1) = b at *
  rcases he with he | he
  ·left; rw [hs, he]; grind
  ·right
   rw [he] at hs
   grind
theorem root_pm (F : Fld p) {x y : Fin p} (h : x * x = y * y) : x = y ∨ x = -y := by
 rcases F.nz (x - y) (x + y) (by grind) with h | h
 ·left; grind
 ·right; grind
theorem den_ne (F : Fld p) {d x y : Fin p} (T : Tw d) (h : EOn d (x, y)) : 1 + d * (y * y) ≠ 0 := by
 intro h0
 have h : y * y - x * x = 1 + d * x * x * y * y := h
 obtain ⟨i, hi⟩ := T.i
 have hy : y * y = 1 := by grind
 exact T.ns i (by grind)
theorem x_sq (F : Fld p) {d x y : Fin p} (T : Tw d) (h : EOn d (x, y)) : x * x = (y * y - 1) * finv (1 + d * (y * y)) := by
 have hn := den_ne F T h
 have hm := F.mul_inv hn
 have h : y * y - x * x = 1 + d * x * x * y * y := h
 generalize finv (1 + d * (y * y)) = v at *
 grind
end
end Go.Proofs.G

namespace Go.Proofs.G
def edX (w p : Int) : Int := if powZ w ((p.toNat + 3) / 8) p * powZ w ((p.toNat + 3) / 8) p % p = w then powZ w ((p.toNat + 3) / 8) p else powZ w ((p.toNat + 3) / 8) p * powZ 2 ((p.toNat - 1) / 4) p % p
def rootGo (a p : Int) : Nat → Int → Int × Bool
 | 0, _ => (0, false)
 | n + 1, i => if i * i % p = a then (i, true) else rootGo a p n (i + 1)
def rootI (a p : Int) : Int × Bool := if a ≠ 0 ∧ powZ a ((p.toNat - 1) / 2) p ≠ 1 then (0, false) else rootGo a p p.toNat 0
theorem rootGo_of {a p x : Int} (h : x * x % p = a) : ∀ (n : Nat) (i : Int), i ≤ x → x < i + n → ∃ r, rootGo a p n i = (r, true) ∧ i ≤ r ∧ r ≤ x ∧ r * r % p = a
 | 0, i, h1, h2 => by omega
 | n + 1, i, h1, h2 => by
  rw [rootGo]
  by_cases hi : i * i % p = a
  ·rw [if_pos hi]; exact ⟨i, rfl, by omega, h1, hi⟩
  ·rw [if_neg hi]
   have hne : i ≠ x := fun e => hi (e ▸ h)
   obtain ⟨r, e1, e2, e3, e4⟩ := rootGo_of h n (i + 1) (by omega) (by omega)
   exact ⟨r, e1, by omega, e3, e4⟩
theorem rootGo_in {a p : Int} : ∀ (n : Nat) (i : Int), 0 ≤ i → 0 ≤ (rootGo a p n i).1 ∧ (rootGo a p n i).1 ≤ i + n
 | 0, i, h => by simp [rootGo]; omega
 | n + 1, i, h => by
  rw [rootGo]
  split
  ·simp; omega
  ·have := rootGo_in (a := a) (p := p) n (i + 1) (by omega)
   omega
section
variable {p : Nat} [NeZero p]
theorem edX_sq (hp : PrimeN p) (h8 : p % 8 = 5) {w x : Int} (hw : 0 ≤ w ∧ w < p) (hx : x * x % p = w) : edX w p * edX w p % p = w := by
 have hxx : (phi x : Fin p) * phi x = phi w := by rw [← phi_mul, ← hx, phi_mod]
 have hr := root_five hp h8 hxx
 have a1 := phi_powZ (p := p) w ((p + 3) / 8)
 have a2 := phi_powZ (p := p) 2 ((p - 1) / 4)
 have back : ∀ n : Int, (phi (n * n) : Fin p) = phi w → n * n % p = w := by
  intro n hn
  have := phi_eq.mp hn
  rw [this, Int.emod_eq_of_lt hw.1 hw.2]
 unfold edX
 rw [Int.toNat_natCast]
 rw [← a1, phi_two.symm, ← a2] at hr
 generalize powZ w ((p + 3) / 8) p = X at *
 generalize powZ 2 ((p - 1) / 4) p = Y at *
 by_cases h : X * X % p = w
 ·rw [if_pos h]; exact h
 ·rw [if_neg h]
  rcases hr with hr | hr
  ·exact absurd (back X (by rw [phi_mul]; exact hr)) h
  ·apply back
   rw [phi_mul, phi_mod, phi_mul]
   exact hr
theorem edX_in (w : Int) : 0 ≤ edX w p ∧ edX w p < p := by
 unfold edX
 split
 ·exact powZ_in pos _ _
 ·exact emod_in _
theorem rootI_of (hp : PrimeN p) (h2 : p % 2 = 1) {a x : Int} (hx : 0 ≤ x ∧ x < p) (h : x * x % p = a) : ∃ r, rootI a p = (r, true) ∧ 0 ≤ r ∧ r < p ∧ r * r % p = a := by
 have hp2 := hp.1
 have F := hp.fld (by omega)
 unfold rootI
 rw [Int.toNat_natCast, if_neg]
 ·obtain ⟨r, e1, e2, e3, e4⟩ := rootGo_of h p 0 hx.1 (by omega)
  exact ⟨r, e1, e2, by omega, e4⟩
 ·rintro ⟨h0, h1⟩
  apply h1
  have hxx : (phi x : Fin p) * phi x = phi a := by rw [← phi_mul, ← h, phi_mod]
  have ha : (phi a : Fin p) ≠ 0 := by
   intro hz
   apply h0
   rw [phi_z] at hz
   rw [← h] at hz ⊢
   rw [Int.emod_emod] at hz
   exact hz
  have he := euler_sq F h2 (z := phi x) (by rw [hxx]; exact ha)
  rw [hxx, ← phi_powZ] at he
  have hi := powZ_in (m := p) pos a ((p - 1) / 2)
  exact phi_inj hi.1 hi.2 (by omega) (by omega) (by rw [he, phi_one])
theorem root_two (hp : PrimeN p) (h2 : p % 2 = 1) {x r : Int} (hx : 0 ≤ x ∧ x < p) (hr : 0 ≤ r ∧ r < p) (h : r * r % p = x * x % p) : r = x ∨ (x ≠ 0 ∧ r = p - x) := by
 have hp2 := hp.1
 have F := hp.fld (by omega)
 have e : (phi r : Fin p) * phi r = phi x * phi x := by rw [← phi_mul, ← phi_mul]; exact phi_eq.mpr h
 rcases root_pm F e with h1 | h1
 ·left; exact phi_inj hr.1 hr.2 hx.1 hx.2 h1
 ·by_cases h0 : x = 0
  ·left
   subst h0
   rw [phi_zero] at h1
   apply phi_inj (p := p) hr.1 hr.2 (by omega) (by omega)
   rw [h1, phi_zero]; grind
  ·right
   refine ⟨h0, ?_⟩
   apply phi_inj (p := p) hr.1 hr.2 (by omega) (by omega)
   have hpz : (phi (p : Int) : Fin p) = 0 := phi_z.mpr (by simp)
   rw [h1, phi_sub, hpz]; grind
end
def edW (p d y : Int) : Int := (y * y % p - 1) % p * invI (1 + d * (y * y % p)) p % p
def edY (c0 c1 c2 : Int) : Int := c0 + c1 * 256 + c2 % 128 * 65536
def pickS (r o p : Int) : Int := if r % 2 = o then r else (-r) % p
def pickI (r o p : Int) : Int := if r % 2 = o then r else (p - r) % p
def edRdS (p d : Int) : List Int → GPr × Bool
 | [c0, c1, c2] =>
  if edY c0 c1 c2 ≥ p then ((0, 0), false) else
  if eonZ p d (pickS (edX (edW p d (edY c0 c1 c2)) p) (c2 / 128) p, edY c0 c1 c2) = true ∧ pickS (edX (edW p d (edY c0 c1 c2)) p) (c2 / 128) p % 2 = c2 / 128
  then ((pickS (edX (edW p d (edY c0 c1 c2)) p) (c2 / 128) p, edY c0 c1 c2), true)
  else ((0, 0), false)
 | _ => ((0, 0), false)
def edB3 (a : GPr) : List Int := [a.2 % 256, a.2 / 256 % 256, a.2 / 65536 + 128 * (a.1 % 2)]
def edRdI (p d : Int) : List Int → GPr × Bool
 | [c0, c1, c2] =>
  if edY c0 c1 c2 ≥ p then ((0, 0), false) else
  if (rootI (edW p d (edY c0 c1 c2)) p).2 = false then ((0, 0), false) else
  if eonZ p d (pickI (rootI (edW p d (edY c0 c1 c2)) p).1 (c2 / 128) p, edY c0 c1 c2) = true ∧ edB3 (pickI (rootI (edW p d (edY c0 c1 c2)) p).1 (c2 / 128) p, edY c0 c1 c2) = [c0, c1, c2]
  then ((pickI (rootI (edW p d (edY c0 c1 c2)) p).1 (c2 / 128) p, edY c0 c1 c2), true)
  else ((0, 0), false)
 | _ => ((0, 0), false)
theorem eonZ_in {p : Nat} {D x y : Int} (h : eonZ p D (x, y) = true) : (0 ≤ x ∧ x < p) ∧ (0 ≤ y ∧ y < p) := by
 unfold eonZ at h
 simp only [Bool.and_eq_true, decide_eq_true_eq] at h
 omega
section
variable {p : Nat} [NeZero p] {D : Int}
theorem edW_sq (hp : PrimeN p) (h2 : p ≠ 2) (T : Tw (phi D : Fin p)) {x y : Int} (h : eonZ p D (x, y) = true) : edW p D y = x * x % p := by
 have F := hp.fld h2
 have ho : EOn (phi D : Fin p) (phi x, phi y) := eonZ_on h
 have hn := den_ne F T ho
 have hs := x_sq F T ho
 have e : (phi (1 + D * (y * y % p)) : Fin p) = 1 + phi D * (phi y * phi y) := by
  rw [phi_add, phi_one, phi_mul, phi_mod, phi_mul]
 unfold edW
 apply phi_eq.mp
 rw [phi_mul, phi_mod, phi_sub, phi_mod, phi_mul, phi_one, phi_inv F hp (by rw [e]; exact hn), e, phi_mul, hs]
theorem edW_in (y : Int) : 0 ≤ edW p D y ∧ edW p D y < p := emod_in _
theorem edRdS_of (hp : PrimeN p) (h8 : p % 8 = 5) (hlt : p ≤ 1048576) (T : Tw (phi D : Fin p)) {P : GPr} (h : eonZ p D P = true) : edRdS p D (edB3 P) = (P, true) := by
 obtain ⟨x, y⟩ := P
 obtain ⟨hx, hy⟩ := eonZ_in h
 have hW := edW_sq hp (by omega) T h
 have ey : edY (y % 256) (y / 256 % 256) (y / 65536 + 128 * (x % 2)) = y := by unfold edY; omega
 have eo : (y / 65536 + 128 * (x % 2)) / 128 = x % 2 := by omega
 have hsq := edX_sq hp h8 (w := edW p D y) (x := x) (edW_in y) hW.symm
 have hin := edX_in (p := p) (edW p D y)
 simp only [edB3, edRdS]
 rw [ey, eo, if_neg (by omega)]
 generalize edX (edW p D y) p = r at *
 rw [hW] at hsq
 have hc : pickS r (x % 2) p = x := by
  unfold pickS
  rcases root_two hp (by omega) hx hin hsq with rfl | ⟨h0, rfl⟩
  ·rw [if_pos rfl]
  ·rw [if_neg (by omega)]
   have : -((p : Int) - x) = x + p * (-1) := by omega
   rw [this, Int.add_mul_emod_self_left, Int.emod_eq_of_lt hx.1 hx.2]
 rw [hc, if_pos ⟨h, rfl⟩]
theorem edRdI_of (hp : PrimeN p) (h8 : p % 8 = 5) (hlt : p ≤ 1048576) (T : Tw (phi D : Fin p)) {P : GPr} (h : eonZ p D P = true) : edRdI p D (edB3 P) = (P, true) := by
 obtain ⟨x, y⟩ := P
 obtain ⟨hx, hy⟩ := eonZ_in h
 have hW := edW_sq hp (by omega) T h
 have ey : edY (y % 256) (y / 256 % 256) (y / 65536 + 128 * (x % 2)) = y := by unfold edY; omega
 have eo : (y / 65536 + 128 * (x % 2)) / 128 = x % 2 := by omega
 obtain ⟨r, er, r1, r2, r3⟩ := rootI_of hp (by omega) hx hW.symm
 simp only [edB3, edRdI]
 rw [ey, eo, if_neg (by omega), er]
 rw [hW] at r3
 have hc : pickI r (x % 2) p = x := by
  unfold pickI
  rcases root_two hp (by omega) hx ⟨r1, r2⟩ r3 with rfl | ⟨h0, rfl⟩
  ·rw [if_pos rfl]
  ·rw [if_neg (by omega)]
   have : (p : Int) - (p - x) = x := by omega
   rw [this, Int.emod_eq_of_lt hx.1 hx.2]
 simp only
 rw [hc, if_neg (by simp)]
 exact if_pos ⟨h, rfl⟩
end
end Go.Proofs.G
