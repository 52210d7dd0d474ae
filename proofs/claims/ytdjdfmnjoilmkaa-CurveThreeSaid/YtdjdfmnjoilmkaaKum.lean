/-
  PURE: the ladder walks along the multiples of a place.
-/
import Derived.Test.YtdjdfmnjoilmkaaEdw
import Derived.Test.YtdjdfmnjoilmkaaWeak
namespace Go.Proofs.Ytdjdfmnjoilmkaa
set_option linter.unusedVariables false

/-- A place's first coordinate, as a quotient. -/
def Rep (X Z : F) (p : Pt) : Prop := ∃ s, s ≠ 0 ∧ X = s * (1 + p.y) ∧ Z = s * (1 - p.y)
def Kx (p : Pt) : F := (1 + p.y) * fi (1 - p.y)

theorem rep_Kx {X Z : F} {p : Pt} (h : Rep X Z p) : X * fi Z = Kx p := by
  obtain ⟨s, hs, rfl, rfl⟩ := h
  have h1 := fi_mul_self hs
  unfold Kx
  rw [fi_mul]
  have : s * (1 + p.y) * (fi s * fi (1 - p.y)) = (s * fi s) * ((1 + p.y) * fi (1 - p.y)) := by grobner
  rw [this, h1]; grobner

theorem k_id1 {x y d t : F} (ht : d * (x * x * (y * y)) = t) (hd : 121666 * d = -121665) (h : y * y - x * x = 1 + d * (x * x * (y * y))) : y * y = (121666 - 121665 * (y * y)) * (1 + x * x) := by
  subst ht
  grobner
theorem k_dx {s y : F} : twiceX (s * (1 + y)) (s * (1 - y)) = 16 * (s * s * (s * s)) * (y * y) := by unfold twiceX; grobner
theorem toF_a24 : toF 121665 = 121665 := by decide +kernel
theorem k_dz {s y : F} : twiceZ (s * (1 + y)) (s * (1 - y)) = 16 * (s * s * (s * s)) * ((1 - y * y) * (121666 - 121665 * (y * y))) := by unfold twiceZ; rw [toF_a24]; grobner
theorem k_num1 {x y t Y : F} (hY : Y * (1 - t) = y * y + x * x) (h : y * y - x * x = 1 + t) : (1 + Y) * (1 - t) = 2 * (1 + x * x) := by grobner
theorem k_num2 {x y t Y : F} (hY : Y * (1 - t) = y * y + x * x) (h : y * y - x * x = 1 + t) : (1 - Y) * (1 - t) = 2 * (1 - y * y) := by grobner
theorem k_ne {y x w : F} (h : y * y = w * (1 + x * x)) (hw : w = 121666 - 121665 * (y * y)) : w ≠ 0 := by
  intro h0
  rw [h0] at h
  have h1 : y * y = 0 := by rw [h]; grobner
  rw [h1] at hw
  rw [h0] at hw
  have h2 : (121666 : F) = 0 := by
    have : (121666 : F) - 121665 * 0 = 121666 := by grobner
    rw [this] at hw; exact hw.symm
  revert h2
  decide +kernel
theorem mul_ne {a b : F} (ha : a ≠ 0) (hb : b ≠ 0) : a * b ≠ 0 := fun h => (no_zero h).elim ha hb
theorem eight_ne : (8 : F) ≠ 0 := by decide +kernel
theorem k_fin1 {S w t y x Y : F} (h1 : (1 + Y) * (1 - t) = 2 * (1 + x * x)) (h2 : y * y = w * (1 + x * x)) : 16 * S * (y * y) = 8 * S * w * (1 - t) * (1 + Y) := by grobner
theorem k_fin2 {S w t y Y : F} (h1 : (1 - Y) * (1 - t) = 2 * (1 - y * y)) : 16 * S * ((1 - y * y) * w) = 8 * S * w * (1 - t) * (1 - Y) := by grobner

theorem rep_double {X Z : F} {p : Pt} (h : Rep X Z p) : Rep (twiceX X Z) (twiceZ X Z) (p.add p) := by
  obtain ⟨s, hs, rfl, rfl⟩ := h
  have hY := addY_mul p p
  have hd := den_m p p
  have hon := p.on
  have e1 : p.x * p.x * (p.y * p.y) = p.x * p.x * (p.y * p.y) := rfl
  have hk := k_id1 (x := p.x) (y := p.y) rfl dE_def hon
  have hw := k_ne hk rfl
  have n1 := k_num1 hY hon
  have n2 := k_num2 hY hon
  refine ⟨8 * (s * s * (s * s)) * (121666 - 121665 * (p.y * p.y)) * (1 - dE * (p.x * p.x * (p.y * p.y))), mul_ne (mul_ne (mul_ne eight_ne (mul_ne (mul_ne hs hs) (mul_ne hs hs))) hw) hd, ?_, ?_⟩
  · rw [k_dx]
    exact k_fin1 n1 hk
  · rw [k_dz]
    exact k_fin2 n2

theorem k_i1 {d x1 y1 x2 y2 t y3 yD : F} (h1 : y1*y1 - x1*x1 = 1 + d*(x1*x1*(y1*y1))) (h2 : y2*y2 - x2*x2 = 1 + d*(x2*x2*(y2*y2))) (ht : d * (x1*x2*(y1*y2)) = t) :
    (1 - t + y1*y2 + x1*x2) * (1 + t + y1*y2 - x1*x2) * ((y1 - y2) * (y1 - y2)) = (1 - t - y1*y2 - x1*x2) * (1 + t - y1*y2 + x1*x2) * ((y1 + y2) * (y1 + y2)) := by
  subst ht
  grobner
theorem k_i2 {t y3 yD a b A B : F} (h3 : y3 * (1 - t) = a) (hD : yD * (1 + t) = b) (h : (1 - t + a) * (1 + t + b) * B = (1 - t - a) * (1 + t - b) * A) : ((1 + y3) * (1 + yD) * B) * ((1 - t) * (1 + t)) = ((1 - y3) * (1 - yD) * A) * ((1 - t) * (1 + t)) := by
  subst h3 hD
  grobner
theorem k_bx {s r y1 y2 : F} : bothX (s * (1 + y1)) (s * (1 - y1)) (r * (1 + y2)) (r * (1 - y2)) = 16 * (s * s * (r * r)) * ((y1 + y2) * (y1 + y2)) := by unfold bothX; grobner
theorem k_bz {s r y1 y2 u : F} : bothZ (s * (1 + y1)) (s * (1 - y1)) (r * (1 + y2)) (r * (1 - y2)) u = u * (16 * (s * s * (r * r)) * ((y1 - y2) * (y1 - y2))) := by unfold bothZ; grobner
theorem k_a1 {S A B y3 yD u : F} (hu : u * (1 - yD) = 1 + yD) (hI : (1 + y3) * (1 + yD) * B = (1 - y3) * (1 - yD) * A) : 16 * S * A * (1 - yD) = 8 * S * (A + u * B) * (1 + y3) * (1 - yD) := by grobner
theorem k_a2 {S A B y3 yD u : F} (hu : u * (1 - yD) = 1 + yD) (hI : (1 + y3) * (1 + yD) * B = (1 - y3) * (1 - yD) * A) : u * (16 * S * B) * (1 - yD) = 8 * S * (A + u * B) * (1 - y3) * (1 - yD) := by grobner

theorem sq_zero {a : F} (h : a * a = 0) : a = 0 := (no_zero h).elim id id

/-- The sum of two places whose difference (either way) has this coordinate. -/
theorem rep_add {X1 Z1 X2 Z2 u : F} {p q : Pt} {yD : F} (h1 : Rep X1 Z1 p) (h2 : Rep X2 Z2 q) (hD : yD * (1 + dE * (p.x * q.x * (p.y * q.y))) = p.y * q.y - p.x * q.x) (hu : u * (1 - yD) = 1 + yD) (hu0 : u ≠ 0) (hc : 1 - yD ≠ 0) :
    Rep (bothX X1 Z1 X2 Z2) (bothZ X1 Z1 X2 Z2 u) (p.add q) := by
  obtain ⟨s, hs, rfl, rfl⟩ := h1
  obtain ⟨r, hr, rfl, rfl⟩ := h2
  have hY := addY_mul p q
  have a1 := den_m p q
  have a2 := den_p p q
  have hi := k_i1 (y3 := 0) (yD := 0) p.on q.on rfl
  have e3 : (p.add q).y = addY p q := rfl
  have hI : (1 + addY p q) * (1 + yD) * ((p.y - q.y) * (p.y - q.y)) = (1 - addY p q) * (1 - yD) * ((p.y + q.y) * (p.y + q.y)) := by
    refine mul_cancel (mul_ne a1 a2) (k_i2 hY hD ?_)
    have g1 : ∀ t a b : F, 1 - t + (a + b) = 1 - t + a + b := by intro t a b; grobner
    have g2 : ∀ t a b : F, 1 + t + (a - b) = 1 + t + a - b := by intro t a b; grobner
    have g3 : ∀ t a b : F, 1 - t - (a + b) = 1 - t - a - b := by intro t a b; grobner
    have g4 : ∀ t a b : F, 1 + t - (a - b) = 1 + t - a + b := by intro t a b; grobner
    rw [g1, g2, g3, g4]
    exact hi
  rw [k_bx, k_bz]
  have hS : s * s * (r * r) ≠ 0 := mul_ne (mul_ne hs hs) (mul_ne hr hr)
  have f1 := k_a1 (S := s * s * (r * r)) hu hI
  have f2 := k_a2 (S := s * s * (r * r)) hu hI
  have g1 := mul_cancel hc f1
  have g2 := mul_cancel hc f2
  refine ⟨8 * (s * s * (r * r)) * ((p.y + q.y) * (p.y + q.y) + u * ((p.y - q.y) * (p.y - q.y))), mul_ne (mul_ne eight_ne hS) ?_, by rw [e3]; exact g1, by rw [e3]; exact g2⟩
  intro h0
  rw [h0] at g1 g2
  have z : ∀ a b : F, 8 * a * 0 * b = 0 := by intro a b; grobner
  rw [z] at g1 g2
  have n16 : (16 : F) ≠ 0 := by decide +kernel
  have A0 := sq_zero ((no_zero g1).resolve_left (mul_ne n16 hS))
  have B0 := sq_zero ((no_zero ((no_zero g2).resolve_left hu0)).resolve_left (mul_ne n16 hS))
  have hp : p.y = 0 := half (by
    have : 2 * p.y = (p.y + q.y) + (p.y - q.y) := by grobner
    rw [this, A0, B0]; grobner)
  have hq : q.y = 0 := by
    have : q.y = (p.y + q.y) - p.y := by grobner
    rw [this, A0, hp]; grobner
  have o1 := p.on
  have o2 := q.on
  rw [hp] at o1
  rw [hq] at o2
  rw [hp, hq] at hD
  have k1 : p.x * p.x = -1 := by
    have : p.x * p.x = -(0 * 0 - p.x * p.x) := by grobner
    rw [this, o1]; grobner
  have k2 : q.x * q.x = -1 := by
    have : q.x * q.x = -(0 * 0 - q.x * q.x) := by grobner
    rw [this, o2]; grobner
  have k3 : yD = -(p.x * q.x) := by
    have : yD = yD * (1 + dE * (p.x * q.x * (0 * 0))) := by grobner
    rw [this, hD]; grobner
  have k4 : (1 - yD) * (1 + yD) = 0 := by
    have : (1 - yD) * (1 + yD) = 1 - yD * yD := by grobner
    rw [this, k3]
    have : (1 : F) - -(p.x * q.x) * -(p.x * q.x) = 1 - (p.x * p.x) * (q.x * q.x) := by grobner
    rw [this, k1, k2]; grobner
  rw [← hu] at k4
  rcases no_zero k4 with h | h
  · exact hc h
  · rcases no_zero h with h | h
    · exact hu0 h
    · exact hc h

theorem Pt.neg_add (p : Pt) : p.neg.add p = Pt.zero := by
  refine Pt.ext' ?_ ?_
  · show (-p.x * p.y + p.y * p.x) * _ = 0
    have : -p.x * p.y + p.y * p.x = 0 := by grobner
    rw [this]; grobner
  · show (p.y * p.y + -p.x * p.x) * fi (1 - dE * (-p.x * p.x * (p.y * p.y))) = 1
    have e1 : p.y * p.y + -p.x * p.x = p.y * p.y - p.x * p.x := by grobner
    have e2 : 1 - dE * (-p.x * p.x * (p.y * p.y)) = 1 + dE * (p.x * p.x * (p.y * p.y)) := by grobner
    rw [e1, e2, p.on]
    exact fi_mul_self (den_p p p)

/-- The difference of neighbours. -/
theorem diff_y {p q r : Pt} (h : q = p.add r) : r.y * (1 + dE * (p.x * q.x * (p.y * q.y))) = p.y * q.y - p.x * q.x := by
  have h1 : p.neg.add q = r := by rw [h, ← Pt.add_assoc, Pt.neg_add, Pt.zero_add]
  have h2 := addY_mul p.neg q
  have e : addY p.neg q = r.y := by rw [← h1]; rfl
  rw [e] at h2
  have e1 : p.neg.x = -p.x := rfl
  have e2 : p.neg.y = p.y := rfl
  rw [e1, e2] at h2
  have e3 : 1 - dE * (-p.x * q.x * (p.y * q.y)) = 1 + dE * (p.x * q.x * (p.y * q.y)) := by grobner
  have e4 : p.y * q.y + -p.x * q.x = p.y * q.y - p.x * q.x := by grobner
  rw [e3, e4] at h2
  exact h2
theorem diff_y' {p q r : Pt} (h : q = p.add r) : r.y * (1 + dE * (q.x * p.x * (q.y * p.y))) = q.y * p.y - q.x * p.x := by
  have h1 := diff_y h
  have e1 : q.x * p.x * (q.y * p.y) = p.x * q.x * (p.y * q.y) := by grobner
  have e2 : q.y * p.y - q.x * p.x = p.y * q.y - p.x * q.x := by grobner
  rw [e1, e2]; exact h1

/-- The number of the bits that are through. -/
def kpre (ks : List Nat) : Nat → Nat
  | 0 => 0
  | K + 1 => 2 * kpre ks K + kbit ks (254 - K)

theorem two_fi : fi (2 : F) * 2 = 1 := by
  have h := fi_mul_self two_ne
  have : fi (2 : F) * 2 = 2 * fi 2 := by grobner
  rw [this]; exact h

theorem lad_rep (ks : List Nat) {u : F} {q : Pt} (hu : u * (1 - q.y) = 1 + q.y) (hu0 : u ≠ 0) (hc : 1 - q.y ≠ 0) : ∀ K, ∃ x0 z0 x1 z1, lad ks u K = (x0, z0, x1, z1) ∧ Rep x0 z0 (smul (kpre ks K) q) ∧ Rep x1 z1 (smul (kpre ks K + 1) q) := by
  intro K
  induction K with
  | zero =>
    refine ⟨1, 0, u, 1, rfl, ⟨fi 2, ?_, ?_, ?_⟩, ⟨fi (1 - q.y), fi_ne hc, ?_, ?_⟩⟩
    · exact fi_ne two_ne
    · show (1 : F) = fi 2 * (1 + 1)
      have : fi (2 : F) * (1 + 1) = fi 2 * 2 := by grobner
      rw [this]; exact two_fi.symm
    · show (0 : F) = fi 2 * (1 - 1)
      grobner
    · show u = fi (1 - q.y) * (1 + (Pt.zero.add q).y)
      rw [Pt.zero_add, ← hu]
      have h1 := fi_mul_self hc
      have : fi (1 - q.y) * (u * (1 - q.y)) = u * ((1 - q.y) * fi (1 - q.y)) := by grobner
      rw [this, h1]; grobner
    · show (1 : F) = fi (1 - q.y) * (1 - (Pt.zero.add q).y)
      rw [Pt.zero_add]
      have h1 := fi_mul_self hc
      have : fi (1 - q.y) * (1 - q.y) = (1 - q.y) * fi (1 - q.y) := by grobner
      rw [this, h1]
  | succ K ih =>
    obtain ⟨x0, z0, x1, z1, h, h0, h1⟩ := ih
    have hq : smul (kpre ks K + 1) q = (smul (kpre ks K) q).add q := rfl
    rcases kbit_lt ks (254 - K) with hb | hb
    · refine ⟨_, _, _, _, lad_bit0 h hb, ?_, ?_⟩
      · have e : kpre ks (K + 1) = kpre ks K + kpre ks K := by simp only [kpre, hb]; omega
        rw [e, smul_add]
        exact rep_double h0
      · have e : kpre ks (K + 1) + 1 = kpre ks K + (kpre ks K + 1) := by simp only [kpre, hb]; omega
        rw [e, smul_add]
        exact rep_add h0 h1 (diff_y hq) hu hu0 hc
    · refine ⟨_, _, _, _, lad_bit1 h hb, ?_, ?_⟩
      · have e : kpre ks (K + 1) = (kpre ks K + 1) + kpre ks K := by simp only [kpre, hb]; omega
        rw [e, smul_add]
        exact rep_add h1 h0 (diff_y' hq) hu hu0 hc
      · have e : kpre ks (K + 1) + 1 = (kpre ks K + 1) + (kpre ks K + 1) := by simp only [kpre, hb]; omega
        rw [e, smul_add]
        exact rep_double h1

theorem xmul_Kx (ks us : List Nat) {q : Pt} (hu : numL us * (1 - q.y) = 1 + q.y) (hu0 : numL us ≠ 0) (hc : 1 - q.y ≠ 0) : xmul ks us = Kx (smul (kpre (clampL ks) 255) q) := by
  obtain ⟨x0, z0, x1, z1, h, h0, _⟩ := lad_rep (clampL ks) hu hu0 hc 255
  unfold xmul
  rw [h]
  exact rep_Kx h0
end Go.Proofs.Ytdjdfmnjoilmkaa
