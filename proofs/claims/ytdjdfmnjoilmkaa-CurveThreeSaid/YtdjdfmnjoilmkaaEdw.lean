/-
  PURE: the curve -x^2 + y^2 = 1 + d x^2 y^2 over the field is a group; multiples.
-/
import Derived.Test.YtdjdfmnjoilmkaaPrime
namespace Go.Proofs.Ytdjdfmnjoilmkaa

theorem e_comp {d i x1 y1 x2 y2 e : F} (hi : i * i = -1) (h1 : y1*y1 - x1*x1 = 1 + d*(x1*x1*(y1*y1))) (h2 : y2*y2 - x2*x2 = 1 + d*(x2*x2*(y2*y2)))
    (he : d*(x1*x2*(y1*y2)) = e) (hee : e*e = 1) : (i*x1 + e*y1)*(i*x1 + e*y1) = d*((x1*y1*(i*x2+y2))*(x1*y1*(i*x2+y2))) := by
  grobner
theorem e_comp' {d i x1 y1 x2 y2 e : F} (hi : i * i = -1) (h1 : y1*y1 - x1*x1 = 1 + d*(x1*x1*(y1*y1))) (h2 : y2*y2 - x2*x2 = 1 + d*(x2*x2*(y2*y2)))
    (he : d*(x1*x2*(y1*y2)) = e) (hee : e*e = 1) : (i*x1 - e*y1)*(i*x1 - e*y1) = d*((x1*y1*(i*x2-y2))*(x1*y1*(i*x2-y2))) := by
  grobner
theorem e_close {d x1 y1 x2 y2 : F} (h1 : y1*y1 - x1*x1 = 1 + d*(x1*x1*(y1*y1))) (h2 : y2*y2 - x2*x2 = 1 + d*(x2*x2*(y2*y2))) :
    (y1*y2+x1*x2)*(y1*y2+x1*x2)*((1 + d*(x1*x2*(y1*y2)))*(1 + d*(x1*x2*(y1*y2)))) - (x1*y2+y1*x2)*(x1*y2+y1*x2)*((1 - d*(x1*x2*(y1*y2)))*(1 - d*(x1*x2*(y1*y2))))
    = (1 + d*(x1*x2*(y1*y2)))*(1 + d*(x1*x2*(y1*y2)))*((1 - d*(x1*x2*(y1*y2)))*(1 - d*(x1*x2*(y1*y2)))) + d*((x1*y2+y1*x2)*(x1*y2+y1*x2)*((y1*y2+x1*x2)*(y1*y2+x1*x2))) := by
  grobner
theorem e_assoc_y {d x1 y1 x2 y2 x3 y3 : F} (h1 : y1*y1 - x1*x1 = 1 + d*(x1*x1*(y1*y1))) (h2 : y2*y2 - x2*x2 = 1 + d*(x2*x2*(y2*y2))) (h3 : y3*y3 - x3*x3 = 1 + d*(x3*x3*(y3*y3))) :
    ((y1*y2+x1*x2)*(1 + d*(x1*x2*(y1*y2)))*y3 + (x1*y2+y1*x2)*(1 - d*(x1*x2*(y1*y2)))*x3) * ((1 + d*(x2*x3*(y2*y3)))*(1 - d*(x2*x3*(y2*y3))) - d*(x1*y1*((x2*y3+y2*x3)*(y2*y3+x2*x3))))
    = ((y2*y3+x2*x3)*(1 + d*(x2*x3*(y2*y3)))*y1 + (x2*y3+y2*x3)*(1 - d*(x2*x3*(y2*y3)))*x1) * ((1 + d*(x1*x2*(y1*y2)))*(1 - d*(x1*x2*(y1*y2))) - d*(x3*y3*((x1*y2+y1*x2)*(y1*y2+x1*x2)))) := by
  grobner
theorem e_assoc_x {d x1 y1 x2 y2 x3 y3 : F} (h1 : y1*y1 - x1*x1 = 1 + d*(x1*x1*(y1*y1))) (h2 : y2*y2 - x2*x2 = 1 + d*(x2*x2*(y2*y2))) (h3 : y3*y3 - x3*x3 = 1 + d*(x3*x3*(y3*y3))) :
    ((x1*y2+y1*x2)*(1 - d*(x1*x2*(y1*y2)))*y3 + (y1*y2+x1*x2)*(1 + d*(x1*x2*(y1*y2)))*x3) * ((1 + d*(x2*x3*(y2*y3)))*(1 - d*(x2*x3*(y2*y3))) + d*(x1*y1*((x2*y3+y2*x3)*(y2*y3+x2*x3))))
    = ((x2*y3+y2*x3)*(1 - d*(x2*x3*(y2*y3)))*y1 + (y2*y3+x2*x3)*(1 + d*(x2*x3*(y2*y3)))*x1) * ((1 + d*(x1*x2*(y1*y2)))*(1 - d*(x1*x2*(y1*y2))) + d*(x3*y3*((x1*y2+y1*x2)*(y1*y2+x1*x2)))) := by
  grobner

/-- d = -121665/121666. -/
def dE : F := 37095705934669439343138083508754565189542113879843219016388785533085940283555
/-- A root of -1. -/
def iE : F := 19681161376707505956807079304988542015446066515923890162744021073123829784752
theorem dE_def : 121666 * dE = -121665 := by decide +kernel
theorem iE_def : iE * iE = -1 := by decide +kernel

/-- d is no square (Euler). -/
theorem fpow_sq (s : F) (k : Nat) : fpow (s * s) k = fpow s (2 * k) := by
  rw [fpow_mul, ← fpow_add]
  congr 1
  omega
theorem dE_pow : pm P 256 37095705934669439343138083508754565189542113879843219016388785533085940283555 ((P - 1) / 2) = P - 1 := by decide +kernel
theorem fpow_last {s : F} {k : Nat} (hk : k = P - 1) (h : s ≠ 0) : fpow s k = 1 := by
  have h1 := fi_mul_self h
  have e : k = (P - 2) + 1 := by rw [hk]; decide +kernel
  rw [e, fpow_add]
  have e2 : fpow s 1 = s := by simp only [fpow]; grind
  rw [e2]
  have hc : fi s * s = s * fi s := by grobner
  show fi s * s = 1
  rw [hc]
  exact h1
theorem dE_nonsq (s : F) : s * s ≠ dE := by
  intro h
  have h0 : s ≠ 0 := by
    rintro rfl
    have : (0 : F) * 0 = 0 := by grind
    rw [this] at h
    revert h
    decide +kernel
  have h1 := fpow_last (k := 2 * ((P - 1) / 2)) (by decide +kernel) h0
  rw [← fpow_sq, h] at h1
  have h2 := fpow_val dE ((P - 1) / 2)
  rw [h1] at h2
  have h3 := pm_spec P 256 37095705934669439343138083508754565189542113879843219016388785533085940283555 ((P - 1) / 2) (by decide +kernel)
  rw [dE_pow] at h3
  have h4 : dE.val = 37095705934669439343138083508754565189542113879843219016388785533085940283555 := by decide +kernel
  rw [h4, ← h3] at h2
  revert h2
  decide +kernel

structure Pt where
  x : F
  y : F
  on : y * y - x * x = 1 + dE * (x * x * (y * y))

theorem Pt.ext' {p q : Pt} (hx : p.x = q.x) (hy : p.y = q.y) : p = q := by
  cases p; cases q
  simp only at hx hy
  subst hx hy
  rfl

theorem sq_eq {a b : F} (h : a * a = dE * (b * b)) : b = 0 := by
  by_cases hb : b = 0
  · exact hb
  · exfalso
    refine dE_nonsq (a * fi b) ?_
    have h1 := fi_mul_self hb
    have : a * fi b * (a * fi b) = (a * a) * (fi b * fi b) := by grobner
    rw [this, h]
    have : dE * (b * b) * (fi b * fi b) = dE * ((b * fi b) * (b * fi b)) := by grobner
    rw [this, h1]
    grobner

theorem two_ne : (2 : F) ≠ 0 := by decide +kernel
theorem half {a : F} (h : 2 * a = 0) : a = 0 := (no_zero h).resolve_left two_ne

/-- The denominators are not 0. -/
theorem den_ne (p q : Pt) {e : F} (hee : e * e = 1) : dE * (p.x * q.x * (p.y * q.y)) ≠ e := by
  intro he
  have h1 := sq_eq (e_comp iE_def p.on q.on he hee)
  have h2 := sq_eq (e_comp' iE_def p.on q.on he hee)
  have hne : p.x * p.y ≠ 0 := by
    intro h0
    have : dE * (p.x * q.x * (p.y * q.y)) = dE * (q.x * q.y) * (p.x * p.y) := by grobner
    rw [this, h0] at he
    have : e = 0 := by rw [← he]; grobner
    rw [this] at hee
    exact one_ne_zero (by rw [← hee]; grobner)
  have h3 := (no_zero h1).resolve_left hne
  have h4 := (no_zero h2).resolve_left hne
  have hy : q.y = 0 := half (by have : 2 * q.y = (iE * q.x + q.y) - (iE * q.x - q.y) := by grobner
                                rw [this, h3, h4]; grobner)
  have hx : q.x = 0 := by
    have h5 : iE * q.x = 0 := by rw [hy] at h3; rw [← h3]; grobner
    refine (no_zero h5).resolve_left ?_
    intro h0
    have := iE_def
    rw [h0] at this
    revert this
    decide +kernel
  have := q.on
  rw [hx, hy] at this
  exact one_ne_zero (by have h6 : (0 : F) * 0 - 0 * 0 = 0 := by grobner
                        rw [h6] at this
                        have h7 : (1 : F) + dE * (0 * 0 * (0 * 0)) = 1 := by grobner
                        rw [h7] at this; exact this.symm)
theorem den_p (p q : Pt) : 1 + dE * (p.x * q.x * (p.y * q.y)) ≠ 0 := fun h => den_ne p q (e := -1) (by grobner) (by
  have : dE * (p.x * q.x * (p.y * q.y)) = (1 + dE * (p.x * q.x * (p.y * q.y))) - 1 := by grobner
  rw [this, h]; grobner)
theorem den_m (p q : Pt) : 1 - dE * (p.x * q.x * (p.y * q.y)) ≠ 0 := fun h => den_ne p q (e := 1) (by grobner) (by
  have : dE * (p.x * q.x * (p.y * q.y)) = 1 - (1 - dE * (p.x * q.x * (p.y * q.y))) := by grobner
  rw [this, h]; grobner)

theorem mul_cancel {a b c : F} (hc : c ≠ 0) (h : a * c = b * c) : a = b := by
  have h1 : (a - b) * c = 0 := by
    have : (a - b) * c = a * c - b * c := by grobner
    rw [this, h]; grobner
  have h2 := (no_zero h1).resolve_right hc
  have : a = (a - b) + b := by grobner
  rw [this, h2]; grobner
theorem fi_cancel {a c : F} (hc : c ≠ 0) : a * fi c * c = a := by
  have h1 := fi_mul_self hc
  have : a * fi c * c = a * (c * fi c) := by grobner
  rw [this, h1]; grobner

def addX (p q : Pt) : F := (p.x * q.y + p.y * q.x) * fi (1 + dE * (p.x * q.x * (p.y * q.y)))
def addY (p q : Pt) : F := (p.y * q.y + p.x * q.x) * fi (1 - dE * (p.x * q.x * (p.y * q.y)))
theorem addX_mul (p q : Pt) : addX p q * (1 + dE * (p.x * q.x * (p.y * q.y))) = p.x * q.y + p.y * q.x := fi_cancel (den_p p q)
theorem addY_mul (p q : Pt) : addY p q * (1 - dE * (p.x * q.x * (p.y * q.y))) = p.y * q.y + p.x * q.x := fi_cancel (den_m p q)

theorem e_id1 (X Y t : F) : (Y * Y - X * X) * ((1 + t) * (1 + t) * ((1 - t) * (1 - t))) = Y * (1 - t) * (Y * (1 - t)) * ((1 + t) * (1 + t)) - X * (1 + t) * (X * (1 + t)) * ((1 - t) * (1 - t)) := by grobner
theorem e_id2 (X Y t d : F) : (1 + t) * (1 + t) * ((1 - t) * (1 - t)) + d * (X * (1 + t) * (X * (1 + t)) * (Y * (1 - t) * (Y * (1 - t)))) = (1 + d * (X * X * (Y * Y))) * ((1 + t) * (1 + t) * ((1 - t) * (1 - t))) := by grobner
theorem e_id3 (A t s u v : F) : A * ((1 + t) * (1 - t) * ((1 + s) * (1 - s)) * (u * v)) = (A * u) * ((1 + t) * (1 - t) * ((1 + s) * (1 - s)) * v) := by grobner
theorem e_id4 (A t s u v : F) : A * ((1 + t) * (1 - t) * ((1 + s) * (1 - s)) * (u * v)) = (A * v) * ((1 + t) * (1 - t) * ((1 + s) * (1 - s)) * u) := by grobner
theorem add_on (p q : Pt) : addY p q * addY p q - addX p q * addX p q = 1 + dE * (addX p q * addX p q * (addY p q * addY p q)) := by
  have h := e_close p.on q.on
  have hx := addX_mul p q
  have hy := addY_mul p q
  have d1 := den_p p q
  have d2 := den_m p q
  generalize addX p q = X at *
  generalize addY p q = Y at *
  rw [← hx, ← hy] at h
  generalize dE * (p.x * q.x * (p.y * q.y)) = t at *
  refine mul_cancel (c := (1 + t) * (1 + t) * ((1 - t) * (1 - t))) ?_ ?_
  · intro h0
    rcases no_zero h0 with h1 | h1
    · rcases no_zero h1 with h2 | h2 <;> exact d1 h2
    · rcases no_zero h1 with h2 | h2 <;> exact d2 h2
  · rw [e_id1 X Y t, h]
    exact e_id2 X Y t dE

def Pt.add (p q : Pt) : Pt := ⟨addX p q, addY p q, add_on p q⟩
def Pt.zero : Pt := ⟨0, 1, by grobner⟩
def Pt.neg (p : Pt) : Pt := ⟨-p.x, p.y, by have := p.on; grobner⟩

theorem Pt.add_comm (p q : Pt) : p.add q = q.add p := by
  refine Pt.ext' ?_ ?_
  · show addX p q = addX q p
    unfold addX
    have e1 : p.x * q.y + p.y * q.x = q.x * p.y + q.y * p.x := by grobner
    have e2 : p.x * q.x * (p.y * q.y) = q.x * p.x * (q.y * p.y) := by grobner
    rw [e1, e2]
  · show addY p q = addY q p
    unfold addY
    have e1 : p.y * q.y + p.x * q.x = q.y * p.y + q.x * p.x := by grobner
    have e2 : p.x * q.x * (p.y * q.y) = q.x * p.x * (q.y * p.y) := by grobner
    rw [e1, e2]

theorem fi_one : fi (1 : F) = 1 := by
  have h := fi_mul_self one_ne_zero
  have e : (1 : F) * fi 1 = fi 1 := by grobner
  rw [e] at h
  exact h
theorem Pt.zero_add (p : Pt) : Pt.zero.add p = p := by
  refine Pt.ext' ?_ ?_
  · show (0 * p.y + 1 * p.x) * fi (1 + dE * (0 * p.x * (1 * p.y))) = p.x
    have e : 1 + dE * (0 * p.x * (1 * p.y)) = 1 := by grobner
    rw [e, fi_one]; grobner
  · show (1 * p.y + 0 * p.x) * fi (1 - dE * (0 * p.x * (1 * p.y))) = p.y
    have e : 1 - dE * (0 * p.x * (1 * p.y)) = 1 := by grobner
    rw [e, fi_one]; grobner
theorem Pt.add_zero (p : Pt) : p.add Pt.zero = p := by rw [Pt.add_comm, Pt.zero_add]

theorem Pt.add_assoc (p q r : Pt) : (p.add q).add r = p.add (q.add r) := by
  have hx1 := addX_mul p q
  have hy1 := addY_mul p q
  have hx2 := addX_mul q r
  have hy2 := addY_mul q r
  have a1 := den_p p q
  have a2 := den_m p q
  have b1 := den_p q r
  have b2 := den_m q r
  have hx3 := addX_mul (p.add q) r
  have hy3 := addY_mul (p.add q) r
  have hx4 := addX_mul p (q.add r)
  have hy4 := addY_mul p (q.add r)
  have c1 := den_p (p.add q) r
  have c2 := den_m (p.add q) r
  have d1 := den_p p (q.add r)
  have d2 := den_m p (q.add r)
  have AX := e_assoc_x p.on q.on r.on
  have AY := e_assoc_y p.on q.on r.on
  rw [← hx1, ← hy1, ← hx2, ← hy2] at AX AY
  have ex : (p.add q).x = addX p q := rfl
  have ey : (p.add q).y = addY p q := rfl
  have fx : (q.add r).x = addX q r := rfl
  have fy : (q.add r).y = addY q r := rfl
  rw [ex, ey] at hx3 hy3 c1 c2
  rw [fx, fy] at hx4 hy4 d1 d2
  refine Pt.ext' ?_ ?_
  · show addX (p.add q) r = addX p (q.add r)
    generalize addX (p.add q) r = A at *
    generalize addX p (q.add r) = B at *
    generalize addX p q = X at *
    generalize addY p q = Y at *
    generalize addX q r = X' at *
    generalize addY q r = Y' at *
    generalize dE * (p.x * q.x * (p.y * q.y)) = t at *
    generalize dE * (q.x * r.x * (q.y * r.y)) = s at *
    refine mul_cancel (c := (1 + t) * (1 - t) * ((1 + s) * (1 - s)) * ((1 + dE * (X * r.x * (Y * r.y))) * (1 + dE * (p.x * X' * (p.y * Y'))))) ?_ ?_
    · intro h0
      rcases no_zero h0 with h1 | h1
      · rcases no_zero h1 with h2 | h2
        · rcases no_zero h2 with h3 | h3
          · exact a1 h3
          · exact a2 h3
        · rcases no_zero h2 with h3 | h3
          · exact b1 h3
          · exact b2 h3
      · rcases no_zero h1 with h2 | h2
        · exact c1 h2
        · exact d1 h2
    · rw [e_id3 A, e_id4 B, hx3, hx4]
      clear hx1 hy1 hx2 hy2 hx3 hy3 hx4 hy4 AY a1 a2 b1 b2 c1 c2 d1 d2 ex ey fx fy A B
      grobner
  · show addY (p.add q) r = addY p (q.add r)
    generalize addY (p.add q) r = A at *
    generalize addY p (q.add r) = B at *
    generalize addX p q = X at *
    generalize addY p q = Y at *
    generalize addX q r = X' at *
    generalize addY q r = Y' at *
    generalize dE * (p.x * q.x * (p.y * q.y)) = t at *
    generalize dE * (q.x * r.x * (q.y * r.y)) = s at *
    refine mul_cancel (c := (1 + t) * (1 - t) * ((1 + s) * (1 - s)) * ((1 - dE * (X * r.x * (Y * r.y))) * (1 - dE * (p.x * X' * (p.y * Y'))))) ?_ ?_
    · intro h0
      rcases no_zero h0 with h1 | h1
      · rcases no_zero h1 with h2 | h2
        · rcases no_zero h2 with h3 | h3
          · exact a1 h3
          · exact a2 h3
        · rcases no_zero h2 with h3 | h3
          · exact b1 h3
          · exact b2 h3
      · rcases no_zero h1 with h2 | h2
        · exact c2 h2
        · exact d2 h2
    · rw [e_id3 A, e_id4 B, hy3, hy4]
      clear hx1 hy1 hx2 hy2 hx3 hy3 hx4 hy4 AX a1 a2 b1 b2 c1 c2 d1 d2 ex ey fx fy A B
      grobner

/-- Multiples. -/
def smul : Nat → Pt → Pt
  | 0, _ => Pt.zero
  | n + 1, p => (smul n p).add p
theorem smul_add (m n : Nat) (p : Pt) : smul (m + n) p = (smul m p).add (smul n p) := by
  induction n with
  | zero => exact (Pt.add_zero _).symm
  | succ n ih => show (smul (m + n) p).add p = _; rw [ih, Pt.add_assoc]; rfl
theorem smul_zero' (n : Nat) : smul n Pt.zero = Pt.zero := by
  induction n with
  | zero => rfl
  | succ n ih => show (smul n Pt.zero).add Pt.zero = _; rw [ih, Pt.add_zero]
theorem smul_smul (m n : Nat) (p : Pt) : smul m (smul n p) = smul (m * n) p := by
  induction m with
  | zero => rw [Nat.zero_mul]; rfl
  | succ m ih => show (smul m (smul n p)).add (smul n p) = _; rw [ih, Nat.succ_mul, smul_add]
theorem smul_comm (m n : Nat) (p : Pt) : smul m (smul n p) = smul n (smul m p) := by rw [smul_smul, smul_smul, Nat.mul_comm]
end Go.Proofs.Ytdjdfmnjoilmkaa
