/-
 ValB · PolyMath · RefPol · TagMath, IN ONE TEXT.
-/
import Derived.WalkKit
import Derived.Test.YtkhbihnnkflfkaaGreatTag
/-
 NUMBERS BY DIGITS, to any base: what a digit that is set does; no program in sight.
-/
namespace Go.Proofs.YtkhbihnnkflfkaaGreat
set_option linter.unusedVariables false
set_option linter.unusedSimpArgs false

variable {l : List Nat} {i x : Nat}
def valB (b : Nat) : List Nat → Nat
 | [] => 0
 | d :: l => d + b * valB b l
theorem valB_set (b : Nat) : ∀ (l : List Nat) (i x : Nat), i < l.length → valB b (l.set i x) + b ^ i * l.getD i 0 = valB b l + b ^ i * x
 | d :: l, 0, x, _ => by simp [valB]; omega
 | d :: l, i + 1, x, h => by
  have h1 := valB_set b l i x (by simpa using h)
  simp only [List.set_cons_succ, valB, List.getD_cons_succ]
  have h2 : b * valB b (l.set i x) + b * (b ^ i * l.getD i 0) = b * valB b l + b * (b ^ i * x) := by rw [← Nat.mul_add, h1, Nat.mul_add]
  rw [Nat.pow_succ, Nat.mul_comm (b ^ i) b, Nat.mul_assoc, Nat.mul_assoc]
  omega
theorem valB_lt {b : Nat} (hb : 0 < b) : ∀ l : List Nat, (∀ d ∈ l, d < b) → valB b l < b ^ l.length
 | [], _ => by simp [valB]
 | d :: l, h => by
  have h1 := valB_lt hb l (fun x hx => h x (List.mem_cons_of_mem _ hx))
  have h2 := h d (List.mem_cons_self ..)
  have h3 : b * (valB b l + 1) ≤ b * b ^ l.length := Nat.mul_le_mul_left b h1
  rw [Nat.mul_add, Nat.mul_one] at h3
  rw [valB, List.length_cons, Nat.pow_succ, Nat.mul_comm (b ^ l.length)]
  omega
theorem valB_rep (b : Nat) : ∀ n, valB b (List.replicate n 0) = 0
 | 0 => rfl
 | n + 1 => by rw [List.replicate_succ, valB, valB_rep b n, Nat.mul_zero]
def evB (b : Nat) (f : Nat → Nat) : Nat → Nat
 | 0 => 0
 | i + 1 => evB b f i + b ^ i * f i
theorem evB_shift (b d : Nat) (f : Nat → Nat) : ∀ k, evB b (fun j => match j with | 0 => d | j + 1 => f j) (k + 1) = d + b * evB b f k
 | 0 => by simp [evB]
 | k + 1 => by
  rw [evB, evB_shift b d f k]
  show d + b * evB b f k + b ^ (k + 1) * f k = d + b * (evB b f k + b ^ k * f k)
  rw [Nat.mul_add, Nat.pow_succ, Nat.mul_comm (b ^ k) b, Nat.mul_assoc]
  omega
theorem valB_evB (b : Nat) : ∀ l : List Nat, valB b l = evB b (fun j => l.getD j 0) l.length
 | [] => rfl
 | d :: l => by
  rw [valB, valB_evB b l, List.length_cons, ← evB_shift]
  congr 1
  funext j
  cases j <;> rfl
theorem getDB_ne {j : Nat} (h : i ≠ j) : (l.set i x).getD j 0 = l.getD j 0 := by
 simp only [List.getD_eq_getElem?_getD]
 rw [List.getElem?_set_ne h]
theorem getDB_eq (h : i < l.length) : (l.set i x).getD i 0 = x := by
 simp only [List.getD_eq_getElem?_getD]
 rw [List.getElem?_set_self h]
 rfl
end Go.Proofs.YtkhbihnnkflfkaaGreat
/-
 POLY1305, PLAINLY: what the limbs of 64 bits come to; no program in sight.
-/
namespace Go.Proofs.YtkhbihnnkflfkaaGreat
set_option linter.unusedVariables false
set_option linter.unusedSimpArgs false

variable {a l m s xs : List Nat}
abbrev WM : Nat := 18446744073709551616
theorem addK_len (a b : List Nat) : ∀ K, (addK a b K).1.length = a.length
 | 0 => rfl
 | K + 1 => by rw [addK, List.length_set]; exact addK_len a b K
theorem addK_val (a b : List Nat) : ∀ K, K ≤ a.length → valB WM (addK a b K).1 + WM ^ K * (addK a b K).2 = valB WM a + evB WM (fun j => b.getD j 0) K
 | 0, _ => by simp [addK, evB]
 | K + 1, h => by
  have h1 := addK_val a b K (by omega)
  have h2 := valB_set WM (addK a b K).1 K (((addK a b K).1.getD K 0 + b.getD K 0 + (addK a b K).2) % WM) (by rw [addK_len]; omega)
  have h3 := Nat.mod_add_div ((addK a b K).1.getD K 0 + b.getD K 0 + (addK a b K).2) WM
  have h4 : WM ^ K * (((addK a b K).1.getD K 0 + b.getD K 0 + (addK a b K).2) % WM + WM * (((addK a b K).1.getD K 0 + b.getD K 0 + (addK a b K).2) / WM)) = WM ^ K * ((addK a b K).1.getD K 0 + b.getD K 0 + (addK a b K).2) := by rw [h3]
  rw [Nat.mul_add, Nat.mul_add, Nat.mul_add, ← Nat.mul_assoc, ← Nat.pow_succ] at h4
  rw [addK, evB]
  show valB WM ((addK a b K).1.set K (((addK a b K).1.getD K 0 + b.getD K 0 + (addK a b K).2) % WM)) + WM ^ (K + 1) * (((addK a b K).1.getD K 0 + b.getD K 0 + (addK a b K).2) / WM) = _
  generalize valB WM ((addK a b K).1.set K (((addK a b K).1.getD K 0 + b.getD K 0 + (addK a b K).2) % WM)) = A at h2 ⊢
  generalize WM ^ K * (((addK a b K).1.getD K 0 + b.getD K 0 + (addK a b K).2) % WM) = X at h2 h4
  generalize WM ^ K * ((addK a b K).1.getD K 0) = Y at h2 h4
  generalize WM ^ (K + 1) * (((addK a b K).1.getD K 0 + b.getD K 0 + (addK a b K).2) / WM) = Z9 at h4 ⊢
  omega
theorem evB_list {b : Nat} : evB b (fun j => l.getD j 0) l.length = valB b l := (valB_evB b l).symm
theorem addN_val {b : List Nat} (ha : a.length = 3) (hb : b.length = 3) (h : valB WM a + valB WM b < WM ^ 3) : valB WM (addN a b) = valB WM a + valB WM b := by
 have h1 := addK_val a b 3 (by omega)
 have h2 : evB WM (fun j => b.getD j 0) 3 = valB WM b := by rw [← hb]; exact evB_list
 rw [h2] at h1
 have h3 : (addK a b 3).2 = 0 := by
  rcases Nat.eq_zero_or_pos (addK a b 3).2 with e | e
  ·exact e
  ·have := Nat.mul_le_mul_left (WM ^ 3) e
   omega
 rw [h3, Nat.mul_zero, Nat.add_zero] at h1
 exact h1

theorem step_mul {X ov c : Nat} (hX : X ≤ 340282366920938463426481119284349108225) (ho : ov < 18446744073709551616) (hc : c < 18446744073709551616) :
  ((X % 18446744073709551616 + ov + 0) % 18446744073709551616 + c + 0) % 18446744073709551616 + 18446744073709551616 * (((X / 18446744073709551616 + (X % 18446744073709551616 + ov + 0) / 18446744073709551616) % 18446744073709551616 + ((X % 18446744073709551616 + ov + 0) % 18446744073709551616 + c + 0) / 18446744073709551616) % 18446744073709551616) = X + ov + c := by
 omega
theorem prodJ_len (o r : List Nat) (i x : Nat) : ∀ J, (prodJ o r i x J).1.length = o.length
 | 0 => rfl
 | J + 1 => by rw [prodJ, List.length_set]; exact prodJ_len o r i x J
theorem prodJ_above (o r : List Nat) (i x : Nat) : ∀ J k, i + J ≤ k → (prodJ o r i x J).1.getD k 0 = o.getD k 0
 | 0, _, _ => rfl
 | J + 1, k, h => by rw [prodJ, getDB_ne (by omega)]; exact prodJ_above o r i x J k (by omega)
theorem prodJ_val {n m : Nat} {o r : List Nat} (ho : W64 n o) (hr : W64 m r) (i : Nat) {x : Nat} (hx : x < 18446744073709551616) : ∀ J, i + J ≤ o.length → valB WM (prodJ o r i x J).1 + WM ^ (i + J) * (prodJ o r i x J).2 = valB WM o + WM ^ i * (x * evB WM (fun j => r.getD j 0) J)
 | 0, _ => by simp [prodJ, evB]
 | J + 1, h => by
  have h1 := prodJ_val ho hr i hx J (by omega)
  have hk := prodJ_ok (r := r) ho i x J
  have hX : x * r.getD J 0 ≤ 340282366920938463426481119284349108225 := Nat.mul_le_mul (show x ≤ 18446744073709551615 by omega) (show r.getD J 0 ≤ 18446744073709551615 by have := hr.get J; omega)
  have hs := step_mul hX (hk.1.get (i + J)) hk.2
  rw [prodJ, evB]
  dsimp only
  obtain ⟨out, eo⟩ : ∃ q, q = ((x * r.getD J 0 % 18446744073709551616 + (prodJ o r i x J).1.getD (i + J) 0 + 0) % 18446744073709551616 + (prodJ o r i x J).2 + 0) % 18446744073709551616 := ⟨_, rfl⟩
  obtain ⟨cc, ec⟩ : ∃ q, q = ((x * r.getD J 0 / 18446744073709551616 + (x * r.getD J 0 % 18446744073709551616 + (prodJ o r i x J).1.getD (i + J) 0 + 0) / 18446744073709551616) % 18446744073709551616 + ((x * r.getD J 0 % 18446744073709551616 + (prodJ o r i x J).1.getD (i + J) 0 + 0) % 18446744073709551616 + (prodJ o r i x J).2 + 0) / 18446744073709551616) % 18446744073709551616 := ⟨_, rfl⟩
  rw [← eo, ← ec] at hs
  rw [← eo, ← ec]
  have h2 := valB_set WM (prodJ o r i x J).1 (i + J) out (by rw [prodJ_len]; omega)
  have h4 : WM ^ (i + J) * (out + 18446744073709551616 * cc) = WM ^ (i + J) * (x * r.getD J 0 + (prodJ o r i x J).1.getD (i + J) 0 + (prodJ o r i x J).2) := by rw [hs]
  have e5 : WM ^ (i + (J + 1)) * cc = WM ^ (i + J) * (18446744073709551616 * cc) := by rw [← Nat.mul_assoc, ← Nat.add_assoc, Nat.pow_succ]
  have e6 : WM ^ i * (x * (evB WM (fun j => r.getD j 0) J + WM ^ J * r.getD J 0)) = WM ^ i * (x * evB WM (fun j => r.getD j 0) J) + WM ^ (i + J) * (x * r.getD J 0) := by
   rw [Nat.mul_add, Nat.mul_add, Nat.pow_add, Nat.mul_assoc (WM ^ i) (WM ^ J), Nat.mul_left_comm x (WM ^ J)]
  rw [e5, e6]
  rw [Nat.mul_add, Nat.mul_add, Nat.mul_add] at h4
  generalize WM ^ (i + J) * (18446744073709551616 * cc) = A1 at h4 ⊢
  generalize WM ^ (i + J) * out = A2 at h2 h4
  generalize WM ^ (i + J) * (x * r.getD J 0) = A3 at h4 ⊢
  generalize WM ^ (i + J) * ((prodJ o r i x J).1.getD (i + J) 0) = A4 at h2 h4
  generalize WM ^ (i + J) * (prodJ o r i x J).2 = A5 at h1 h4
  generalize valB WM ((prodJ o r i x J).1.set (i + J) out) = A6 at h2 ⊢
  omega
theorem getD_repB (n j : Nat) : (List.replicate n 0).getD j 0 = 0 := by
 simp only [List.getD_eq_getElem?_getD]
 by_cases h : j < n
 ·simp [h]
 ·rw [List.getElem?_eq_none (by simp; omega)]; rfl
theorem prodI_above (a r : List Nat) : ∀ I k, I ≤ 3 → I + 2 ≤ k → (prodI a r I).getD k 0 = 0
 | 0, k, _, _ => by
  rw [prodI]
  exact getD_repB 4 k
 | I + 1, k, h, hk => by
  rw [prodI]
  split
  ·rw [getDB_ne (by omega), prodJ_above _ _ _ _ 2 k (by omega)]
   exact prodI_above a r I k (by omega) (by omega)
  ·rw [prodJ_above _ _ _ _ 2 k (by omega)]
   exact prodI_above a r I k (by omega) (by omega)
theorem prodI_val {a r : List Nat} (ha : W64 3 a) (hr : W64 2 r) (h : valB WM a * valB WM r < WM ^ 4) : ∀ I, I ≤ 3 → valB WM (prodI a r I) = evB WM (fun j => a.getD j 0) I * valB WM r
 | 0, _ => by rw [prodI, valB_rep, evB, Nat.zero_mul]
 | I + 1, hI => by
  have ih := prodI_val ha hr h I (by omega)
  have hok := prodI_ok a r I
  have h1 := prodJ_val hok hr I (ha.get I) 2 (by rw [hok.1]; omega)
  have h2 : evB WM (fun j => r.getD j 0) 2 = valB WM r := by rw [← hr.1]; exact evB_list
  have hl : (prodJ (prodI a r I) r I (a.getD I 0) 2).1.length = 4 := by rw [prodJ_len]; exact hok.1
  rw [h2, ih] at h1
  have h3 : evB WM (fun j => a.getD j 0) (I + 1) * valB WM r = evB WM (fun j => a.getD j 0) I * valB WM r + WM ^ I * (a.getD I 0 * valB WM r) := by rw [evB, Nat.add_mul, Nat.mul_assoc]
  rw [prodI, h3, ← h1]
  split
  ·rename_i hlt
   have h4 := valB_set WM (prodJ (prodI a r I) r I (a.getD I 0) 2).1 (I + 2) (prodJ (prodI a r I) r I (a.getD I 0) 2).2 (by omega)
   rw [prodJ_above _ _ _ _ 2 (I + 2) (Nat.le_refl _), prodI_above a r I (I + 2) (by omega) (Nat.le_refl _), Nat.mul_zero, Nat.add_zero] at h4
   exact h4
  ·rename_i hge
   obtain rfl : I = 2 := by omega
   have h5 : evB WM (fun j => a.getD j 0) 3 = valB WM a := by rw [← ha.1]; exact evB_list
   rw [show (2 : Nat) + 1 = 3 from rfl, h5] at h3
   rw [← h1] at h3
   have h6 : (prodJ (prodI a r 2) r 2 (a.getD 2 0) 2).2 = 0 := by
    rcases Nat.eq_zero_or_pos (prodJ (prodI a r 2) r 2 (a.getD 2 0) 2).2 with e | e
    ·exact e
    ·have h7 := Nat.mul_le_mul_left (WM ^ (2 + 2)) e
     have h8 : WM ^ (2 + 2) = WM ^ 4 := rfl
     omega
   rw [h6, Nat.mul_zero, Nat.add_zero]
theorem prodN_val {r : List Nat} (ha : W64 3 a) (hr : W64 2 r) (h : valB WM a * valB WM r < WM ^ 4) : valB WM (prodN a r) = valB WM a * valB WM r := by
 have h1 := prodI_val ha hr h 3 (Nat.le_refl _)
 have h5 : evB WM (fun j => a.getD j 0) 3 = valB WM a := by rw [← ha.1]; exact evB_list
 rw [h5] at h1
 exact h1

theorem and_3 (x : Nat) : x &&& 3 = x % 4 := Nat.and_two_pow_sub_one_eq_mod x 2
theorem and_hi {x : Nat} (h : x < 18446744073709551616) : x &&& (18446744073709551615 - 3) = x - x % 4 := by
 have h1 : x &&& (18446744073709551615 - 3) = (x >>> 2) <<< 2 := by
  apply Nat.eq_of_testBit_eq
  intro i
  have e : (18446744073709551615 - 3 : Nat) = (2 ^ 62 - 1) <<< 2 := by rw [Nat.shiftLeft_eq]
  rw [e, Nat.testBit_and, Nat.testBit_shiftLeft, Nat.testBit_shiftLeft, Nat.testBit_shiftRight, Nat.testBit_two_pow_sub_one]
  by_cases h2 : 2 ≤ i
  ·have e2 : 2 + (i - 2) = i := by omega
   rw [e2]
   by_cases h3 : i - 2 < 62
   ·simp [h2, h3]
   ·have h4 : x.testBit i = false := Nat.testBit_lt_two_pow (Nat.lt_of_lt_of_le (show x < 2 ^ 64 from h) (Nat.pow_le_pow_right (by decide) (by omega)))
    simp [h2, h3, h4]
  ·simp [h2]
 rw [h1, Nat.shiftRight_eq_div_pow, Nat.shiftLeft_eq]
 omega
theorem or_62 {y z : Nat} (hy : y < 4611686018427387904) : y ||| z * 2 ^ 62 % 18446744073709551616 = y + (z % 4) * 4611686018427387904 := by
 have e : z * 2 ^ 62 % 18446744073709551616 = (z % 4) * 4611686018427387904 := by omega
 have e3 : (z % 4 * 4611686018427387904) % 2 ^ 62 = 0 := by rw [show (2 : Nat) ^ 62 = 4611686018427387904 from rfl]; exact Nat.mul_mod_left _ _
 have e4 : y < 2 ^ 62 := by rw [show (2 : Nat) ^ 62 = 4611686018427387904 from rfl]; exact hy
 rw [e, Nat.or_comm, nat_join 62 _ _ e3 e4, Nat.add_comm]
theorem list3 (h : W64 3 s) : ∃ a b c, s = [a, b, c] ∧ a < 18446744073709551616 ∧ b < 18446744073709551616 ∧ c < 18446744073709551616 := by
 obtain ⟨hl, h8⟩ := h
 match s, hl, h8 with
 | [a, b, c], _, h8 => exact ⟨a, b, c, rfl, h8 a (by simp), h8 b (by simp), h8 c (by simp)⟩
theorem list4 (h : W64 4 s) : ∃ a b c d, s = [a, b, c, d] ∧ a < 18446744073709551616 ∧ b < 18446744073709551616 ∧ c < 18446744073709551616 ∧ d < 18446744073709551616 := by
 obtain ⟨hl, h8⟩ := h
 match s, hl, h8 with
 | [a, b, c, d], _, h8 => exact ⟨a, b, c, d, rfl, h8 a (by simp), h8 b (by simp), h8 c (by simp), h8 d (by simp)⟩
theorem val3 (a b c : Nat) : valB WM [a, b, c] = a + 18446744073709551616 * b + 340282366920938463463374607431768211456 * c := by
 show a + 18446744073709551616 * (b + 18446744073709551616 * (c + 18446744073709551616 * 0)) = _
 omega
theorem val4 (a b c d : Nat) : valB WM [a, b, c, d] = a + 18446744073709551616 * b + 340282366920938463463374607431768211456 * c + 6277101735386680763835789423207666416102355444464034512896 * d := by
 show a + 18446744073709551616 * (b + 18446744073709551616 * (c + 18446744073709551616 * (d + 18446744073709551616 * 0))) = _
 omega
theorem WM3 : WM ^ 3 = 6277101735386680763835789423207666416102355444464034512896 := by decide
theorem foldN_val {p : List Nat} (h : W64 4 p) : valB WM (foldN p) = valB WM p % 1361129467683753853853498429727072845824 + 5 * (valB WM p / 1361129467683753853853498429727072845824) := by
 have ok1 := fold_low h
 have ok2 := fold_four h
 have ok3 := fold_one h
 obtain ⟨p0, p1, p2, p3, rfl, h0, h1, h2, h3⟩ := list4 h
 unfold foldN
 simp only [List.getD_cons_zero, List.getD_cons_succ] at ok1 ok2 ok3 ⊢
 rw [and_3, and_hi h2, or_62 (show p2 / 2 ^ 2 < 4611686018427387904 by omega)] at *
 have v1 := val3 p0 p1 (p2 % 4)
 have v2 := val3 (p2 - p2 % 4) p3 0
 have v3 := val3 (p2 / 2 ^ 2 + p3 % 4 * 4611686018427387904) (p3 / 2 ^ 2) 0
 have v4 := val4 p0 p1 p2 p3
 have s1 := addN_val (a := [p0, p1, p2 % 4]) (b := [p2 - p2 % 4, p3, 0]) rfl rfl (by rw [v1, v2, WM3]; omega)
 have s2 := addN_val (a := addN [p0, p1, p2 % 4] [p2 - p2 % 4, p3, 0]) (b := [p2 / 2 ^ 2 + p3 % 4 * 4611686018427387904, p3 / 2 ^ 2, 0]) (addN_ok ok1 ok2).1 rfl (by rw [s1, v1, v2, v3, WM3]; omega)
 rw [s2, s1, v1, v2, v3, v4]
 omega
theorem redN_val (h : W64 3 m) (hv : valB WM m < 2700000000000000000000000000000000000000) : valB WM (redN m) = if 1361129467683753853853498429727072845819 ≤ valB WM m then valB WM m - 1361129467683753853853498429727072845819 else valB WM m := by
 have s1 := addN_val (a := m) (b := [5, 0, 0]) h.1 rfl (by rw [val3, WM3]; omega)
 rw [val3] at s1
 have hok := addN_ok h five_ok
 unfold redN
 obtain ⟨q0, q1, q2, hq, b0, b1, b2⟩ := list3 hok
 rw [hq, val3] at s1
 rw [hq]
 simp only [List.getD_cons_zero, List.getD_cons_succ, List.set_cons_succ, List.set_cons_zero]
 by_cases hc : 0 < q2 / 2 ^ 2
 ·rw [if_pos hc, if_pos (by omega), and_3, val3]
  omega
 ·rw [if_neg hc, if_neg (by omega)]
theorem red2_val (h : W64 3 m) (hv : valB WM m < 2700000000000000000000000000000000000000) : valB WM (redN (redN m)) = valB WM m % 1361129467683753853853498429727072845819 := by
 have h1 := redN_val h hv
 have h2 := redN_val (redN_ok h) (by rw [h1]; split <;> omega)
 by_cases c1 : 1361129467683753853853498429727072845819 ≤ valB WM m
 ·rw [if_pos c1] at h1
  rw [h1] at h2
  rw [h2]
  split <;> omega
 ·rw [if_neg c1] at h1
  rw [h1, if_neg c1] at h2
  rw [h2]
  omega

theorem pow8 (k : Nat) : 256 ^ k = 2 ^ (8 * k) := by rw [Nat.pow_mul]
theorem lowN_ev (xs : List Nat) (i : Nat) : ∀ n, lowN xs i n = evB 256 (fun j => xs.getD (i + j) 0) n
 | 0 => rfl
 | n + 1 => by rw [lowN, evB, lowN_ev xs i n, pow8, Nat.mul_comm]
theorem evB_split (b : Nat) (f : Nat → Nat) (a : Nat) : ∀ k, evB b f (a + k) = evB b f a + b ^ a * evB b (fun j => f (a + j)) k
 | 0 => by rw [evB, Nat.mul_zero]; rfl
 | k + 1 => by
  show evB b f (a + k) + b ^ (a + k) * f (a + k) = _
  rw [evB_split b f a k, evB, Nat.pow_add, Nat.mul_add, Nat.mul_assoc, Nat.add_assoc]
theorem evB_zero (b : Nat) (f : Nat → Nat) (h : ∀ j, f j = 0) : ∀ k, evB b f k = 0
 | 0 => rfl
 | k + 1 => by rw [evB, evB_zero b f h k, h, Nat.mul_zero]
theorem getD_over {j : Nat} (h : l.length ≤ j) : l.getD j 0 = 0 := by rw [List.getD_eq_getElem?_getD, List.getElem?_eq_none h]; rfl
theorem lowN_val {n : Nat} (h : xs.length ≤ n) : lowN xs 0 n = valB 256 xs := by
 obtain ⟨k, rfl⟩ := Nat.exists_eq_add_of_le h
 rw [lowN_ev, valB_evB]
 have e : (fun j => xs.getD (0 + j) 0) = fun j => xs.getD j 0 := by funext j; rw [Nat.zero_add]
 rw [e, evB_split, evB_zero 256 (fun j => xs.getD (xs.length + j) 0) (fun j => getD_over (by omega)), Nat.mul_zero, Nat.add_zero]
theorem low_24 (ys : List Nat) : lowN ys 0 8 + 18446744073709551616 * lowN ys 8 8 + 340282366920938463463374607431768211456 * lowN ys 16 8 = lowN ys 0 24 := by
 have h1 := evB_split 256 (fun j => ys.getD (0 + j) 0) 8 16
 have h2 := evB_split 256 (fun j => ys.getD (0 + (8 + j)) 0) 8 8
 rw [lowN_ev ys 0 24, lowN_ev ys 0 8, lowN_ev ys 8 8, lowN_ev ys 16 8]
 have e1 : (fun j => ys.getD (0 + (8 + j)) 0) = fun j => ys.getD (8 + j) 0 := by funext j; rw [Nat.zero_add]
 have e2 : (fun j => ys.getD (0 + (8 + (8 + j))) 0) = fun j => ys.getD (16 + j) 0 := by funext j; congr 1; omega
 rw [show (8 : Nat) + 16 = 24 from rfl] at h1
 rw [e1] at h1 h2
 rw [show (8 : Nat) + 8 = 16 from rfl] at h2
 have h3 : evB 256 (fun j => ys.getD (8 + j) 0) 16 = evB 256 (fun j => ys.getD (8 + j) 0) 8 + 256 ^ 8 * evB 256 (fun j => ys.getD (16 + j) 0) 8 := by
  rw [h2]
  congr 2
 rw [h1, h3, show (256 : Nat) ^ 8 = 18446744073709551616 from rfl]
 omega
def blkN (xs : List Nat) : Nat := valB 256 (xs ++ [1])
theorem ofN_val (h : xs.length ≤ 16) : valB WM (ofN xs) = blkN xs := by
 unfold ofN blkN
 rw [val3, low_24, lowN_val (by rw [List.length_append]; show xs.length + 1 ≤ 24; omega)]
theorem valB_app (b : Nat) : ∀ xs ys : List Nat, valB b (xs ++ ys) = valB b xs + b ^ xs.length * valB b ys
 | [], ys => by simp [valB]
 | d :: xs, ys => by
  rw [List.cons_append, valB, valB, valB_app b xs ys, List.length_cons, Nat.pow_succ, Nat.mul_add, Nat.mul_comm (b ^ xs.length) b, Nat.mul_assoc]
  omega
theorem blkN_eq (xs : List Nat) : blkN xs = valB 256 xs + 256 ^ xs.length := by
 unfold blkN
 rw [valB_app]
 show _ + _ * (1 + 256 * 0) = _
 rw [Nat.mul_zero, Nat.add_zero, Nat.mul_one]
theorem blkN_lt (h : xs.length ≤ 16) (h8 : ∀ x ∈ xs, x < 256) : blkN xs < 680564733841876926926749214863536422912 := by
 have h1 := valB_lt (b := 256) (by decide) xs h8
 have h2 : (256 : Nat) ^ xs.length ≤ 256 ^ 16 := Nat.pow_le_pow_right (by decide) h
 have h3 : (256 : Nat) ^ 16 = 340282366920938463463374607431768211456 := by decide
 rw [blkN_eq]
 omega
abbrev P5 : Nat := 1361129467683753853853498429727072845819
def polyM (R : Nat) (bs : List Nat) (pre : List Nat) : Nat := pre.foldl (fun h x => (h + blkN (chunkL bs 16 x)) * R % P5) 0
theorem fold_mod (V : Nat) : (V % 1361129467683753853853498429727072845824 + 5 * (V / 1361129467683753853853498429727072845824)) % 1361129467683753853853498429727072845819 = V % 1361129467683753853853498429727072845819 := by omega
theorem tag_step {H C R N : Nat} {h c rs : List Nat} (hh : W64 3 h) (hc : W64 3 c) (hr : W64 2 rs) (vh : valB WM h = H) (vc : valB WM c = C) (vr : valB WM rs = R) (bH : H < 1786482426334926933182716689016783110144) (bC : C < 680564733841876926926749214863536422912) (bR : R < 21267647932558653966460912964485513216) :
  valB WM (foldN (prodN (addN h c) rs)) < 1786482426334926933182716689016783110144 ∧ valB WM (foldN (prodN (addN h c) rs)) % P5 = (H + C) * R % P5 := by
 have s1 := addN_val hh.1 hc.1 (by rw [vh, vc, WM3]; omega)
 rw [vh, vc] at s1
 have hb : (H + C) * R ≤ 2467047160176803860109465903880319533056 * 21267647932558653966460912964485513216 := Nat.mul_le_mul (by omega) (by omega)
 have s2 := prodN_val (addN_ok hh hc) hr (by rw [s1, vr]; exact Nat.lt_of_le_of_lt hb (by decide))
 rw [s1, vr] at s2
 have s3 := foldN_val (prodN_ok (addN h c) rs)
 rw [s2] at s3
 rw [s3]
 generalize (H + C) * R = V at hb ⊢
 exact ⟨by omega, fold_mod V⟩
end Go.Proofs.YtkhbihnnkflfkaaGreat
/-
 THE REFERENCE'S POLY1305, PLAINLY: seventeen digits of 8 bits. No program in sight.
-/
namespace Go.Proofs.YtkhbihnnkflfkaaGreat
set_option linter.unusedVariables false
set_option linter.unusedSimpArgs false

variable {a b h l xs : List Nat} {M V : Nat}
abbrev M130 : Nat := 1361129467683753853853498429727072845824
def dgK : Nat → Nat → List Nat
 | 0, _ => []
 | k + 1, n => n % 256 :: dgK k (n / 256)
def dgP (n : Nat) : List Nat := dgK 17 n
theorem dgK_length : ∀ k n, (dgK k n).length = k
 | 0, _ => rfl
 | k + 1, n => by rw [dgK, List.length_cons, dgK_length k]
theorem dgP_length (n : Nat) : (dgP n).length = 17 := dgK_length 17 n
theorem valB_dgK : ∀ k n, valB 256 (dgK k n) = n % 256 ^ k
 | 0, n => by rw [dgK, valB, Nat.pow_zero, Nat.mod_one]
 | k + 1, n => by
  rw [dgK, valB, valB_dgK k, Nat.pow_succ, Nat.mul_comm (256 ^ k), Nat.mod_mul]
theorem dgK_lt : ∀ k n, ∀ d ∈ dgK k n, d < 256
 | k + 1, n, d, h => by
  rw [dgK] at h
  rcases List.mem_cons.1 h with rfl | h
  ·exact Nat.mod_lt _ (by decide)
  ·exact dgK_lt k _ d h
theorem dgK_valB : ∀ l : List Nat, (∀ d ∈ l, d < 256) → dgK l.length (valB 256 l) = l
 | [], _ => rfl
 | d :: l, h => by
  have h1 := h d (List.mem_cons_self ..)
  rw [List.length_cons, dgK, valB, show (d + 256 * valB 256 l) % 256 = d by omega, show (d + 256 * valB 256 l) / 256 = valB 256 l by omega, dgK_valB l (fun x hx => h x (List.mem_cons_of_mem _ hx))]
theorem dgK_at : ∀ (i k n : Nat), i < k → (dgK k n).getD i 0 = n / 256 ^ i % 256
 | 0, k + 1, n, _ => by rw [dgK, List.getD_cons_zero, Nat.pow_zero, Nat.div_one]
 | i + 1, k + 1, n, h => by
  rw [dgK, List.getD_cons_succ, dgK_at i k _ (by omega), Nat.div_div_eq_div_mul, Nat.pow_succ, Nat.mul_comm 256]
theorem dgK_app (a : Nat) : ∀ k n, dgK k n ++ dgK a (n / 256 ^ k) = dgK (k + a) n
 | 0, n => by rw [Nat.pow_zero, Nat.div_one, Nat.zero_add]; rfl
 | k + 1, n => by
  rw [show k + 1 + a = (k + a) + 1 by omega, dgK, dgK, List.cons_append, ← dgK_app a k, Nat.div_div_eq_div_mul, Nat.pow_succ, Nat.mul_comm 256]
theorem dgK_mod : ∀ k n, dgK k (n % 256 ^ k) = dgK k n
 | 0, n => rfl
 | k + 1, n => by
  rw [dgK, dgK, Nat.pow_succ, Nat.mul_comm (256 ^ k), Nat.mod_mul, show (n % 256 + 256 * (n / 256 % 256 ^ k)) % 256 = n % 256 by omega, show (n % 256 + 256 * (n / 256 % 256 ^ k)) / 256 = n / 256 % 256 ^ k by omega, dgK_mod k]
theorem getD_small (h : ∀ d ∈ l, d ≤ M) (j : Nat) : l.getD j 0 ≤ M := by
 rw [List.getD_eq_getElem?_getD]
 by_cases hj : j < l.length
 ·rw [List.getElem?_eq_getElem hj]; exact h _ (List.getElem_mem hj)
 ·rw [List.getElem?_eq_none (by omega)]; exact Nat.zero_le _
theorem dgP_le (n j : Nat) : (dgP n).getD j 0 ≤ 255 := getD_small (fun d hd => Nat.le_of_lt_succ (dgK_lt 17 n d hd)) j
theorem valB_dgP {n : Nat} (h : n < M130) : valB 256 (dgP n) = n := by
 rw [dgP, valB_dgK]
 exact Nat.mod_eq_of_lt (Nat.lt_trans h (by decide))
theorem mem_get (h : ∀ j, j < l.length → l.getD j 0 < M) : ∀ d ∈ l, d < M := by
 intro d hd
 obtain ⟨i, hi, rfl⟩ := List.mem_iff_getElem.1 hd
 have h2 := h i hi
 rwa [List.getD_eq_getElem?_getD, List.getElem?_eq_getElem hi] at h2
theorem dgP_of (hl : l.length = 17) (h : ∀ j, j < 17 → l.getD j 0 < 256) : l = dgP (valB 256 l) := by
 have h2 := dgK_valB l (mem_get (fun j hj => h j (by omega)))
 rw [hl] at h2
 exact h2.symm

theorem evB_lt {f : Nat → Nat} {b : Nat} : ∀ k, (∀ j, j < k → f j < b) → evB b f k < b ^ k
 | 0, _ => by rw [evB, Nat.pow_zero]; decide
 | k + 1, h => by
  have h1 := evB_lt k (fun j hj => h j (by omega))
  have h2 : b ^ k * (f k + 1) ≤ b ^ k * b := Nat.mul_le_mul_left (b ^ k) (h k (by omega))
  rw [Nat.mul_add, Nat.mul_one] at h2
  rw [evB, Nat.pow_succ]
  omega
theorem evB_le {f : Nat → Nat} {N : Nat} (h : ∀ j, f j ≤ 255 * N) : ∀ k, evB 256 f k + N ≤ N * 256 ^ k
 | 0 => by rw [evB, Nat.pow_zero]; omega
 | k + 1 => by
  have h1 := evB_le h k
  have h2 := Nat.mul_le_mul_left (256 ^ k) (h k)
  have h3 : 256 ^ k * (255 * N) = 255 * (N * 256 ^ k) := by rw [Nat.mul_left_comm, Nat.mul_comm (256 ^ k) N]
  rw [evB, Nat.pow_succ, ← Nat.mul_assoc]
  omega

def ripK (l : List Nat) : Nat → List Nat × Nat
 | 0 => (l, 0)
 | i + 1 => ((ripK l i).1.set i (((ripK l i).2 + (ripK l i).1.getD i 0) % 256), ((ripK l i).2 + (ripK l i).1.getD i 0) / 256)
theorem ripK_length (l : List Nat) : ∀ i, (ripK l i).1.length = l.length
 | 0 => rfl
 | i + 1 => by rw [ripK, List.length_set]; exact ripK_length l i
theorem ripK_above (l : List Nat) : ∀ i j, i ≤ j → (ripK l i).1.getD j 0 = l.getD j 0
 | 0, j, _ => rfl
 | i + 1, j, h => by rw [ripK, getDB_ne (by omega)]; exact ripK_above l i j (by omega)
theorem ripK_below (l : List Nat) : ∀ i j, j < i → i ≤ l.length → (ripK l i).1.getD j 0 < 256
 | i + 1, j, h, hl => by
  rw [ripK]
  by_cases e : i = j
  ·subst e
   rw [getDB_eq (by rw [ripK_length]; omega)]
   exact Nat.mod_lt _ (by decide)
  ·rw [getDB_ne e]
   exact ripK_below l i j (by omega) (by omega)
theorem ripK_val (l : List Nat) : ∀ i, i ≤ l.length → valB 256 (ripK l i).1 + 256 ^ i * (ripK l i).2 = valB 256 l
 | 0, _ => by simp [ripK]
 | i + 1, h => by
  have h1 := ripK_val l i (by omega)
  have h2 := valB_set 256 (ripK l i).1 i (((ripK l i).2 + (ripK l i).1.getD i 0) % 256) (by rw [ripK_length]; omega)
  rw [ripK]
  dsimp only
  rw [Nat.pow_succ, Nat.mul_assoc]
  have h3 := Nat.mod_add_div ((ripK l i).2 + (ripK l i).1.getD i 0) 256
  have h4 : 256 ^ i * (((ripK l i).2 + (ripK l i).1.getD i 0) % 256 + 256 * (((ripK l i).2 + (ripK l i).1.getD i 0) / 256)) = 256 ^ i * ((ripK l i).2 + (ripK l i).1.getD i 0) := by rw [h3]
  rw [Nat.mul_add, Nat.mul_add] at h4
  omega
theorem ripK_c {l : List Nat} {M : Nat} (hM : ∀ j, l.getD j 0 ≤ 255 * M) : ∀ i, (ripK l i).2 ≤ M
 | 0 => Nat.zero_le _
 | i + 1 => by
  have h1 := ripK_c hM i
  have h2 := hM i
  rw [ripK]
  dsimp only
  rw [ripK_above l i i (Nat.le_refl _)]
  omega

def topP (l : List Nat) : Nat := (ripK l 16).2 + (ripK l 16).1.getD 16 0
def roundP (l : List Nat) : List Nat := ((ripK l 16).1.set 16 (topP l % 4)).set 0 (((ripK l 16).1.set 16 (topP l % 4)).getD 0 0 + 5 * (topP l / 4))
def carM (V : Nat) : Nat := V % 1361129467683753853853498429727072845824 + 5 * (V / 1361129467683753853853498429727072845824)
theorem roundP_length (h : l.length = 17) : (roundP l).length = 17 := by simp only [roundP, List.length_set, ripK_length, h]
theorem rip_split (h : l.length = 17) : ∃ E, E < 340282366920938463463374607431768211456 ∧ valB 256 l = E + 340282366920938463463374607431768211456 * topP l ∧ valB 256 (ripK l 16).1 = E + 340282366920938463463374607431768211456 * (ripK l 16).1.getD 16 0 := by
 have h0 := ripK_val l 16 (by omega)
 have h1 := valB_evB 256 (ripK l 16).1
 rw [ripK_length, h, evB] at h1
 have h2 := evB_lt (f := fun j => (ripK l 16).1.getD j 0) (b := 256) 16 (fun j hj => ripK_below l 16 j hj (by omega))
 have e16 : (256 : Nat) ^ 16 = 340282366920938463463374607431768211456 := by decide
 rw [e16] at h0 h1 h2
 refine ⟨_, h2, ?_, h1⟩
 unfold topP
 omega
theorem roundP_val (h : l.length = 17) : valB 256 (roundP l) = carM (valB 256 l) := by
 obtain ⟨E, hE, h1, h2⟩ := rip_split h
 have h3 := valB_set 256 (ripK l 16).1 16 (topP l % 4) (by rw [ripK_length]; omega)
 have h4 := valB_set 256 ((ripK l 16).1.set 16 (topP l % 4)) 0 (((ripK l 16).1.set 16 (topP l % 4)).getD 0 0 + 5 * (topP l / 4)) (by rw [List.length_set, ripK_length]; omega)
 have e16 : (256 : Nat) ^ 16 = 340282366920938463463374607431768211456 := by decide
 rw [e16] at h3
 rw [Nat.pow_zero, Nat.one_mul, Nat.one_mul] at h4
 unfold roundP carM
 rw [h1]
 generalize valB 256 (((ripK l 16).1.set 16 (topP l % 4)).set 0 (((ripK l 16).1.set 16 (topP l % 4)).getD 0 0 + 5 * (topP l / 4))) = A at *
 generalize valB 256 ((ripK l 16).1.set 16 (topP l % 4)) = B at *
 generalize ((ripK l 16).1.set 16 (topP l % 4)).getD 0 0 = B0 at *
 generalize topP l = C at *
 generalize (ripK l 16).1.getD 16 0 = D at *
 omega
theorem roundP_get (h : l.length = 17) {j : Nat} (hj : j < 17) (h0 : ¬ 0 = j) : (roundP l).getD j 0 < 256 := by
 unfold roundP
 rw [getDB_ne h0]
 by_cases e : 16 = j
 ·subst e
  rw [getDB_eq (by rw [ripK_length]; omega)]
  omega
 ·rw [getDB_ne e]
  exact ripK_below l 16 j (by omega) (by omega)
theorem roundP_zero (h : l.length = 17) : (roundP l).getD 0 0 ≤ 255 + 5 * (topP l / 4) := by
 unfold roundP
 have h1 : ((ripK l 16).1.set 16 (topP l % 4)).getD 0 0 ≤ 255 := by
  rw [getDB_ne (by decide)]
  exact Nat.le_of_lt_succ (ripK_below l 16 0 (by omega) (by omega))
 rw [getDB_eq (by rw [List.length_set, ripK_length]; omega)]
 omega
theorem topP_le (hM : ∀ j, l.getD j 0 ≤ 255 * M) : topP l ≤ 256 * M := by
 have h1 := ripK_c hM 16
 have h2 := hM 16
 unfold topP
 rw [ripK_above l 16 16 (Nat.le_refl _)]
 omega
theorem roundP_le (h : l.length = 17) (hM : ∀ j, l.getD j 0 ≤ 255 * M) (j : Nat) : (roundP l).getD j 0 ≤ 255 * (2 * M + 1) := by
 by_cases h17 : j < 17
 ·by_cases e : 0 = j
  ·subst e
   have h1 := roundP_zero h
   have h2 := topP_le hM
   omega
  ·have h1 := roundP_get h h17 e
   omega
 ·rw [List.getD_eq_getElem?_getD, List.getElem?_eq_none (by rw [roundP_length h]; omega)]
  exact Nat.zero_le _
def rndP (l : List Nat) : Nat → List Nat
 | 0 => l
 | R + 1 => roundP (rndP l R)
theorem rndP_length {l : List Nat} (h : l.length = 17) : ∀ R, (rndP l R).length = 17
 | 0 => h
 | R + 1 => roundP_length (rndP_length h R)
theorem rndP_ok (h : l.length = 17) (hM : ∀ j, l.getD j 0 ≤ 255 * 4294967296) : ∀ R, R ≤ 3 → (rndP l R).length = 17 ∧ ∀ j, (rndP l R).getD j 0 ≤ 255 * 68719476736 := by
 have h1 := roundP_le h hM
 have h2 := roundP_le (roundP_length h) h1
 have h3 := roundP_le (roundP_length (roundP_length h)) h2
 intro R hR
 refine ⟨rndP_length h R, fun j => ?_⟩
 rcases (show R = 0 ∨ R = 1 ∨ R = 2 ∨ R = 3 by omega) with rfl | rfl | rfl | rfl
 ·have := hM j; show l.getD j 0 ≤ _; omega
 ·have := h1 j; show (roundP l).getD j 0 ≤ _; omega
 ·have := h2 j; show (roundP (roundP l)).getD j 0 ≤ _; omega
 ·have := h3 j; show (roundP (roundP (roundP l))).getD j 0 ≤ _; omega
def car2 (V : Nat) : Nat := carM (carM V)
theorem carM_small (h : V < 1361129467683753853853498429727072845824) : carM V = V := by unfold carM; omega
theorem car2_small (h : V < 1361129467683753853853498429727072845824) : car2 V = V := by unfold car2; rw [carM_small h, carM_small h]
theorem car2_lt (h : V < 374144419156711147060143317175368453031918731001856) : car2 V < 1361129467683753853853498429727072845824 := by
 unfold car2 carM
 omega
theorem carM_mod (V : Nat) : carM V % 1361129467683753853853498429727072845819 = V % 1361129467683753853853498429727072845819 := by unfold carM; omega
theorem car2_mod (V : Nat) : car2 V % 1361129467683753853853498429727072845819 = V % 1361129467683753853853498429727072845819 := by unfold car2; rw [carM_mod, carM_mod]
theorem round_canon (h : l.length = 17) (hv : valB 256 l < 1361129467683753853853498429727072845824) : roundP l = dgP (valB 256 l) := by
 have h1 := dgP_of (roundP_length h) (fun j hj => by
  by_cases e : 0 = j
  ·subst e
   obtain ⟨E, hE, h2, h3⟩ := rip_split h
   have h4 := roundP_zero h
   have h5 : topP l / 4 = 0 := by omega
   omega
  ·exact roundP_get h hj e)
 rw [roundP_val h, carM_small hv] at h1
 exact h1
theorem val_bound (h : l.length = 17) (hM : ∀ j, l.getD j 0 ≤ 255 * M) : valB 256 l + M ≤ M * 87112285931760246646623899502532662132736 := by
 have h1 := evB_le (f := fun j => l.getD j 0) hM 17
 rw [valB_evB, h]
 exact h1
theorem carry_val (h : l.length = 17) (hM : ∀ j, l.getD j 0 ≤ 255 * 4294967296) : rndP l 3 = dgP (car2 (valB 256 l)) ∧ car2 (valB 256 l) < 1361129467683753853853498429727072845824 := by
 have hb := val_bound h hM
 have hc : car2 (valB 256 l) < 1361129467683753853853498429727072845824 := car2_lt (by omega)
 have e1 : valB 256 (rndP l 2) = car2 (valB 256 l) := by
  show valB 256 (roundP (roundP l)) = _
  rw [roundP_val (roundP_length h), roundP_val h]
  rfl
 have h2 := round_canon (rndP_length h 2) (by rw [e1]; exact hc)
 rw [e1] at h2
 exact ⟨h2, hc⟩

def tmJ (t b : List Nat) (x i : Nat) : Nat → List Nat
 | 0 => t
 | J + 1 => if i + J < 17 then (tmJ t b x i J).set (i + J) ((tmJ t b x i J).getD (i + J) 0 + x * b.getD J 0) else (tmJ t b x i J).set (i + J - 17) ((tmJ t b x i J).getD (i + J - 17) 0 + 320 * x * b.getD J 0)
theorem tmJ_length (t b : List Nat) (x i : Nat) : ∀ J, (tmJ t b x i J).length = t.length
 | 0 => rfl
 | J + 1 => by rw [tmJ]; split <;> rw [List.length_set] <;> exact tmJ_length t b x i J
def tmI (a b : List Nat) : Nat → List Nat
 | 0 => List.replicate 17 0
 | I + 1 => tmJ (tmI a b I) b (a.getD I 0) I 17
theorem tmI_length (a b : List Nat) : ∀ I, (tmI a b I).length = 17
 | 0 => List.length_replicate
 | I + 1 => by rw [tmI, tmJ_length]; exact tmI_length a b I
theorem set_le {i x : Nat} (h : ∀ k, l.getD k 0 ≤ M) (hx : x ≤ M) (k : Nat) : (l.set i x).getD k 0 ≤ M := by
 by_cases e : i = k
 ·subst e
  by_cases hl : i < l.length
  ·rw [getDB_eq hl]; exact hx
  ·rw [List.set_eq_of_length_le (by omega)]; exact h i
 ·rw [getDB_ne e]; exact h k
theorem tmJ_le {t b : List Nat} {x i M : Nat} (ht : ∀ k, t.getD k 0 ≤ M) (hb : ∀ j, b.getD j 0 ≤ 255) (hx : x ≤ 255) : ∀ J k, (tmJ t b x i J).getD k 0 ≤ M + J * 20808000
 | 0, k => by rw [tmJ]; have := ht k; omega
 | J + 1, k => by
  have h1 := tmJ_le ht hb hx (i := i) J
  have h2 := Nat.mul_le_mul hx (hb J)
  have h3 := Nat.mul_le_mul (Nat.mul_le_mul_left 320 hx) (hb J)
  rw [tmJ, show M + (J + 1) * 20808000 = (M + J * 20808000) + 20808000 by omega]
  generalize M + J * 20808000 = N at h1
  have h4 : ∀ k, (tmJ t b x i J).getD k 0 ≤ N + 20808000 := fun k => Nat.le_trans (h1 k) (Nat.le_add_right _ _)
  split
  ·have h5 := h1 (i + J)
   exact set_le h4 (by omega) k
  ·have h5 := h1 (i + J - 17)
   exact set_le h4 (by omega) k
theorem get_rep (n j : Nat) : (List.replicate n 0).getD j 0 = 0 := by
 rw [List.getD_eq_getElem?_getD]
 by_cases h : j < n
 ·simp [h]
 ·rw [List.getElem?_eq_none (by simp; omega)]; rfl
theorem tmI_le {a b : List Nat} (ha : ∀ j, a.getD j 0 ≤ 255) (hb : ∀ j, b.getD j 0 ≤ 255) : ∀ I k, (tmI a b I).getD k 0 ≤ I * 353736000
 | 0, k => by rw [tmI, get_rep]; omega
 | I + 1, k => by
  have h1 := tmJ_le (i := I) (tmI_le ha hb I) hb (ha I) 17 k
  rw [tmI]
  omega
theorem tmJ_val (t b : List Nat) (x i : Nat) (hi : i < 17) (ht : t.length = 17) : ∀ J, J ≤ 17 → ∃ q, valB 256 (tmJ t b x i J) + 1361129467683753853853498429727072845819 * q = valB 256 t + 256 ^ i * (x * evB 256 (fun k => b.getD k 0) J)
 | 0, _ => ⟨0, by simp [tmJ, evB]⟩
 | J + 1, h => by
  obtain ⟨q, h1⟩ := tmJ_val t b x i hi ht J (by omega)
  have e6 : 256 ^ i * (x * (evB 256 (fun k => b.getD k 0) J + 256 ^ J * b.getD J 0)) = 256 ^ i * (x * evB 256 (fun k => b.getD k 0) J) + 256 ^ (i + J) * (x * b.getD J 0) := by
   rw [Nat.mul_add, Nat.mul_add, Nat.pow_add, Nat.mul_assoc (256 ^ i) (256 ^ J), Nat.mul_left_comm x (256 ^ J)]
  rw [tmJ, evB, e6]
  split
  ·have h2 := valB_set 256 (tmJ t b x i J) (i + J) ((tmJ t b x i J).getD (i + J) 0 + x * b.getD J 0) (by rw [tmJ_length, ht]; omega)
   rw [Nat.mul_add] at h2
   refine ⟨q, ?_⟩
   generalize 256 ^ (i + J) * (x * b.getD J 0) = A at *
   generalize 256 ^ (i + J) * (tmJ t b x i J).getD (i + J) 0 = B at *
   omega
  ·rename_i hge
   have h2 := valB_set 256 (tmJ t b x i J) (i + J - 17) ((tmJ t b x i J).getD (i + J - 17) 0 + 320 * x * b.getD J 0) (by rw [tmJ_length, ht]; omega)
   rw [Nat.mul_add, Nat.mul_assoc 320, Nat.mul_left_comm (256 ^ (i + J - 17)) 320] at h2
   have e7 : 256 ^ (i + J) * (x * b.getD J 0) = 87112285931760246646623899502532662132736 * (256 ^ (i + J - 17) * (x * b.getD J 0)) := by
    rw [show (87112285931760246646623899502532662132736 : Nat) = 256 ^ 17 by decide, ← Nat.mul_assoc (256 ^ 17), ← Nat.pow_add, show 17 + (i + J - 17) = i + J by omega]
   rw [e7]
   refine ⟨q + 64 * (256 ^ (i + J - 17) * (x * b.getD J 0)), ?_⟩
   rw [Nat.mul_assoc 320]
   generalize 256 ^ (i + J - 17) * (x * b.getD J 0) = A at *
   generalize 256 ^ (i + J - 17) * (tmJ t b x i J).getD (i + J - 17) 0 = B at *
   generalize valB 256 ((tmJ t b x i J).set (i + J - 17) ((tmJ t b x i J).getD (i + J - 17) 0 + 320 * (x * b.getD J 0))) = C at *
   omega
theorem tmI_val {a b : List Nat} (hb : b.length = 17) : ∀ I, I ≤ 17 → ∃ q, valB 256 (tmI a b I) + 1361129467683753853853498429727072845819 * q = evB 256 (fun k => a.getD k 0) I * valB 256 b
 | 0, _ => ⟨0, by rw [tmI, evB, valB_rep, Nat.zero_mul]⟩
 | I + 1, h => by
  obtain ⟨q, h1⟩ := tmI_val (a := a) hb I (by omega)
  obtain ⟨q2, h2⟩ := tmJ_val (tmI a b I) b (a.getD I 0) I (by omega) (tmI_length a b I) 17 (Nat.le_refl _)
  have e : evB 256 (fun k => b.getD k 0) 17 = valB 256 b := by rw [valB_evB, hb]
  rw [e] at h2
  rw [tmI, evB, Nat.add_mul]
  refine ⟨q + q2, ?_⟩
  rw [Nat.mul_assoc (256 ^ I), Nat.mul_add]
  omega
def timP (a b : List Nat) : Nat := car2 (valB 256 (tmI a b 17))
theorem timP_ok (ha : ∀ j, a.getD j 0 ≤ 255) (hb : ∀ j, b.getD j 0 ≤ 255) : (tmI a b 17).length = 17 ∧ ∀ j, (tmI a b 17).getD j 0 ≤ 255 * 4294967296 := ⟨tmI_length a b 17, fun j => by have := tmI_le ha hb 17 j; omega⟩
theorem timP_val (la : a.length = 17) (lb : b.length = 17) (ha : ∀ j, a.getD j 0 ≤ 255) (hb : ∀ j, b.getD j 0 ≤ 255) : timP a b < 1361129467683753853853498429727072845824 ∧ timP a b % 1361129467683753853853498429727072845819 = valB 256 a * valB 256 b % 1361129467683753853853498429727072845819 := by
 have hok := timP_ok ha hb
 refine ⟨(carry_val hok.1 hok.2).2, ?_⟩
 obtain ⟨q, h1⟩ := tmI_val (a := a) lb 17 (Nat.le_refl _)
 have e : evB 256 (fun k => a.getD k 0) 17 = valB 256 a := by rw [valB_evB, la]
 unfold timP
 rw [car2_mod, ← e, ← h1]
 omega

theorem five_rip (h : V < 1361129467683753853853498429727072845824) : (ripK ((dgP V).set 0 ((dgP V).getD 0 0 + 5)) 17).1 = dgP (V + 5) := by
 have hl : ((dgP V).set 0 ((dgP V).getD 0 0 + 5)).length = 17 := by rw [List.length_set, dgP_length]
 have h1 := ripK_val ((dgP V).set 0 ((dgP V).getD 0 0 + 5)) 17 (by rw [hl]; exact Nat.le_refl _)
 have h2 := valB_set 256 (dgP V) 0 ((dgP V).getD 0 0 + 5) (by rw [dgP_length]; decide)
 rw [valB_dgP h, Nat.pow_zero, Nat.one_mul, Nat.one_mul] at h2
 have h3 : valB 256 ((dgP V).set 0 ((dgP V).getD 0 0 + 5)) = V + 5 := by omega
 rw [h3] at h1
 have h4 := dgP_of (l := (ripK ((dgP V).set 0 ((dgP V).getD 0 0 + 5)) 17).1) (by rw [ripK_length, hl]) (fun j hj => ripK_below _ 17 j hj (by rw [hl]; exact Nat.le_refl _))
 have e17 : (256 : Nat) ^ 17 = 87112285931760246646623899502532662132736 := by decide
 rw [e17] at h1
 have h5 : valB 256 (ripK ((dgP V).set 0 ((dgP V).getD 0 0 + 5)) 17).1 = V + 5 := by omega
 rw [h5] at h4
 exact h4
theorem top_five (h : V < 1361129467683753853853498429727072845824) : (dgP (V + 5)).getD 16 0 = (V + 5) / 340282366920938463463374607431768211456 := by
 rw [dgP, dgK_at 16 17 _ (by decide), show (256 : Nat) ^ 16 = 340282366920938463463374607431768211456 by decide]
 omega
theorem whole_big (h : V < 1361129467683753853853498429727072845824) (h4 : 4 ≤ (dgP (V + 5)).getD 16 0) : (dgP (V + 5)).set 16 ((dgP (V + 5)).getD 16 0 % 4) = dgP (V % 1361129467683753853853498429727072845819) := by
 have ht := top_five h
 have h1 := dgP_of (l := (dgP (V + 5)).set 16 ((dgP (V + 5)).getD 16 0 % 4)) (by rw [List.length_set, dgP_length]) (fun j hj => Nat.lt_succ_of_le (set_le (dgP_le (V + 5)) (by omega) j))
 have h2 := valB_set 256 (dgP (V + 5)) 16 ((dgP (V + 5)).getD 16 0 % 4) (by rw [dgP_length]; decide)
 have h3 : valB 256 (dgP (V + 5)) = V + 5 := by rw [dgP, valB_dgK]; exact Nat.mod_eq_of_lt (Nat.lt_trans (show V + 5 < 1361129467683753853853498429727072845829 by omega) (by decide))
 rw [show (256 : Nat) ^ 16 = 340282366920938463463374607431768211456 by decide, h3] at h2
 have h5 : valB 256 ((dgP (V + 5)).set 16 ((dgP (V + 5)).getD 16 0 % 4)) = V % 1361129467683753853853498429727072845819 := by
  generalize valB 256 ((dgP (V + 5)).set 16 ((dgP (V + 5)).getD 16 0 % 4)) = A at *
  have hB : (dgP (V + 5)).getD 16 0 = 4 := by omega
  rw [hB] at h2
  omega
 rw [h5] at h1
 exact h1
theorem whole_small (h : V < 1361129467683753853853498429727072845824) (h4 : ¬ 4 ≤ (dgP (V + 5)).getD 16 0) : V % 1361129467683753853853498429727072845819 = V := by
 have ht := top_five h
 omega

def rK (ks : List Nat) : Nat → List Nat
 | 0 => List.replicate 17 0
 | K + 1 => (rK ks K).set K (ks.getD K 0)
theorem rK_length (ks : List Nat) : ∀ K, (rK ks K).length = 17
 | 0 => List.length_replicate
 | K + 1 => by rw [rK, List.length_set]; exact rK_length ks K
def cl1 (l : List Nat) : Nat → List Nat
 | 0 => l
 | K + 1 => (cl1 l K).set (4 * K + 3) ((cl1 l K).getD (4 * K + 3) 0 &&& 15)
def cl2 (l : List Nat) : Nat → List Nat
 | 0 => l
 | K + 1 => (cl2 l K).set (4 * K + 4) ((cl2 l K).getD (4 * K + 4) 0 &&& 252)
theorem cl1_length (l : List Nat) : ∀ K, (cl1 l K).length = l.length
 | 0 => rfl
 | K + 1 => by rw [cl1, List.length_set]; exact cl1_length l K
theorem cl2_length (l : List Nat) : ∀ K, (cl2 l K).length = l.length
 | 0 => rfl
 | K + 1 => by rw [cl2, List.length_set]; exact cl2_length l K
theorem cl1_le {l : List Nat} {M : Nat} (h : ∀ j, l.getD j 0 ≤ M) : ∀ K j, (cl1 l K).getD j 0 ≤ M
 | 0, j => h j
 | K + 1, j => by rw [cl1]; exact set_le (cl1_le h K) (Nat.le_trans Nat.and_le_left (cl1_le h K _)) j
theorem cl2_le {l : List Nat} {M : Nat} (h : ∀ j, l.getD j 0 ≤ M) : ∀ K j, (cl2 l K).getD j 0 ≤ M
 | 0, j => h j
 | K + 1, j => by rw [cl2]; exact set_le (cl2_le h K) (Nat.le_trans Nat.and_le_left (cl2_le h K _)) j
theorem rK_le {ks : List Nat} (h : ∀ j, ks.getD j 0 ≤ 255) : ∀ K j, (rK ks K).getD j 0 ≤ 255
 | 0, j => by rw [rK, get_rep]; decide
 | K + 1, j => by rw [rK]; exact set_le (rK_le h K) (h K) j
def rP (ks : List Nat) : List Nat := cl2 (cl1 (rK ks 16) 4) 3
theorem rP_length (ks : List Nat) : (rP ks).length = 17 := by rw [rP, cl2_length, cl1_length, rK_length]
theorem rP_le {ks : List Nat} (h : ∀ j, ks.getD j 0 ≤ 255) (j : Nat) : (rP ks).getD j 0 ≤ 255 := cl2_le (cl1_le (rK_le h 16) 4) 3 j
def addP (h xs : List Nat) : Nat → List Nat
 | 0 => h
 | K + 1 => (addP h xs K).set K ((addP h xs K).getD K 0 + xs.getD K 0)
theorem addP_length (h xs : List Nat) : ∀ K, (addP h xs K).length = h.length
 | 0 => rfl
 | K + 1 => by rw [addP, List.length_set]; exact addP_length h xs K
theorem addP_above (h xs : List Nat) : ∀ K j, K ≤ j → (addP h xs K).getD j 0 = h.getD j 0
 | 0, _, _ => rfl
 | K + 1, j, hj => by rw [addP, getDB_ne (by omega)]; exact addP_above h xs K j (by omega)
theorem addP_le {h xs : List Nat} (hh : ∀ j, h.getD j 0 ≤ 255) (hx : ∀ j, xs.getD j 0 ≤ 255) : ∀ K j, (addP h xs K).getD j 0 ≤ 510
 | 0, j => Nat.le_trans (hh j) (by decide)
 | K + 1, j => by rw [addP]; exact set_le (addP_le hh hx K) (by rw [addP_above h xs K K (Nat.le_refl _)]; have := hh K; have := hx K; omega) j
theorem addP_val (h xs : List Nat) : ∀ K, K ≤ h.length → valB 256 (addP h xs K) = valB 256 h + evB 256 (fun j => xs.getD j 0) K
 | 0, _ => by rw [addP, evB, Nat.add_zero]
 | K + 1, hK => by
  have h1 := addP_val h xs K (by omega)
  have h2 := valB_set 256 (addP h xs K) K ((addP h xs K).getD K 0 + xs.getD K 0) (by rw [addP_length]; omega)
  rw [addP, evB]
  rw [Nat.mul_add] at h2
  omega
def pieP (h xs : List Nat) : List Nat := (addP h xs xs.length).set xs.length ((addP h xs xs.length).getD xs.length 0 + 1)
theorem pieP_length (h xs : List Nat) : (pieP h xs).length = h.length := by rw [pieP, List.length_set, addP_length]
theorem pieP_le (hh : ∀ j, h.getD j 0 ≤ 255) (hx : ∀ j, xs.getD j 0 ≤ 255) (j : Nat) : (pieP h xs).getD j 0 ≤ 255 * 4294967296 := set_le (fun k => Nat.le_trans (addP_le hh hx _ k) (by decide)) (by have := addP_le hh hx xs.length xs.length; omega) j
theorem pieP_val (hl : xs.length < h.length) : valB 256 (pieP h xs) = valB 256 h + valB 256 xs + 256 ^ xs.length := by
 have h1 := addP_val h xs xs.length (by omega)
 have h2 := valB_set 256 (addP h xs xs.length) xs.length ((addP h xs xs.length).getD xs.length 0 + 1) (by rw [addP_length]; omega)
 rw [← valB_evB] at h1
 rw [Nat.mul_add, Nat.mul_one] at h2
 unfold pieP
 omega
def sumP (f : Nat → Nat) : Nat → List Nat × Nat
 | 0 => ([], 0)
 | K + 1 => ((sumP f K).1 ++ [((sumP f K).2 + f K) % 256], ((sumP f K).2 + f K) / 256)
theorem sumP_length (f : Nat → Nat) : ∀ K, (sumP f K).1.length = K
 | 0 => rfl
 | K + 1 => by rw [sumP, List.length_append, sumP_length f K]; rfl
theorem sumP_c {f : Nat → Nat} (h : ∀ j, f j ≤ 510) : ∀ K, (sumP f K).2 ≤ 2
 | 0 => Nat.zero_le _
 | K + 1 => by
  have h1 := sumP_c h K
  have h2 := h K
  rw [sumP]
  dsimp only
  omega
theorem sumP_dig (f : Nat → Nat) : ∀ K, (sumP f K).1 = dgK K (evB 256 f K) ∧ (sumP f K).2 = evB 256 f K / 256 ^ K
 | 0 => ⟨rfl, by rw [evB, Nat.zero_div]; rfl⟩
 | K + 1 => by
  obtain ⟨h1, h2⟩ := sumP_dig f K
  have hp : 0 < 256 ^ K := Nat.pow_pos (by decide)
  have e1 : (evB 256 f K + 256 ^ K * f K) / 256 ^ K = evB 256 f K / 256 ^ K + f K := Nat.add_mul_div_left _ _ hp
  have e2 : (evB 256 f K + 256 ^ K * f K) % 256 ^ K = evB 256 f K % 256 ^ K := Nat.add_mul_mod_self_left ..
  rw [sumP, evB]
  dsimp only
  rw [h1, h2]
  constructor
  ·rw [← dgK_app 1 K, ← dgK_mod K (evB 256 f K + 256 ^ K * f K), e2, dgK_mod, e1]
   rfl
  ·rw [Nat.pow_succ, ← Nat.div_div_eq_div_mul, e1]
end Go.Proofs.YtkhbihnnkflfkaaGreat
/-
 BOTH POLY1305 ARE ALIKE: limbs of 64 bits, digits of 8 bits; no program in sight.
-/
namespace Go.Proofs.YtkhbihnnkflfkaaGreat
set_option linter.unusedVariables false
set_option linter.unusedSimpArgs false

variable {bs ks xs : List Nat} {H k0 k1 k2 k3 k4 k5 k6 k7 x : Nat}
theorem polyM_snoc (R : Nat) (bs pre : List Nat) (x : Nat) : polyM R bs (pre ++ [x]) = (polyM R bs pre + blkN (chunkL bs 16 x)) * R % P5 := by simp [polyM]
theorem chunk_le (bs : List Nat) (x : Nat) : (chunkL bs 16 x).length ≤ 16 := by rw [chunkL_length]; omega
theorem mod_step (H C R : Nat) : (H + C) * R % P5 = (H % P5 + C) * R % P5 := by
 rw [Nat.mul_mod, Nat.mul_mod (H % P5 + C), Nat.mod_add_mod]
theorem tagSt_val {rs : List Nat} (hr : W64 2 rs) (hb : ∀ x ∈ bs, x < 256) (bR : valB WM rs < 21267647932558653966460912964485513216) (pre : List Nat) : valB WM (tagSt rs bs pre) < 1786482426334926933182716689016783110144 ∧ valB WM (tagSt rs bs pre) % P5 = polyM (valB WM rs) bs pre := by
 have key : ∀ r : List Nat, valB WM (tagSt rs bs r.reverse) < 1786482426334926933182716689016783110144 ∧ valB WM (tagSt rs bs r.reverse) % P5 = polyM (valB WM rs) bs r.reverse := by
  intro r
  induction r with
  | nil =>
   have h0 : valB WM (tagSt rs bs [].reverse) = 0 := valB_rep WM 3
   rw [h0]
   exact ⟨by decide, rfl⟩
  | cons x r ih =>
   rw [List.reverse_cons, tagSt_snoc, polyM_snoc]
   have h1 := tag_step (N := 0) (tagSt_ok rs hb r.reverse) (ofN_ok (chunkL_lt hb 16 x)) hr rfl (ofN_val (chunk_le bs x)) rfl ih.1 (blkN_lt (chunk_le bs x) (chunkL_lt hb 16 x)) bR
   refine ⟨h1.1, h1.2.trans ?_⟩
   rw [mod_step, ih.2]
 simpa using key pre.reverse

theorem and_cons {y m n : Nat} (hx : x < 256) (hm : m < 256) : (x + 256 * y) &&& (m + 256 * n) = (x &&& m) + 256 * (y &&& n) := by
 have h1 : ((x + 256 * y) &&& (m + 256 * n)) % 2 ^ 8 = ((x + 256 * y) % 2 ^ 8) &&& ((m + 256 * n) % 2 ^ 8) := Nat.and_mod_two_pow ..
 have h2 : ((x + 256 * y) &&& (m + 256 * n)) / 2 ^ 8 = ((x + 256 * y) / 2 ^ 8) &&& ((m + 256 * n) / 2 ^ 8) := Nat.and_div_two_pow
 rw [show (2 : Nat) ^ 8 = 256 from rfl] at h1 h2
 rw [show (x + 256 * y) % 256 = x by omega, show (m + 256 * n) % 256 = m by omega] at h1
 rw [show (x + 256 * y) / 256 = y by omega, show (m + 256 * n) / 256 = n by omega] at h2
 omega
theorem and_255 (hx : x < 256) : x &&& 255 = x := by rw [Nat.and_two_pow_sub_one_eq_mod x 8]; omega
theorem low_8 (ks : List Nat) (i : Nat) : lowN ks i 8 = ks.getD i 0 + 256 * (ks.getD (i + 1) 0 + 256 * (ks.getD (i + 2) 0 + 256 * (ks.getD (i + 3) 0 + 256 * (ks.getD (i + 4) 0 + 256 * (ks.getD (i + 5) 0 + 256 * (ks.getD (i + 6) 0 + 256 * ks.getD (i + 7) 0)))))) := by
 simp only [lowN, Nat.add_zero]
 omega
theorem and_lo (h0 : k0 < 256) (h1 : k1 < 256) (h2 : k2 < 256) (h3 : k3 < 256) (h4 : k4 < 256) (h5 : k5 < 256) (h6 : k6 < 256) (h7 : k7 < 256) :
  (k0 + 256 * (k1 + 256 * (k2 + 256 * (k3 + 256 * (k4 + 256 * (k5 + 256 * (k6 + 256 * k7))))))) &&& 1152921487695413247 = k0 + 256 * (k1 + 256 * (k2 + 256 * ((k3 &&& 15) + 256 * ((k4 &&& 252) + 256 * (k5 + 256 * (k6 + 256 * (k7 &&& 15))))))) := by
 rw [show (1152921487695413247 : Nat) = 255 + 256 * (255 + 256 * (255 + 256 * (15 + 256 * (252 + 256 * (255 + 256 * (255 + 256 * 15)))))) from rfl]
 rw [and_cons h0 (by decide), and_cons h1 (by decide), and_cons h2 (by decide), and_cons h3 (by decide), and_cons h4 (by decide), and_cons h5 (by decide), and_cons h6 (by decide), and_255 h0, and_255 h1, and_255 h2, and_255 h5, and_255 h6]
theorem and_hi8 (h0 : k0 < 256) (h1 : k1 < 256) (h2 : k2 < 256) (h3 : k3 < 256) (h4 : k4 < 256) (h5 : k5 < 256) (h6 : k6 < 256) (h7 : k7 < 256) :
  (k0 + 256 * (k1 + 256 * (k2 + 256 * (k3 + 256 * (k4 + 256 * (k5 + 256 * (k6 + 256 * k7))))))) &&& 1152921487695413244 = (k0 &&& 252) + 256 * (k1 + 256 * (k2 + 256 * ((k3 &&& 15) + 256 * ((k4 &&& 252) + 256 * (k5 + 256 * (k6 + 256 * (k7 &&& 15))))))) := by
 rw [show (1152921487695413244 : Nat) = 252 + 256 * (255 + 256 * (255 + 256 * (15 + 256 * (252 + 256 * (255 + 256 * (255 + 256 * 15)))))) from rfl]
 rw [and_cons h0 (by decide), and_cons h1 (by decide), and_cons h2 (by decide), and_cons h3 (by decide), and_cons h4 (by decide), and_cons h5 (by decide), and_cons h6 (by decide), and_255 h1, and_255 h2, and_255 h5, and_255 h6]
theorem rP_list (ks : List Nat) : rP ks = [ks.getD 0 0, ks.getD 1 0, ks.getD 2 0, ks.getD 3 0 &&& 15, ks.getD 4 0 &&& 252, ks.getD 5 0, ks.getD 6 0, ks.getD 7 0 &&& 15, ks.getD 8 0 &&& 252, ks.getD 9 0, ks.getD 10 0, ks.getD 11 0 &&& 15, ks.getD 12 0 &&& 252, ks.getD 13 0, ks.getD 14 0, ks.getD 15 0 &&& 15, 0] := by
 simp only [rP, cl2, cl1, rK, List.replicate_succ, List.replicate_zero, List.set_cons_succ, List.set_cons_zero, List.getD_cons_succ, List.getD_cons_zero, Nat.reduceMul, Nat.reduceAdd]
theorem getD_byte (h : ∀ x ∈ ks, x < 256) (j : Nat) : ks.getD j 0 < 256 := Nat.lt_succ_of_le (getD_small (fun d hd => Nat.le_of_lt_succ (h d hd)) j)
theorem key_same (h : ∀ x ∈ ks, x < 256) : valB WM (keyR ks) = valB 256 (rP ks) := by
 have g := getD_byte h
 have e1 := and_lo (g 0) (g 1) (g 2) (g 3) (g 4) (g 5) (g 6) (g 7)
 have e2 := and_hi8 (g 8) (g 9) (g 10) (g 11) (g 12) (g 13) (g 14) (g 15)
 have l1 := low_8 ks 0
 have l2 := low_8 ks 8
 rw [show (0 : Nat) + 1 = 1 from rfl, show (0 : Nat) + 2 = 2 from rfl, show (0 : Nat) + 3 = 3 from rfl, show (0 : Nat) + 4 = 4 from rfl, show (0 : Nat) + 5 = 5 from rfl, show (0 : Nat) + 6 = 6 from rfl, show (0 : Nat) + 7 = 7 from rfl] at l1
 rw [show (8 : Nat) + 1 = 9 from rfl, show (8 : Nat) + 2 = 10 from rfl, show (8 : Nat) + 3 = 11 from rfl, show (8 : Nat) + 4 = 12 from rfl, show (8 : Nat) + 5 = 13 from rfl, show (8 : Nat) + 6 = 14 from rfl, show (8 : Nat) + 7 = 15 from rfl] at l2
 rw [← l1] at e1
 rw [← l2] at e2
 have ek : valB WM (keyR ks) = (lowN ks 0 8 &&& 1152921487695413247) + 18446744073709551616 * (lowN ks 8 8 &&& 1152921487695413244) := by
  show _ + WM * (_ + WM * 0) = _
  rw [Nat.mul_zero, Nat.add_zero]
 rw [ek, e1, e2, rP_list]
 clear e1 e2 l1 l2 ek g
 simp only [valB]
 generalize ks.getD 3 0 &&& 15 = a3
 generalize ks.getD 4 0 &&& 252 = a4
 generalize ks.getD 7 0 &&& 15 = a7
 generalize ks.getD 8 0 &&& 252 = a8
 generalize ks.getD 11 0 &&& 15 = a11
 generalize ks.getD 12 0 &&& 252 = a12
 generalize ks.getD 15 0 &&& 15 = a15
 omega
theorem key_lt (ks : List Nat) : valB WM (keyR ks) < 21267647932558653966460912964485513216 := by
 have h1 : lowN ks 0 8 &&& 1152921487695413247 ≤ 1152921487695413247 := Nat.and_le_right
 have h2 : lowN ks 8 8 &&& 1152921487695413244 ≤ 1152921487695413244 := Nat.and_le_right
 have ek : valB WM (keyR ks) = (lowN ks 0 8 &&& 1152921487695413247) + 18446744073709551616 * (lowN ks 8 8 &&& 1152921487695413244) := by
  show _ + WM * (_ + WM * 0) = _
  rw [Nat.mul_zero, Nat.add_zero]
 rw [ek]
 omega

theorem pie_val (hH : H < 1361129467683753853853498429727072845824) (hx : xs.length ≤ 16) : valB 256 (pieP (dgP H) xs) = H + blkN xs := by
 rw [pieP_val (by rw [dgP_length]; omega), valB_dgP hH, blkN_eq, Nat.add_assoc]
def stepP (ks xs : List Nat) (H : Nat) : Nat := timP (dgP (car2 (valB 256 (pieP (dgP H) xs)))) (rP ks)
theorem step_lt (hk : ∀ x ∈ ks, x < 256) (hx : xs.length ≤ 16) (H : Nat) : stepP ks xs H < 1361129467683753853853498429727072845824 :=
 (timP_val (dgP_length _) (rP_length ks) (dgP_le _) (rP_le (fun j => Nat.le_of_lt_succ (getD_byte hk j)))).1
theorem step_mod (hk : ∀ x ∈ ks, x < 256) (hb : ∀ x ∈ bs, x < 256) (K : Nat) (hH : H < 1361129467683753853853498429727072845824) (hm : H % P5 = polyM (valB 256 (rP ks)) bs (List.range K)) :
  stepP ks (chunkL bs 16 K) H % P5 = polyM (valB 256 (rP ks)) bs (List.range (K + 1)) := by
 have hx := chunk_le bs K
 have h8 : ∀ j, (chunkL bs 16 K).getD j 0 ≤ 255 := fun j => Nat.le_of_lt_succ (getD_byte (chunkL_lt hb 16 K) j)
 have h1 := (timP_val (dgP_length (car2 (valB 256 (pieP (dgP H) (chunkL bs 16 K))))) (rP_length ks) (dgP_le _) (rP_le (fun j => Nat.le_of_lt_succ (getD_byte hk j)))).2
 have h2 := (carry_val (l := pieP (dgP H) (chunkL bs 16 K)) (by rw [pieP_length, dgP_length]) (pieP_le (dgP_le H) h8)).2
 rw [valB_dgP h2] at h1
 show timP _ _ % _ = _
 refine h1.trans ?_
 rw [List.range_succ, polyM_snoc, ← hm, ← mod_step, ← pie_val hH hx, Nat.mul_mod, car2_mod, ← Nat.mul_mod]
def stP (ks bs : List Nat) : Nat → Nat
 | 0 => 0
 | K + 1 => stepP ks (chunkL bs 16 K) (stP ks bs K)
theorem stP_lt (hk : ∀ x ∈ ks, x < 256) (bs : List Nat) : ∀ K, stP ks bs K < 1361129467683753853853498429727072845824
 | 0 => by show 0 < _; decide
 | K + 1 => step_lt hk (chunk_le bs K) _
theorem stP_mod {ks bs : List Nat} (hk : ∀ x ∈ ks, x < 256) (hb : ∀ x ∈ bs, x < 256) : ∀ K, stP ks bs K % P5 = polyM (valB 256 (rP ks)) bs (List.range K)
 | 0 => rfl
 | K + 1 => step_mod hk hb K (stP_lt hk bs K) (stP_mod hk hb K)
theorem putL_dg (x : Nat) : ∀ k, putL x k = dgK k x
 | 0 => rfl
 | k + 1 => by
  rw [putL, putL_dg x k, ← dgK_app 1 k, pow8]
  rfl
theorem low_16 (ks : List Nat) : lowN ks 16 8 + 18446744073709551616 * lowN ks 24 8 = evB 256 (fun j => ks.getD (16 + j) 0) 16 := by
 have h1 := evB_split 256 (fun j => ks.getD (16 + j) 0) 8 8
 rw [show (8 : Nat) + 8 = 16 from rfl] at h1
 rw [h1, lowN_ev ks 16 8, lowN_ev ks 24 8, show (256 : Nat) ^ 8 = 18446744073709551616 from rfl]
 have e2 : (fun j => ks.getD (16 + (8 + j)) 0) = fun j => ks.getD (24 + j) 0 := by funext j; exact congrArg (fun q => ks.getD q 0) (by omega)
 rw [e2]
theorem evB_add (b : Nat) (f g : Nat → Nat) : ∀ k, evB b (fun j => f j + g j) k = evB b f k + evB b g k
 | 0 => rfl
 | k + 1 => by rw [evB, evB, evB, evB_add b f g k, Nat.mul_add]; omega
theorem evB_dg (n : Nat) : ∀ k, k ≤ 17 → evB 256 (fun j => (dgP n).getD j 0) k = n % 256 ^ k
 | 0, _ => by rw [evB, Nat.pow_zero, Nat.mod_one]
 | k + 1, h => by rw [evB, evB_dg n k (by omega), dgP, dgK_at k 17 n (by omega), Nat.mod_pow_succ]
def sumF (T : Nat) (ks : List Nat) (j : Nat) : Nat := (dgP T).getD j 0 + ks.getD (16 + j) 0
def tagP (ks bs : List Nat) : List Nat := (sumP (sumF (stP ks bs ((bs.length + 16 - 1) / 16) % P5) ks) 16).1
theorem tag_same (hk : ∀ x ∈ ks, x < 256) (hb : ∀ x ∈ bs, x < 256) : tagP ks bs = tagL ks bs := by
 obtain ⟨v1, v2⟩ := tagSt_val (keyR_ok hk) hb (key_lt ks) (List.range ((bs.length + 16 - 1) / 16))
 have hs := tagSt_ok (keyR ks) hb (List.range ((bs.length + 16 - 1) / 16))
 have hr := red2_val hs (by omega)
 have h3 := stP_mod hk hb ((bs.length + 16 - 1) / 16)
 rw [key_same hk] at v2
 rw [v2, ← h3] at hr
 have hT : stP ks bs ((bs.length + 16 - 1) / 16) % P5 < 1361129467683753853853498429727072845819 := Nat.mod_lt _ (by decide)
 have l1 : lowN ks 16 8 < 18446744073709551616 := lowN_lt hk 16 8
 have l2 : lowN ks 24 8 < 18446744073709551616 := lowN_lt hk 24 8
 have s1 := addN_val (a := redN (redN (tagSt (keyR ks) bs (List.range ((bs.length + 16 - 1) / 16))))) (b := [lowN ks 16 8, lowN ks 24 8, 0]) (redN_ok (redN_ok hs)).1 rfl (by rw [hr, val3, WM3]; omega)
 rw [hr, val3] at s1
 have hok := tagN_ok hk hb
 unfold tagP tagL
 rw [(sumP_dig _ 16).1, putL_dg, putL_dg]
 have e1 : evB 256 (sumF (stP ks bs ((bs.length + 16 - 1) / 16) % P5) ks) 16 = (stP ks bs ((bs.length + 16 - 1) / 16) % P5) % 256 ^ 16 + (lowN ks 16 8 + 18446744073709551616 * lowN ks 24 8) := by
  show evB 256 (fun j => (dgP _).getD j 0 + ks.getD (16 + j) 0) 16 = _
  rw [evB_add, evB_dg _ 16 (by decide), low_16]
 rw [e1]
 change valB WM (tagN ks bs) = _ at s1
 obtain ⟨n0, n1, n2, hq, b0, b1, b2⟩ := list3 hok
 rw [hq, val3] at s1
 rw [hq]
 simp only [List.getD_cons_zero, List.getD_cons_succ]
 generalize stP ks bs ((bs.length + 16 - 1) / 16) % P5 = T at *
 generalize lowN ks 16 8 = S0 at *
 generalize lowN ks 24 8 = S1 at *
 rw [show (256 : Nat) ^ 16 = 340282366920938463463374607431768211456 by decide]
 have h9 := dgK_app 8 8 (n0 + 18446744073709551616 * n1)
 rw [show (256 : Nat) ^ 8 = 18446744073709551616 from rfl, show (n0 + 18446744073709551616 * n1) / 18446744073709551616 = n1 by omega, show (8 : Nat) + 8 = 16 from rfl] at h9
 have h10 := dgK_mod 8 (n0 + 18446744073709551616 * n1)
 rw [show (256 : Nat) ^ 8 = 18446744073709551616 from rfl, show (n0 + 18446744073709551616 * n1) % 18446744073709551616 = n0 by omega] at h10
 rw [h10, h9, ← dgK_mod 16 (_ + _), ← dgK_mod 16 (n0 + 18446744073709551616 * n1)]
 congr 1
 rw [show (256 : Nat) ^ 16 = 340282366920938463463374607431768211456 by decide]
 omega
end Go.Proofs.YtkhbihnnkflfkaaGreat
