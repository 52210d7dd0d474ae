/-
  POLY1305, PLAINLY: what the limbs of 64 bits come to; no program in sight.
-/
import Derived.Test.YtggalcdkfielkaaValB
import Derived.Test.YtggalcdkfielkaaTag
namespace Go.Proofs.Ytggalcdkfielkaa
set_option linter.unusedVariables false
set_option linter.unusedSimpArgs false

abbrev WM : Nat := 18446744073709551616
theorem addK_len (a b : List Nat) : ∀ K, (addK a b K).1.length = a.length
  | 0 => rfl
  | K + 1 => by rw [addK, List.length_set]; exact addK_len a b K
theorem addK_above (a b : List Nat) : ∀ K j, K ≤ j → (addK a b K).1.getD j 0 = a.getD j 0
  | 0, _, _ => rfl
  | K + 1, j, h => by rw [addK, getDB_ne (by omega)]; exact addK_above a b K j (by omega)
theorem addK_val (a b : List Nat) : ∀ K, K ≤ a.length → valB WM (addK a b K).1 + WM ^ K * (addK a b K).2 = valB WM a + evB WM (fun j => b.getD j 0) K
  | 0, _ => by simp [addK, evB]
  | K + 1, h => by
    have h1 := addK_val a b K (by omega)
    have h2 := valB_set WM (addK a b K).1 K (((addK a b K).1.getD K 0 + b.getD K 0 + (addK a b K).2) % WM) (by rw [addK_len]; omega)
    have h3 := Nat.mod_add_div ((addK a b K).1.getD K 0 + b.getD K 0 + (addK a b K).2) WM
    have h4 : WM ^ K * (((addK a b K).1.getD K 0 + b.getD K 0 + (addK a b K).2) % WM + WM * (((addK a b K).1.getD K 0 + b.getD K 0 + (addK a b K).2) / WM)) = WM ^ K * ((addK a b K).1.getD K 0 + b.getD K 0 + (addK a b K).2) := by rw [h3]
    rw [Nat.mul_add, Nat.mul_add, Nat.mul_add, ← Nat.mul_assoc, ← Nat.pow_succ] at h4
    rw [addK, evB]
    show valB WM ((addK a b K).1.set K (((addK a b K).1.getD K 0 + b.getD K 0 + (addK a b K).2) % WM)) + WM ^ (K + 1) * (((addK a b K).1.getD K 0 + b.getD K 0 + (addK a b K).2) / WM) = _
    generalize valB WM ((addK a b K).1.set K (((addK a b K).1.getD K 0 + b.getD K 0 + (addK a b K).2) % WM)) = A at h2 ⊢
    generalize WM ^ K * (((addK a b K).1.getD K 0 + b.getD K 0 + (addK a b K).2) % WM) = X at h2 h4
    generalize WM ^ K * ((addK a b K).1.getD K 0) = Y at h2 h4
    generalize WM ^ (K + 1) * (((addK a b K).1.getD K 0 + b.getD K 0 + (addK a b K).2) / WM) = Z9 at h4 ⊢
    omega
theorem evB_list {b : Nat} {l : List Nat} : evB b (fun j => l.getD j 0) l.length = valB b l := (valB_evB b l).symm
/-- A sum that is not too great. -/
theorem addN_val {a b : List Nat} (ha : a.length = 3) (hb : b.length = 3) (h : valB WM a + valB WM b < WM ^ 3) : valB WM (addN a b) = valB WM a + valB WM b := by
  have h1 := addK_val a b 3 (by omega)
  have h2 : evB WM (fun j => b.getD j 0) 3 = valB WM b := by rw [← hb]; exact evB_list
  rw [h2] at h1
  have h3 : (addK a b 3).2 = 0 := by
    rcases Nat.eq_zero_or_pos (addK a b 3).2 with e | e
    · exact e
    · have := Nat.mul_le_mul_left (WM ^ 3) e
      omega
  rw [h3, Nat.mul_zero, Nat.add_zero] at h1
  exact h1

/-! Products. -/
theorem step_mul {X ov c : Nat} (hX : X ≤ 340282366920938463426481119284349108225) (ho : ov < 18446744073709551616) (hc : c < 18446744073709551616) :
    ((X % 18446744073709551616 + ov + 0) % 18446744073709551616 + c + 0) % 18446744073709551616 + 18446744073709551616 * (((X / 18446744073709551616 + (X % 18446744073709551616 + ov + 0) / 18446744073709551616) % 18446744073709551616 + ((X % 18446744073709551616 + ov + 0) % 18446744073709551616 + c + 0) / 18446744073709551616) % 18446744073709551616) = X + ov + c := by
  omega
theorem prodJ_len (o r : List Nat) (i x : Nat) : ∀ J, (prodJ o r i x J).1.length = o.length
  | 0 => rfl
  | J + 1 => by rw [prodJ, List.length_set]; exact prodJ_len o r i x J
theorem prodJ_above (o r : List Nat) (i x : Nat) : ∀ J k, i + J ≤ k → (prodJ o r i x J).1.getD k 0 = o.getD k 0
  | 0, _, _ => rfl
  | J + 1, k, h => by rw [prodJ, getDB_ne (by omega)]; exact prodJ_above o r i x J k (by omega)
theorem prodJ_val {n m : Nat} {o r : List Nat} (ho : W64 n o) (hr : W64 m r) (i : Nat) {x : Nat} (hx : x < 18446744073709551616) : ∀ J, i + J ≤ o.length → valB WM (prodJ o r i x J).1 + WM ^ (i + J) * (prodJ o r i x J).2 = valB WM o + WM ^ i * (x * evB WM (fun j => r.getD j 0) J)
  | 0, _ => by simp [prodJ, evB]
  | J + 1, h => by
    have h1 := prodJ_val ho hr i hx J (by omega)
    have hk := prodJ_ok (r := r) ho i x J
    have hX : x * r.getD J 0 ≤ 340282366920938463426481119284349108225 := Nat.mul_le_mul (show x ≤ 18446744073709551615 by omega) (show r.getD J 0 ≤ 18446744073709551615 by have := hr.get J; omega)
    have hs := step_mul hX (hk.1.get (i + J)) hk.2
    rw [prodJ, evB]
    dsimp only
    obtain ⟨out, eo⟩ : ∃ q, q = ((x * r.getD J 0 % 18446744073709551616 + (prodJ o r i x J).1.getD (i + J) 0 + 0) % 18446744073709551616 + (prodJ o r i x J).2 + 0) % 18446744073709551616 := ⟨_, rfl⟩
    obtain ⟨cc, ec⟩ : ∃ q, q = ((x * r.getD J 0 / 18446744073709551616 + (x * r.getD J 0 % 18446744073709551616 + (prodJ o r i x J).1.getD (i + J) 0 + 0) / 18446744073709551616) % 18446744073709551616 + ((x * r.getD J 0 % 18446744073709551616 + (prodJ o r i x J).1.getD (i + J) 0 + 0) % 18446744073709551616 + (prodJ o r i x J).2 + 0) / 18446744073709551616) % 18446744073709551616 := ⟨_, rfl⟩
    rw [← eo, ← ec] at hs
    rw [← eo, ← ec]
    have h2 := valB_set WM (prodJ o r i x J).1 (i + J) out (by rw [prodJ_len]; omega)
    have h4 : WM ^ (i + J) * (out + 18446744073709551616 * cc) = WM ^ (i + J) * (x * r.getD J 0 + (prodJ o r i x J).1.getD (i + J) 0 + (prodJ o r i x J).2) := by rw [hs]
    have e5 : WM ^ (i + (J + 1)) * cc = WM ^ (i + J) * (18446744073709551616 * cc) := by rw [← Nat.mul_assoc, ← Nat.add_assoc, Nat.pow_succ]
    have e6 : WM ^ i * (x * (evB WM (fun j => r.getD j 0) J + WM ^ J * r.getD J 0)) = WM ^ i * (x * evB WM (fun j => r.getD j 0) J) + WM ^ (i + J) * (x * r.getD J 0) := by
      rw [Nat.mul_add, Nat.mul_add, Nat.pow_add, Nat.mul_assoc (WM ^ i) (WM ^ J), Nat.mul_left_comm x (WM ^ J)]
    rw [e5, e6]
    rw [Nat.mul_add, Nat.mul_add, Nat.mul_add] at h4
    generalize WM ^ (i + J) * (18446744073709551616 * cc) = A1 at h4 ⊢
    generalize WM ^ (i + J) * out = A2 at h2 h4
    generalize WM ^ (i + J) * (x * r.getD J 0) = A3 at h4 ⊢
    generalize WM ^ (i + J) * ((prodJ o r i x J).1.getD (i + J) 0) = A4 at h2 h4
    generalize WM ^ (i + J) * (prodJ o r i x J).2 = A5 at h1 h4
    generalize valB WM ((prodJ o r i x J).1.set (i + J) out) = A6 at h2 ⊢
    omega
theorem getD_repB (n j : Nat) : (List.replicate n 0).getD j 0 = 0 := by
  simp only [List.getD_eq_getElem?_getD]
  by_cases h : j < n
  · simp [h]
  · rw [List.getElem?_eq_none (by simp; omega)]; rfl
theorem prodI_above (a r : List Nat) : ∀ I k, I ≤ 3 → I + 2 ≤ k → (prodI a r I).getD k 0 = 0
  | 0, k, _, _ => by
    rw [prodI]
    exact getD_repB 4 k
  | I + 1, k, h, hk => by
    rw [prodI]
    split
    · rw [getDB_ne (by omega), prodJ_above _ _ _ _ 2 k (by omega)]
      exact prodI_above a r I k (by omega) (by omega)
    · rw [prodJ_above _ _ _ _ 2 k (by omega)]
      exact prodI_above a r I k (by omega) (by omega)
theorem prodI_val {a r : List Nat} (ha : W64 3 a) (hr : W64 2 r) (h : valB WM a * valB WM r < WM ^ 4) : ∀ I, I ≤ 3 → valB WM (prodI a r I) = evB WM (fun j => a.getD j 0) I * valB WM r
  | 0, _ => by rw [prodI, valB_rep, evB, Nat.zero_mul]
  | I + 1, hI => by
    have ih := prodI_val ha hr h I (by omega)
    have hok := prodI_ok a r I
    have h1 := prodJ_val hok hr I (ha.get I) 2 (by rw [hok.1]; omega)
    have h2 : evB WM (fun j => r.getD j 0) 2 = valB WM r := by rw [← hr.1]; exact evB_list
    have hl : (prodJ (prodI a r I) r I (a.getD I 0) 2).1.length = 4 := by rw [prodJ_len]; exact hok.1
    rw [h2, ih] at h1
    have h3 : evB WM (fun j => a.getD j 0) (I + 1) * valB WM r = evB WM (fun j => a.getD j 0) I * valB WM r + WM ^ I * (a.getD I 0 * valB WM r) := by rw [evB, Nat.add_mul, Nat.mul_assoc]
    rw [prodI, h3, ← h1]
    split
    · rename_i hlt
      have h4 := valB_set WM (prodJ (prodI a r I) r I (a.getD I 0) 2).1 (I + 2) (prodJ (prodI a r I) r I (a.getD I 0) 2).2 (by omega)
      rw [prodJ_above _ _ _ _ 2 (I + 2) (Nat.le_refl _), prodI_above a r I (I + 2) (by omega) (Nat.le_refl _), Nat.mul_zero, Nat.add_zero] at h4
      exact h4
    · rename_i hge
      obtain rfl : I = 2 := by omega
      have h5 : evB WM (fun j => a.getD j 0) 3 = valB WM a := by rw [← ha.1]; exact evB_list
      rw [show (2 : Nat) + 1 = 3 from rfl, h5] at h3
      rw [← h1] at h3
      have h6 : (prodJ (prodI a r 2) r 2 (a.getD 2 0) 2).2 = 0 := by
        rcases Nat.eq_zero_or_pos (prodJ (prodI a r 2) r 2 (a.getD 2 0) 2).2 with e | e
        · exact e
        · have h7 := Nat.mul_le_mul_left (WM ^ (2 + 2)) e
          have h8 : WM ^ (2 + 2) = WM ^ 4 := rfl
          omega
      rw [h6, Nat.mul_zero, Nat.add_zero]
theorem prodN_val {a r : List Nat} (ha : W64 3 a) (hr : W64 2 r) (h : valB WM a * valB WM r < WM ^ 4) : valB WM (prodN a r) = valB WM a * valB WM r := by
  have h1 := prodI_val ha hr h 3 (Nat.le_refl _)
  have h5 : evB WM (fun j => a.getD j 0) 3 = valB WM a := by rw [← ha.1]; exact evB_list
  rw [h5] at h1
  exact h1

/-! What runs over 130 bits comes back by 5. -/
theorem and_3 (x : Nat) : x &&& 3 = x % 4 := Nat.and_two_pow_sub_one_eq_mod x 2
theorem and_hi {x : Nat} (h : x < 18446744073709551616) : x &&& (18446744073709551615 - 3) = x - x % 4 := by
  have h1 : x &&& (18446744073709551615 - 3) = (x >>> 2) <<< 2 := by
    apply Nat.eq_of_testBit_eq
    intro i
    have e : (18446744073709551615 - 3 : Nat) = (2 ^ 62 - 1) <<< 2 := by rw [Nat.shiftLeft_eq]
    rw [e, Nat.testBit_and, Nat.testBit_shiftLeft, Nat.testBit_shiftLeft, Nat.testBit_shiftRight, Nat.testBit_two_pow_sub_one]
    by_cases h2 : 2 ≤ i
    · have e2 : 2 + (i - 2) = i := by omega
      rw [e2]
      by_cases h3 : i - 2 < 62
      · simp [h2, h3]
      · have h4 : x.testBit i = false := Nat.testBit_lt_two_pow (Nat.lt_of_lt_of_le (show x < 2 ^ 64 from h) (Nat.pow_le_pow_right (by decide) (by omega)))
        simp [h2, h3, h4]
    · simp [h2]
  rw [h1, Nat.shiftRight_eq_div_pow, Nat.shiftLeft_eq]
  omega
theorem or_62 {y z : Nat} (hy : y < 4611686018427387904) : y ||| z * 2 ^ 62 % 18446744073709551616 = y + (z % 4) * 4611686018427387904 := by
  have e : z * 2 ^ 62 % 18446744073709551616 = (z % 4) * 4611686018427387904 := by omega
  have e3 : (z % 4 * 4611686018427387904) % 2 ^ 62 = 0 := by rw [show (2 : Nat) ^ 62 = 4611686018427387904 from rfl]; exact Nat.mul_mod_left _ _
  have e4 : y < 2 ^ 62 := by rw [show (2 : Nat) ^ 62 = 4611686018427387904 from rfl]; exact hy
  rw [e, Nat.or_comm, nat_join 62 _ _ e3 e4, Nat.add_comm]
theorem list3 {s : List Nat} (h : W64 3 s) : ∃ a b c, s = [a, b, c] ∧ a < 18446744073709551616 ∧ b < 18446744073709551616 ∧ c < 18446744073709551616 := by
  obtain ⟨hl, h8⟩ := h
  match s, hl, h8 with
  | [a, b, c], _, h8 => exact ⟨a, b, c, rfl, h8 a (by simp), h8 b (by simp), h8 c (by simp)⟩
theorem list4 {s : List Nat} (h : W64 4 s) : ∃ a b c d, s = [a, b, c, d] ∧ a < 18446744073709551616 ∧ b < 18446744073709551616 ∧ c < 18446744073709551616 ∧ d < 18446744073709551616 := by
  obtain ⟨hl, h8⟩ := h
  match s, hl, h8 with
  | [a, b, c, d], _, h8 => exact ⟨a, b, c, d, rfl, h8 a (by simp), h8 b (by simp), h8 c (by simp), h8 d (by simp)⟩
theorem val3 (a b c : Nat) : valB WM [a, b, c] = a + 18446744073709551616 * b + 340282366920938463463374607431768211456 * c := by
  show a + 18446744073709551616 * (b + 18446744073709551616 * (c + 18446744073709551616 * 0)) = _
  omega
theorem val4 (a b c d : Nat) : valB WM [a, b, c, d] = a + 18446744073709551616 * b + 340282366920938463463374607431768211456 * c + 6277101735386680763835789423207666416102355444464034512896 * d := by
  show a + 18446744073709551616 * (b + 18446744073709551616 * (c + 18446744073709551616 * (d + 18446744073709551616 * 0))) = _
  omega
theorem WM3 : WM ^ 3 = 6277101735386680763835789423207666416102355444464034512896 := by decide
theorem foldN_val {p : List Nat} (h : W64 4 p) : valB WM (foldN p) = valB WM p % 1361129467683753853853498429727072845824 + 5 * (valB WM p / 1361129467683753853853498429727072845824) := by
  have ok1 := fold_low h
  have ok2 := fold_four h
  have ok3 := fold_one h
  obtain ⟨p0, p1, p2, p3, rfl, h0, h1, h2, h3⟩ := list4 h
  unfold foldN
  simp only [List.getD_cons_zero, List.getD_cons_succ] at ok1 ok2 ok3 ⊢
  rw [and_3, and_hi h2, or_62 (show p2 / 2 ^ 2 < 4611686018427387904 by omega)] at *
  have v1 := val3 p0 p1 (p2 % 4)
  have v2 := val3 (p2 - p2 % 4) p3 0
  have v3 := val3 (p2 / 2 ^ 2 + p3 % 4 * 4611686018427387904) (p3 / 2 ^ 2) 0
  have v4 := val4 p0 p1 p2 p3
  have s1 := addN_val (a := [p0, p1, p2 % 4]) (b := [p2 - p2 % 4, p3, 0]) rfl rfl (by rw [v1, v2, WM3]; omega)
  have s2 := addN_val (a := addN [p0, p1, p2 % 4] [p2 - p2 % 4, p3, 0]) (b := [p2 / 2 ^ 2 + p3 % 4 * 4611686018427387904, p3 / 2 ^ 2, 0]) (addN_ok ok1 ok2).1 rfl (by rw [s1, v1, v2, v3, WM3]; omega)
  rw [s2, s1, v1, v2, v3, v4]
  omega
/-- The remainder, of what is not too great. -/
theorem redN_val {m : List Nat} (h : W64 3 m) (hv : valB WM m < 2700000000000000000000000000000000000000) : valB WM (redN m) = if 1361129467683753853853498429727072845819 ≤ valB WM m then valB WM m - 1361129467683753853853498429727072845819 else valB WM m := by
  have s1 := addN_val (a := m) (b := [5, 0, 0]) h.1 rfl (by rw [val3, WM3]; omega)
  rw [val3] at s1
  have hok := addN_ok h five_ok
  unfold redN
  obtain ⟨q0, q1, q2, hq, b0, b1, b2⟩ := list3 hok
  rw [hq, val3] at s1
  rw [hq]
  simp only [List.getD_cons_zero, List.getD_cons_succ, List.set_cons_succ, List.set_cons_zero]
  by_cases hc : 0 < q2 / 2 ^ 2
  · rw [if_pos hc, if_pos (by omega), and_3, val3]
    omega
  · rw [if_neg hc, if_neg (by omega)]
theorem red2_val {m : List Nat} (h : W64 3 m) (hv : valB WM m < 2700000000000000000000000000000000000000) : valB WM (redN (redN m)) = valB WM m % 1361129467683753853853498429727072845819 := by
  have h1 := redN_val h hv
  have h2 := redN_val (redN_ok h) (by rw [h1]; split <;> omega)
  by_cases c1 : 1361129467683753853853498429727072845819 ≤ valB WM m
  · rw [if_pos c1] at h1
    rw [h1] at h2
    rw [h2]
    split <;> omega
  · rw [if_neg c1] at h1
    rw [h1, if_neg c1] at h2
    rw [h2]
    omega

/-! Bytes as numbers. -/
theorem pow8 (k : Nat) : 256 ^ k = 2 ^ (8 * k) := by rw [Nat.pow_mul]
theorem lowN_ev (xs : List Nat) (i : Nat) : ∀ n, lowN xs i n = evB 256 (fun j => xs.getD (i + j) 0) n
  | 0 => rfl
  | n + 1 => by rw [lowN, evB, lowN_ev xs i n, pow8, Nat.mul_comm]
theorem evB_split (b : Nat) (f : Nat → Nat) (a : Nat) : ∀ k, evB b f (a + k) = evB b f a + b ^ a * evB b (fun j => f (a + j)) k
  | 0 => by rw [evB, Nat.mul_zero]; rfl
  | k + 1 => by
    show evB b f (a + k) + b ^ (a + k) * f (a + k) = _
    rw [evB_split b f a k, evB, Nat.pow_add, Nat.mul_add, Nat.mul_assoc, Nat.add_assoc]
theorem evB_zero (b : Nat) (f : Nat → Nat) (h : ∀ j, f j = 0) : ∀ k, evB b f k = 0
  | 0 => rfl
  | k + 1 => by rw [evB, evB_zero b f h k, h, Nat.mul_zero]
theorem getD_over {l : List Nat} {j : Nat} (h : l.length ≤ j) : l.getD j 0 = 0 := by rw [List.getD_eq_getElem?_getD, List.getElem?_eq_none h]; rfl
theorem lowN_val {xs : List Nat} {n : Nat} (h : xs.length ≤ n) : lowN xs 0 n = valB 256 xs := by
  obtain ⟨k, rfl⟩ := Nat.exists_eq_add_of_le h
  rw [lowN_ev, valB_evB]
  have e : (fun j => xs.getD (0 + j) 0) = fun j => xs.getD j 0 := by funext j; rw [Nat.zero_add]
  rw [e, evB_split, evB_zero 256 (fun j => xs.getD (xs.length + j) 0) (fun j => getD_over (by omega)), Nat.mul_zero, Nat.add_zero]
theorem low_24 (ys : List Nat) : lowN ys 0 8 + 18446744073709551616 * lowN ys 8 8 + 340282366920938463463374607431768211456 * lowN ys 16 8 = lowN ys 0 24 := by
  have h1 := evB_split 256 (fun j => ys.getD (0 + j) 0) 8 16
  have h2 := evB_split 256 (fun j => ys.getD (0 + (8 + j)) 0) 8 8
  rw [lowN_ev ys 0 24, lowN_ev ys 0 8, lowN_ev ys 8 8, lowN_ev ys 16 8]
  have e1 : (fun j => ys.getD (0 + (8 + j)) 0) = fun j => ys.getD (8 + j) 0 := by funext j; rw [Nat.zero_add]
  have e2 : (fun j => ys.getD (0 + (8 + (8 + j))) 0) = fun j => ys.getD (16 + j) 0 := by funext j; congr 1; omega
  rw [show (8 : Nat) + 16 = 24 from rfl] at h1
  rw [e1] at h1 h2
  rw [show (8 : Nat) + 8 = 16 from rfl] at h2
  have h3 : evB 256 (fun j => ys.getD (8 + j) 0) 16 = evB 256 (fun j => ys.getD (8 + j) 0) 8 + 256 ^ 8 * evB 256 (fun j => ys.getD (16 + j) 0) 8 := by
    rw [h2]
    congr 2
  rw [h1, h3, show (256 : Nat) ^ 8 = 18446744073709551616 from rfl]
  omega
/-- A block's number. -/
def blkN (xs : List Nat) : Nat := valB 256 (xs ++ [1])
theorem ofN_val {xs : List Nat} (h : xs.length ≤ 16) : valB WM (ofN xs) = blkN xs := by
  unfold ofN blkN
  rw [val3, low_24, lowN_val (by rw [List.length_append]; show xs.length + 1 ≤ 24; omega)]
theorem valB_app (b : Nat) : ∀ xs ys : List Nat, valB b (xs ++ ys) = valB b xs + b ^ xs.length * valB b ys
  | [], ys => by simp [valB]
  | d :: xs, ys => by
    rw [List.cons_append, valB, valB, valB_app b xs ys, List.length_cons, Nat.pow_succ, Nat.mul_add, Nat.mul_comm (b ^ xs.length) b, Nat.mul_assoc]
    omega
theorem blkN_eq (xs : List Nat) : blkN xs = valB 256 xs + 256 ^ xs.length := by
  unfold blkN
  rw [valB_app]
  show _ + _ * (1 + 256 * 0) = _
  rw [Nat.mul_zero, Nat.add_zero, Nat.mul_one]
theorem blkN_lt {xs : List Nat} (h : xs.length ≤ 16) (h8 : ∀ x ∈ xs, x < 256) : blkN xs < 680564733841876926926749214863536422912 := by
  have h1 := valB_lt (b := 256) (by decide) xs h8
  have h2 : (256 : Nat) ^ xs.length ≤ 256 ^ 16 := Nat.pow_le_pow_right (by decide) h
  have h3 : (256 : Nat) ^ 16 = 340282366920938463463374607431768211456 := by decide
  rw [blkN_eq]
  omega
/-! The state, modulo 2 ^ 130 - 5. -/
abbrev P5 : Nat := 1361129467683753853853498429727072845819
def polyM (R : Nat) (bs : List Nat) (pre : List Nat) : Nat := pre.foldl (fun h x => (h + blkN (chunkL bs 16 x)) * R % P5) 0
theorem fold_mod (V : Nat) : (V % 1361129467683753853853498429727072845824 + 5 * (V / 1361129467683753853853498429727072845824)) % 1361129467683753853853498429727072845819 = V % 1361129467683753853853498429727072845819 := by omega
theorem tag_step {H C R N : Nat} {h c rs : List Nat} (hh : W64 3 h) (hc : W64 3 c) (hr : W64 2 rs) (vh : valB WM h = H) (vc : valB WM c = C) (vr : valB WM rs = R) (bH : H < 1786482426334926933182716689016783110144) (bC : C < 680564733841876926926749214863536422912) (bR : R < 21267647932558653966460912964485513216) :
    valB WM (foldN (prodN (addN h c) rs)) < 1786482426334926933182716689016783110144 ∧ valB WM (foldN (prodN (addN h c) rs)) % P5 = (H + C) * R % P5 := by
  have s1 := addN_val hh.1 hc.1 (by rw [vh, vc, WM3]; omega)
  rw [vh, vc] at s1
  have hb : (H + C) * R ≤ 2467047160176803860109465903880319533056 * 21267647932558653966460912964485513216 := Nat.mul_le_mul (by omega) (by omega)
  have s2 := prodN_val (addN_ok hh hc) hr (by rw [s1, vr]; exact Nat.lt_of_le_of_lt hb (by decide))
  rw [s1, vr] at s2
  have s3 := foldN_val (prodN_ok (addN h c) rs)
  rw [s2] at s3
  rw [s3]
  generalize (H + C) * R = V at hb ⊢
  exact ⟨by omega, fold_mod V⟩
end Go.Proofs.Ytggalcdkfielkaa
