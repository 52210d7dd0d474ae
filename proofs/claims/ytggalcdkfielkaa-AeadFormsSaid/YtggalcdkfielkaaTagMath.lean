/-
  BOTH POLY1305 ARE ALIKE: limbs of 64 bits, digits of 8 bits; no program in sight.
-/
import Derived.Test.YtggalcdkfielkaaPolyMath
import Derived.Test.YtggalcdkfielkaaRefPol
namespace Go.Proofs.Ytggalcdkfielkaa
set_option linter.unusedVariables false
set_option linter.unusedSimpArgs false

theorem polyM_snoc (R : Nat) (bs pre : List Nat) (x : Nat) : polyM R bs (pre ++ [x]) = (polyM R bs pre + blkN (chunkL bs 16 x)) * R % P5 := by simp [polyM]
theorem polyM_lt (R : Nat) (bs pre : List Nat) : polyM R bs pre < P5 := by
  have key : ∀ r : List Nat, polyM R bs r.reverse < P5 := by
    intro r
    cases r with
    | nil => show 0 < P5; decide
    | cons x r => rw [List.reverse_cons, polyM_snoc]; exact Nat.mod_lt _ (by decide)
  simpa using key pre.reverse
theorem chunk_le (bs : List Nat) (x : Nat) : (chunkL bs 16 x).length ≤ 16 := by rw [chunkL_length]; omega
theorem mod_step (H C R : Nat) : (H + C) * R % P5 = (H % P5 + C) * R % P5 := by
  rw [Nat.mul_mod, Nat.mul_mod (H % P5 + C), Nat.mod_add_mod]
theorem tagSt_val {rs bs : List Nat} (hr : W64 2 rs) (hb : ∀ x ∈ bs, x < 256) (bR : valB WM rs < 21267647932558653966460912964485513216) (pre : List Nat) : valB WM (tagSt rs bs pre) < 1786482426334926933182716689016783110144 ∧ valB WM (tagSt rs bs pre) % P5 = polyM (valB WM rs) bs pre := by
  have key : ∀ r : List Nat, valB WM (tagSt rs bs r.reverse) < 1786482426334926933182716689016783110144 ∧ valB WM (tagSt rs bs r.reverse) % P5 = polyM (valB WM rs) bs r.reverse := by
    intro r
    induction r with
    | nil =>
      have h0 : valB WM (tagSt rs bs [].reverse) = 0 := valB_rep WM 3
      rw [h0]
      exact ⟨by decide, rfl⟩
    | cons x r ih =>
      rw [List.reverse_cons, tagSt_snoc, polyM_snoc]
      have h1 := tag_step (N := 0) (tagSt_ok rs hb r.reverse) (ofN_ok (chunkL_lt hb 16 x)) hr rfl (ofN_val (chunk_le bs x)) rfl ih.1 (blkN_lt (chunk_le bs x) (chunkL_lt hb 16 x)) bR
      refine ⟨h1.1, h1.2.trans ?_⟩
      rw [mod_step, ih.2]
  simpa using key pre.reverse

/-! The key. -/
theorem and_cons {x y m n : Nat} (hx : x < 256) (hm : m < 256) : (x + 256 * y) &&& (m + 256 * n) = (x &&& m) + 256 * (y &&& n) := by
  have h1 : ((x + 256 * y) &&& (m + 256 * n)) % 2 ^ 8 = ((x + 256 * y) % 2 ^ 8) &&& ((m + 256 * n) % 2 ^ 8) := Nat.and_mod_two_pow ..
  have h2 : ((x + 256 * y) &&& (m + 256 * n)) / 2 ^ 8 = ((x + 256 * y) / 2 ^ 8) &&& ((m + 256 * n) / 2 ^ 8) := Nat.and_div_two_pow
  rw [show (2 : Nat) ^ 8 = 256 from rfl] at h1 h2
  rw [show (x + 256 * y) % 256 = x by omega, show (m + 256 * n) % 256 = m by omega] at h1
  rw [show (x + 256 * y) / 256 = y by omega, show (m + 256 * n) / 256 = n by omega] at h2
  omega
theorem and_255 {x : Nat} (hx : x < 256) : x &&& 255 = x := by rw [Nat.and_two_pow_sub_one_eq_mod x 8]; omega
theorem low_8 (ks : List Nat) (i : Nat) : lowN ks i 8 = ks.getD i 0 + 256 * (ks.getD (i + 1) 0 + 256 * (ks.getD (i + 2) 0 + 256 * (ks.getD (i + 3) 0 + 256 * (ks.getD (i + 4) 0 + 256 * (ks.getD (i + 5) 0 + 256 * (ks.getD (i + 6) 0 + 256 * ks.getD (i + 7) 0)))))) := by
  simp only [lowN, Nat.add_zero]
  omega
theorem and_lo {k0 k1 k2 k3 k4 k5 k6 k7 : Nat} (h0 : k0 < 256) (h1 : k1 < 256) (h2 : k2 < 256) (h3 : k3 < 256) (h4 : k4 < 256) (h5 : k5 < 256) (h6 : k6 < 256) (h7 : k7 < 256) :
    (k0 + 256 * (k1 + 256 * (k2 + 256 * (k3 + 256 * (k4 + 256 * (k5 + 256 * (k6 + 256 * k7))))))) &&& 1152921487695413247 = k0 + 256 * (k1 + 256 * (k2 + 256 * ((k3 &&& 15) + 256 * ((k4 &&& 252) + 256 * (k5 + 256 * (k6 + 256 * (k7 &&& 15))))))) := by
  rw [show (1152921487695413247 : Nat) = 255 + 256 * (255 + 256 * (255 + 256 * (15 + 256 * (252 + 256 * (255 + 256 * (255 + 256 * 15)))))) from rfl]
  rw [and_cons h0 (by decide), and_cons h1 (by decide), and_cons h2 (by decide), and_cons h3 (by decide), and_cons h4 (by decide), and_cons h5 (by decide), and_cons h6 (by decide), and_255 h0, and_255 h1, and_255 h2, and_255 h5, and_255 h6]
theorem and_hi8 {k0 k1 k2 k3 k4 k5 k6 k7 : Nat} (h0 : k0 < 256) (h1 : k1 < 256) (h2 : k2 < 256) (h3 : k3 < 256) (h4 : k4 < 256) (h5 : k5 < 256) (h6 : k6 < 256) (h7 : k7 < 256) :
    (k0 + 256 * (k1 + 256 * (k2 + 256 * (k3 + 256 * (k4 + 256 * (k5 + 256 * (k6 + 256 * k7))))))) &&& 1152921487695413244 = (k0 &&& 252) + 256 * (k1 + 256 * (k2 + 256 * ((k3 &&& 15) + 256 * ((k4 &&& 252) + 256 * (k5 + 256 * (k6 + 256 * (k7 &&& 15))))))) := by
  rw [show (1152921487695413244 : Nat) = 252 + 256 * (255 + 256 * (255 + 256 * (15 + 256 * (252 + 256 * (255 + 256 * (255 + 256 * 15)))))) from rfl]
  rw [and_cons h0 (by decide), and_cons h1 (by decide), and_cons h2 (by decide), and_cons h3 (by decide), and_cons h4 (by decide), and_cons h5 (by decide), and_cons h6 (by decide), and_255 h1, and_255 h2, and_255 h5, and_255 h6]
theorem rP_list (ks : List Nat) : rP ks = [ks.getD 0 0, ks.getD 1 0, ks.getD 2 0, ks.getD 3 0 &&& 15, ks.getD 4 0 &&& 252, ks.getD 5 0, ks.getD 6 0, ks.getD 7 0 &&& 15, ks.getD 8 0 &&& 252, ks.getD 9 0, ks.getD 10 0, ks.getD 11 0 &&& 15, ks.getD 12 0 &&& 252, ks.getD 13 0, ks.getD 14 0, ks.getD 15 0 &&& 15, 0] := by
  simp only [rP, cl2, cl1, rK, List.replicate_succ, List.replicate_zero, List.set_cons_succ, List.set_cons_zero, List.getD_cons_succ, List.getD_cons_zero, Nat.reduceMul, Nat.reduceAdd]
theorem getD_byte {ks : List Nat} (h : ∀ x ∈ ks, x < 256) (j : Nat) : ks.getD j 0 < 256 := Nat.lt_succ_of_le (getD_small (fun d hd => Nat.le_of_lt_succ (h d hd)) j)
theorem key_same {ks : List Nat} (h : ∀ x ∈ ks, x < 256) : valB WM (keyR ks) = valB 256 (rP ks) := by
  have g := getD_byte h
  have e1 := and_lo (g 0) (g 1) (g 2) (g 3) (g 4) (g 5) (g 6) (g 7)
  have e2 := and_hi8 (g 8) (g 9) (g 10) (g 11) (g 12) (g 13) (g 14) (g 15)
  have l1 := low_8 ks 0
  have l2 := low_8 ks 8
  rw [show (0 : Nat) + 1 = 1 from rfl, show (0 : Nat) + 2 = 2 from rfl, show (0 : Nat) + 3 = 3 from rfl, show (0 : Nat) + 4 = 4 from rfl, show (0 : Nat) + 5 = 5 from rfl, show (0 : Nat) + 6 = 6 from rfl, show (0 : Nat) + 7 = 7 from rfl] at l1
  rw [show (8 : Nat) + 1 = 9 from rfl, show (8 : Nat) + 2 = 10 from rfl, show (8 : Nat) + 3 = 11 from rfl, show (8 : Nat) + 4 = 12 from rfl, show (8 : Nat) + 5 = 13 from rfl, show (8 : Nat) + 6 = 14 from rfl, show (8 : Nat) + 7 = 15 from rfl] at l2
  rw [← l1] at e1
  rw [← l2] at e2
  have ek : valB WM (keyR ks) = (lowN ks 0 8 &&& 1152921487695413247) + 18446744073709551616 * (lowN ks 8 8 &&& 1152921487695413244) := by
    show _ + WM * (_ + WM * 0) = _
    rw [Nat.mul_zero, Nat.add_zero]
  rw [ek, e1, e2, rP_list]
  clear e1 e2 l1 l2 ek g
  simp only [valB]
  generalize ks.getD 3 0 &&& 15 = a3
  generalize ks.getD 4 0 &&& 252 = a4
  generalize ks.getD 7 0 &&& 15 = a7
  generalize ks.getD 8 0 &&& 252 = a8
  generalize ks.getD 11 0 &&& 15 = a11
  generalize ks.getD 12 0 &&& 252 = a12
  generalize ks.getD 15 0 &&& 15 = a15
  omega
theorem key_lt (ks : List Nat) : valB WM (keyR ks) < 21267647932558653966460912964485513216 := by
  have h1 : lowN ks 0 8 &&& 1152921487695413247 ≤ 1152921487695413247 := Nat.and_le_right
  have h2 : lowN ks 8 8 &&& 1152921487695413244 ≤ 1152921487695413244 := Nat.and_le_right
  have ek : valB WM (keyR ks) = (lowN ks 0 8 &&& 1152921487695413247) + 18446744073709551616 * (lowN ks 8 8 &&& 1152921487695413244) := by
    show _ + WM * (_ + WM * 0) = _
    rw [Nat.mul_zero, Nat.add_zero]
  rw [ek]
  omega

/-! A step, the tag. -/
theorem pie_val {H : Nat} (hH : H < 1361129467683753853853498429727072845824) {xs : List Nat} (hx : xs.length ≤ 16) : valB 256 (pieP (dgP H) xs) = H + blkN xs := by
  rw [pieP_val (by rw [dgP_length]; omega), valB_dgP hH, blkN_eq, Nat.add_assoc]
def stepP (ks xs : List Nat) (H : Nat) : Nat := timP (dgP (car2 (valB 256 (pieP (dgP H) xs)))) (rP ks)
theorem step_lt {ks xs : List Nat} (hk : ∀ x ∈ ks, x < 256) (hx : xs.length ≤ 16) (H : Nat) : stepP ks xs H < 1361129467683753853853498429727072845824 :=
  (timP_val (dgP_length _) (rP_length ks) (dgP_le _) (rP_le (fun j => Nat.le_of_lt_succ (getD_byte hk j)))).1
theorem step_mod {ks bs : List Nat} (hk : ∀ x ∈ ks, x < 256) (hb : ∀ x ∈ bs, x < 256) (K : Nat) {H : Nat} (hH : H < 1361129467683753853853498429727072845824) (hm : H % P5 = polyM (valB 256 (rP ks)) bs (List.range K)) :
    stepP ks (chunkL bs 16 K) H % P5 = polyM (valB 256 (rP ks)) bs (List.range (K + 1)) := by
  have hx := chunk_le bs K
  have h8 : ∀ j, (chunkL bs 16 K).getD j 0 ≤ 255 := fun j => Nat.le_of_lt_succ (getD_byte (chunkL_lt hb 16 K) j)
  have h1 := (timP_val (dgP_length (car2 (valB 256 (pieP (dgP H) (chunkL bs 16 K))))) (rP_length ks) (dgP_le _) (rP_le (fun j => Nat.le_of_lt_succ (getD_byte hk j)))).2
  have h2 := (carry_val (l := pieP (dgP H) (chunkL bs 16 K)) (by rw [pieP_length, dgP_length]) (pieP_le (dgP_le H) h8)).2
  rw [valB_dgP h2] at h1
  show timP _ _ % _ = _
  refine h1.trans ?_
  rw [List.range_succ, polyM_snoc, ← hm, ← mod_step, ← pie_val hH hx, Nat.mul_mod, car2_mod, ← Nat.mul_mod]
def stP (ks bs : List Nat) : Nat → Nat
  | 0 => 0
  | K + 1 => stepP ks (chunkL bs 16 K) (stP ks bs K)
theorem stP_lt {ks : List Nat} (hk : ∀ x ∈ ks, x < 256) (bs : List Nat) : ∀ K, stP ks bs K < 1361129467683753853853498429727072845824
  | 0 => by show 0 < _; decide
  | K + 1 => step_lt hk (chunk_le bs K) _
theorem stP_mod {ks bs : List Nat} (hk : ∀ x ∈ ks, x < 256) (hb : ∀ x ∈ bs, x < 256) : ∀ K, stP ks bs K % P5 = polyM (valB 256 (rP ks)) bs (List.range K)
  | 0 => rfl
  | K + 1 => step_mod hk hb K (stP_lt hk bs K) (stP_mod hk hb K)
theorem putL_dg (x : Nat) : ∀ k, putL x k = dgK k x
  | 0 => rfl
  | k + 1 => by
    rw [putL, putL_dg x k, ← dgK_app 1 k, pow8]
    rfl
theorem low_16 (ks : List Nat) : lowN ks 16 8 + 18446744073709551616 * lowN ks 24 8 = evB 256 (fun j => ks.getD (16 + j) 0) 16 := by
  have h1 := evB_split 256 (fun j => ks.getD (16 + j) 0) 8 8
  rw [show (8 : Nat) + 8 = 16 from rfl] at h1
  rw [h1, lowN_ev ks 16 8, lowN_ev ks 24 8, show (256 : Nat) ^ 8 = 18446744073709551616 from rfl]
  have e2 : (fun j => ks.getD (16 + (8 + j)) 0) = fun j => ks.getD (24 + j) 0 := by funext j; exact congrArg (fun q => ks.getD q 0) (by omega)
  rw [e2]
theorem evB_add (b : Nat) (f g : Nat → Nat) : ∀ k, evB b (fun j => f j + g j) k = evB b f k + evB b g k
  | 0 => rfl
  | k + 1 => by rw [evB, evB, evB, evB_add b f g k, Nat.mul_add]; omega
theorem evB_dg (n : Nat) : ∀ k, k ≤ 17 → evB 256 (fun j => (dgP n).getD j 0) k = n % 256 ^ k
  | 0, _ => by rw [evB, Nat.pow_zero, Nat.mod_one]
  | k + 1, h => by rw [evB, evB_dg n k (by omega), dgP, dgK_at k 17 n (by omega), Nat.mod_pow_succ]
def sumF (T : Nat) (ks : List Nat) (j : Nat) : Nat := (dgP T).getD j 0 + ks.getD (16 + j) 0
def tagP (ks bs : List Nat) : List Nat := (sumP (sumF (stP ks bs ((bs.length + 16 - 1) / 16) % P5) ks) 16).1
theorem tagP_length (ks bs : List Nat) : (tagP ks bs).length = 16 := sumP_length _ 16
theorem tag_same {ks bs : List Nat} (hk : ∀ x ∈ ks, x < 256) (hb : ∀ x ∈ bs, x < 256) : tagP ks bs = tagL ks bs := by
  obtain ⟨v1, v2⟩ := tagSt_val (keyR_ok hk) hb (key_lt ks) (List.range ((bs.length + 16 - 1) / 16))
  have hs := tagSt_ok (keyR ks) hb (List.range ((bs.length + 16 - 1) / 16))
  have hr := red2_val hs (by omega)
  have h3 := stP_mod hk hb ((bs.length + 16 - 1) / 16)
  rw [key_same hk] at v2
  rw [v2, ← h3] at hr
  have hT : stP ks bs ((bs.length + 16 - 1) / 16) % P5 < 1361129467683753853853498429727072845819 := Nat.mod_lt _ (by decide)
  have l1 : lowN ks 16 8 < 18446744073709551616 := lowN_lt hk 16 8
  have l2 : lowN ks 24 8 < 18446744073709551616 := lowN_lt hk 24 8
  have s1 := addN_val (a := redN (redN (tagSt (keyR ks) bs (List.range ((bs.length + 16 - 1) / 16))))) (b := [lowN ks 16 8, lowN ks 24 8, 0]) (redN_ok (redN_ok hs)).1 rfl (by rw [hr, val3, WM3]; omega)
  rw [hr, val3] at s1
  have hok := tagN_ok hk hb
  unfold tagP tagL
  rw [(sumP_dig _ 16).1, putL_dg, putL_dg]
  have e1 : evB 256 (sumF (stP ks bs ((bs.length + 16 - 1) / 16) % P5) ks) 16 = (stP ks bs ((bs.length + 16 - 1) / 16) % P5) % 256 ^ 16 + (lowN ks 16 8 + 18446744073709551616 * lowN ks 24 8) := by
    show evB 256 (fun j => (dgP _).getD j 0 + ks.getD (16 + j) 0) 16 = _
    rw [evB_add, evB_dg _ 16 (by decide), low_16]
  rw [e1]
  change valB WM (tagN ks bs) = _ at s1
  obtain ⟨n0, n1, n2, hq, b0, b1, b2⟩ := list3 hok
  rw [hq, val3] at s1
  rw [hq]
  simp only [List.getD_cons_zero, List.getD_cons_succ]
  generalize stP ks bs ((bs.length + 16 - 1) / 16) % P5 = T at *
  generalize lowN ks 16 8 = S0 at *
  generalize lowN ks 24 8 = S1 at *
  rw [show (256 : Nat) ^ 16 = 340282366920938463463374607431768211456 by decide]
  have h9 := dgK_app 8 8 (n0 + 18446744073709551616 * n1)
  rw [show (256 : Nat) ^ 8 = 18446744073709551616 from rfl, show (n0 + 18446744073709551616 * n1) / 18446744073709551616 = n1 by omega, show (8 : Nat) + 8 = 16 from rfl] at h9
  have h10 := dgK_mod 8 (n0 + 18446744073709551616 * n1)
  rw [show (256 : Nat) ^ 8 = 18446744073709551616 from rfl, show (n0 + 18446744073709551616 * n1) % 18446744073709551616 = n0 by omega] at h10
  rw [h10, h9, ← dgK_mod 16 (_ + _), ← dgK_mod 16 (n0 + 18446744073709551616 * n1)]
  congr 1
  rw [show (256 : Nat) ^ 16 = 340282366920938463463374607431768211456 by decide]
  omega
end Go.Proofs.Ytggalcdkfielkaa
