/-
  THE REFERENCE'S NUMBERS, PLAINLY: bytes and digits. No program in sight.
-/
import Derived.Test.YtikjcikedbcfmaaRefMath
import Derived.Test.YtikjcikedbcfmaaParse
namespace Go.Proofs.Ytikjcikedbcfmaa
set_option linter.unusedVariables false
set_option linter.unusedSimpArgs false

theorem low_shl (p K : Nat) (hp : p < 256) (hK : K < 8) : IntKind.u64.wrap (((p : Nat) : Int) * 2 ^ (8 * K)) = ((p * 2 ^ (8 * K) : Nat) : Int) := by
  have h1 : 2 ^ (8 * K) ≤ 2 ^ 56 := Nat.pow_le_pow_right (by omega) (by omega)
  have h2 : p * 2 ^ (8 * K) ≤ 255 * 2 ^ 56 := Nat.mul_le_mul (by omega) h1
  have e1 : (p : Int) * 2 ^ (8 * K) = ((p * 2 ^ (8 * K) : Nat) : Int) := by simp
  rw [e1, IntKind.wrap_u64]
  omega
theorem low_or (q p K : Nat) (hq : q < 2 ^ (8 * K)) (hp : p < 256) (hK : K < 8) : bits .or .u64 ((q : Nat) : Int) ((p * 2 ^ (8 * K) : Nat) : Int) = ((q + p * 2 ^ (8 * K) : Nat) : Int) := by
  have h := or_low q p K hq hp hK
  rwa [low_shl p K hp hK] at h
/-- So many bytes of a number, low first. -/
def putK (x : Nat) : Nat → List Nat
  | 0 => []
  | k + 1 => putK x k ++ [x / 2 ^ (8 * k) % 256]
theorem putK_length (x : Nat) : ∀ k, (putK x k).length = k
  | 0 => rfl
  | k + 1 => by rw [putK, List.length_append, putK_length x k]; rfl
def numK (n : Nat) : Nat → List Nat
  | 0 => List.replicate 16 0
  | k + 1 => (numK n k).set k (n / 2 ^ (16 * k) % 65536)
theorem numK_length (n : Nat) : ∀ k, (numK n k).length = 16
  | 0 => List.length_replicate
  | k + 1 => by rw [numK, List.length_set]; exact numK_length n k
theorem numK_above (n : Nat) : ∀ k j, k ≤ j → (numK n k).getD j 0 = 0
  | 0, j, _ => by rw [numK, getD_rep]
  | k + 1, j, h => by rw [numK, getD_set_ne (by omega)]; exact numK_above n k j (by omega)
theorem numK_below (n : Nat) : ∀ k j, (numK n k).getD j 0 < 65536
  | 0, j => by rw [numK, getD_rep]; decide
  | k + 1, j => by
    rw [numK]
    by_cases e : k = j
    · subst e
      by_cases hl : k < (numK n k).length
      · rw [getD_set_eq hl]
        exact Nat.mod_lt _ (by decide)
      · rw [List.set_eq_of_length_le (by omega)]
        exact numK_below n k k
    · rw [getD_set_ne e]
      exact numK_below n k j
theorem pow_16 (k : Nat) : 65536 ^ k = 2 ^ (16 * k) := by rw [Nat.pow_mul]
theorem numK_val (n : Nat) : ∀ k, k ≤ 16 → valD (numK n k) = n % 65536 ^ k
  | 0, _ => by rw [numK, valD_rep, Nat.pow_zero, Nat.mod_one]
  | k + 1, h => by
    have h1 := valD_set (numK n k) k (n / 2 ^ (16 * k) % 65536) (by rw [numK_length]; omega)
    rw [numK_above n k k (Nat.le_refl _), Nat.mul_zero, Nat.add_zero, numK_val n k (by omega), ← pow_16] at h1
    rw [numK, Nat.mod_pow_succ, ← h1, pow_16]
theorem canon_eq {l : List Nat} (hl : l.length = 16) (h : ∀ j, l.getD j 0 < 65536) {V : Nat} (hv : valD l = V) : l = digN V := by
  have hc : ∀ d ∈ l, d < 65536 := by
    intro d hd
    obtain ⟨i, hi, rfl⟩ := List.mem_iff_getElem.1 hd
    have h2 := h i
    rwa [List.getD_eq_getElem?_getD, List.getElem?_eq_getElem hi] at h2
  have e := digK_valD l hc
  rw [hl, hv] at e
  exact e.symm
theorem numK_4 {n : Nat} (h : n < 18446744073709551616) : numK n 4 = digN n :=
  canon_eq (numK_length n 4) (numK_below n 4) (by rw [numK_val n 4 (by decide), Nat.mod_eq_of_lt (by exact h)])
def parK (xs : List Nat) : Nat → List Nat
  | 0 => List.replicate 16 0
  | k + 1 => (parK xs k).set k (lowN xs (2 * k) 2)
theorem parK_length (xs : List Nat) : ∀ k, (parK xs k).length = 16
  | 0 => List.length_replicate
  | k + 1 => by rw [parK, List.length_set]; exact parK_length xs k
theorem parK_above (xs : List Nat) : ∀ k j, k ≤ j → (parK xs k).getD j 0 = 0
  | 0, j, _ => by rw [parK, getD_rep]
  | k + 1, j, h => by rw [parK, getD_set_ne (by omega)]; exact parK_above xs k j (by omega)
theorem parK_below {xs : List Nat} (h8 : ∀ x ∈ xs, x < 256) : ∀ k j, (parK xs k).getD j 0 < 65536
  | 0, j => by rw [parK, getD_rep]; decide
  | k + 1, j => by
    rw [parK]
    by_cases e : k = j
    · subst e
      by_cases hl : k < (parK xs k).length
      · rw [getD_set_eq hl]
        exact lowN_lt h8 _ 2
      · rw [List.set_eq_of_length_le (by omega)]
        exact parK_below h8 k k
    · rw [getD_set_ne e]
      exact parK_below h8 k j
theorem parK_val (xs : List Nat) : ∀ k, k ≤ 16 → valD (parK xs k) = lowN xs 0 (2 * k)
  | 0, _ => by rw [parK, valD_rep]; rfl
  | k + 1, h => by
    have h1 := valD_set (parK xs k) k (lowN xs (2 * k) 2) (by rw [parK_length]; omega)
    rw [parK_above xs k k (Nat.le_refl _), Nat.mul_zero, Nat.add_zero, parK_val xs k (by omega)] at h1
    have h2 := lowN_split xs (2 * k) 2
    rw [parK, show 2 * (k + 1) = 2 * k + 2 by omega, h2, h1, pow_16, show 8 * (2 * k) = 16 * k by omega]
theorem par_top {xs : List Nat} (h8 : ∀ x ∈ xs, x < 256) : valD ((parK xs 16).set 15 ((parK xs 16).getD 15 0 % 32768)) = lowN xs 0 32 % 57896044618658097711785492504343953926634992332820282019728792003956564819968 := by
  have hl := parK_length xs 16
  have h1 := valD_set (parK xs 16) 15 ((parK xs 16).getD 15 0 % 32768) (by omega)
  have hv := parK_val xs 16 (Nat.le_refl _)
  have hc : ∀ d ∈ parK xs 16, d < 65536 := by
    intro d hd
    obtain ⟨i, hi, rfl⟩ := List.mem_iff_getElem.1 hd
    have h2 := parK_below h8 16 i
    rwa [List.getD_eq_getElem?_getD, List.getElem?_eq_getElem hi] at h2
  have ht := top_of hl hc
  obtain ⟨d, ed⟩ : ∃ q, q = (parK xs 16).getD 15 0 := ⟨_, rfl⟩
  obtain ⟨N, eN⟩ : ∃ q, q = lowN xs 0 32 := ⟨_, rfl⟩
  rw [show 2 * 16 = 32 from rfl, ← eN] at hv
  rw [← ed, hv] at ht h1
  rw [← ed, ← eN]
  have e255 : 57896044618658097711785492504343953926634992332820282019728792003956564819968 = 65536 ^ 15 * 32768 := by decide +kernel
  have h2 := Nat.mod_add_div N (65536 ^ 15 * 32768)
  rw [← Nat.div_div_eq_div_mul, ← ht] at h2
  have h3 := Nat.mod_add_div d 32768
  have h4 : 65536 ^ 15 * (d % 32768) + 65536 ^ 15 * 32768 * (d / 32768) = 65536 ^ 15 * d := by rw [Nat.mul_assoc, ← Nat.mul_add, h3]
  rw [e255]
  generalize valD ((parK xs 16).set 15 (d % 32768)) = A at h1 ⊢
  generalize N % (65536 ^ 15 * 32768) = R at h2 ⊢
  generalize 65536 ^ 15 * 32768 * (d / 32768) = X at h2 h4
  generalize 65536 ^ 15 * (d % 32768) = Y at h1 h4
  generalize 65536 ^ 15 * d = Zz at h1 h4
  omega
theorem par_dg (N : Nat) : digN (N % P) = dg (toF ((N : Nat) : Int)) := by
  have h := toF_val ((N : Nat) : Int)
  have e : (toF ((N : Nat) : Int)).val = N % P := Int.ofNat_inj.1 (h.trans (Int.natCast_emod N P).symm)
  unfold dg
  rw [e]
def byK (l : List Nat) : Nat → List Nat
  | 0 => []
  | k + 1 => byK l k ++ putK (l.getD k 0) 2
theorem byK_length (l : List Nat) : ∀ k, (byK l k).length = 2 * k
  | 0 => rfl
  | k + 1 => by rw [byK, List.length_append, byK_length l k, putK_length]; omega
theorem byK_dig (V : Nat) : ∀ k, k ≤ 16 → byK (digN V) k = (List.range (2 * k)).map (fun j => V / 2 ^ (8 * j) % 256)
  | 0, _ => rfl
  | k + 1, h => by
    rw [byK, byK_dig V k (by omega), digN_at V (by omega), show 2 * (k + 1) = 2 * k + 1 + 1 by omega, List.range_succ, List.range_succ, List.map_append, List.map_append, List.append_assoc]
    congr 1
    have e1 : V / 65536 ^ k % 65536 / 2 ^ (8 * 0) % 256 = V / 2 ^ (8 * (2 * k)) % 256 := by
      rw [pow_16, show 8 * (2 * k) = 16 * k by omega, show 2 ^ (8 * 0) = 1 from rfl, Nat.div_one]
      omega
    have e2 : V / 65536 ^ k % 65536 / 2 ^ (8 * 1) % 256 = V / 2 ^ (8 * (2 * k + 1)) % 256 := by
      have e3 : V / 2 ^ (8 * (2 * k + 1)) = V / 65536 ^ k / 256 := by rw [pow_16, Nat.div_div_eq_div_mul, show 8 * (2 * k + 1) = 16 * k + 8 by omega, Nat.pow_add]
      rw [e3, show 2 ^ (8 * 1) = 256 from rfl]
      omega
    show [] ++ [V / 65536 ^ k % 65536 / 2 ^ (8 * 0) % 256] ++ [V / 65536 ^ k % 65536 / 2 ^ (8 * 1) % 256] = _
    rw [e1, e2]
    rfl
/-- A number's bytes, as the reference tells them. -/
def nbL (x : F) : List Nat := byK (dg x) 16
theorem nbL_length (x : F) : (nbL x).length = 32 := byK_length _ 16
theorem nbL_eq (x : F) : nbL x = (List.range 32).map (fun j => x.val / 2 ^ (8 * j) % 256) := byK_dig x.val 16 (Nat.le_refl _)
theorem one_dg : digN 1 = dg 1 := by decide +kernel
theorem least_dg (x : F) : digN (valD (dg x) % P) = dg x := by rw [valD_dg, Nat.mod_eq_of_lt x.isLt]; rfl
end Go.Proofs.Ytikjcikedbcfmaa
