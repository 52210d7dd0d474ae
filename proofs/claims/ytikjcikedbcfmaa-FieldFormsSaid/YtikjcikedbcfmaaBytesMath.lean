/-
  PURE: a number's bytes, filled bit by bit.
-/
import Derived.Test.YtikjcikedbcfmaaMath
namespace Go.Proofs.Ytikjcikedbcfmaa

/-- Byte j of what the lowest bits, so many, are. -/
def byteOf (N k j : Nat) : Nat := N % 2 ^ k / 2 ^ (8 * j) % 256
def byteA (N k : Nat) : Array Value := ((List.range 32).map fun j => Value.int .u8 ((byteOf N k j : Nat) : Int)).toArray

theorem byteOf_lt (N k j : Nat) : byteOf N k j < 256 := Nat.mod_lt _ (by omega)

theorem byteOf_testBit (N k j i : Nat) : (byteOf N k j).testBit i = (decide (i < 8) && (decide (8 * j + i < k) && N.testBit (8 * j + i))) := by
  unfold byteOf
  rw [show (256 : Nat) = 2 ^ 8 from rfl, Nat.testBit_mod_two_pow, Nat.testBit_div_two_pow, Nat.testBit_mod_two_pow, Nat.add_comm i (8 * j)]

theorem byteOf_other (N k j : Nat) (h : k / 8 ≠ j) : byteOf N (k + 1) j = byteOf N k j := by
  apply Nat.eq_of_testBit_eq
  intro i
  rw [byteOf_testBit, byteOf_testBit]
  by_cases hi : i < 8
  · have : decide (8 * j + i < k + 1) = decide (8 * j + i < k) := by
      have : 8 * j + i ≠ k := by omega
      simp; omega
    rw [this]
  · simp [hi]

theorem byteOf_bit (N k j m b : Nat) (hj : k / 8 = j) (hm : k % 8 = m) (hb : b = N / 2 ^ k % 2) : byteOf N k j ||| b * 2 ^ m = byteOf N (k + 1) j := by
  apply Nat.eq_of_testBit_eq
  intro i
  have hb2 : b * 2 ^ m = b <<< m := by rw [Nat.shiftLeft_eq]
  rw [Nat.testBit_or, byteOf_testBit, byteOf_testBit, hb2, Nat.testBit_shiftLeft]
  have hbt : ∀ t, b.testBit t = (decide (t = 0) && N.testBit k) := by
    intro t
    rw [hb]
    cases t with
    | zero => simp [Nat.testBit, Nat.shiftRight_eq_div_pow]
    | succ t =>
      have : N / 2 ^ k % 2 < 2 ^ (t + 1) := by
        have h1 : N / 2 ^ k % 2 < 2 := Nat.mod_lt _ (by omega)
        have h2 : 2 ^ 1 ≤ 2 ^ (t + 1) := Nat.pow_le_pow_right (by omega) (by omega)
        omega
      rw [Nat.testBit_lt_two_pow this]; simp
  rw [hbt]
  by_cases hi : i < 8
  · by_cases h1 : 8 * j + i = k
    · have : i = m := by omega
      subst this
      have e : 8 * j + i = k := h1
      rw [e]
      simp [hi]
    · have e1 : decide (8 * j + i < k + 1) = decide (8 * j + i < k) := by simp; omega
      have e2 : (decide (m ≤ i) && (decide (i - m = 0) && N.testBit k)) = false := by
        by_cases h2 : m ≤ i
        · have : ¬ (i - m = 0) := by omega
          simp [this]
        · simp [h2]
      rw [e1]
      simp only [ge_iff_le, e2, Bool.or_false]
  · have e2 : (decide (m ≤ i) && (decide (i - m = 0) && N.testBit k)) = false := by
      have : ¬ (i - m = 0) := by omega
      simp [this]
    simp [hi]
    omega

theorem byteA_size (N k : Nat) : (byteA N k).size = 32 := by simp [byteA]
theorem byteA_get (N k j : Nat) (hj : j < 32) : (byteA N k)[j]? = some (.int .u8 ((byteOf N k j : Nat) : Int)) := by
  simp [byteA, hj]

theorem byteA_set (N k : Nat) (_hk : k / 8 < 32) : (byteA N k).setIfInBounds (k / 8) (.int .u8 ((byteOf N (k + 1) (k / 8) : Nat) : Int)) = byteA N (k + 1) := by
  apply Array.ext
  · simp [byteA]
  · intro i h1 h2
    have hi : i < 32 := by simpa [byteA] using h2
    rw [Array.getElem_setIfInBounds (by simpa [byteA] using hi)]
    split
    · rename_i e; subst e; simp [byteA]
    · rename_i e
      simp [byteA, byteOf_other N k i e]

/-- The step as the walk spells it. -/
theorem bit_step (N k j m K : Nat) (r : Int) (hj : k / 8 = j) (hm : k % 8 = m) (hr0 : 0 ≤ r) (hr : r < 2251799813685248) (hbit : r.toNat / 2 ^ K % 2 = N / 2 ^ k % 2) :
    bits .or .u8 ((byteOf N k j : Nat) : Int) (bits .and .u64 (r / 2 ^ K) 1 % 256 * 2 ^ m % 256) = ((byteOf N (k + 1) j : Nat) : Int) := by
  obtain ⟨R, rfl⟩ := Int.eq_ofNat_of_zero_le hr0
  have e1 : ((R : Int) / 2 ^ K) = ((R / 2 ^ K : Nat) : Int) := by simp
  have hlt : R / 2 ^ K < 18446744073709551616 := Nat.lt_of_le_of_lt (Nat.div_le_self _ _) (by omega)
  rw [e1, show (1 : Int) = ((1 : Nat) : Int) from rfl, u64_and_nat _ _ hlt (by omega), nat_mask1]
  have hb : R / 2 ^ K % 2 < 2 := Nat.mod_lt _ (by omega)
  have hm8 : m < 8 := by omega
  have hp : 2 ^ m ≤ 2 ^ 7 := Nat.pow_le_pow_right (by omega) (by omega)
  have e2 : (((R / 2 ^ K % 2 : Nat) : Int) % 256 * 2 ^ m % 256) = ((R / 2 ^ K % 2 * 2 ^ m : Nat) : Int) := by
    have h1 : R / 2 ^ K % 2 * 2 ^ m ≤ 1 * 2 ^ 7 := Nat.mul_le_mul (by omega) hp
    have h2 : ((R / 2 ^ K % 2 : Nat) : Int) % 256 = ((R / 2 ^ K % 2 : Nat) : Int) := by omega
    rw [h2, show ((2 : Int) ^ m) = ((2 ^ m : Nat) : Int) by simp, ← Int.natCast_mul]
    omega
  rw [e2]
  have h1 : R / 2 ^ K % 2 * 2 ^ m ≤ 1 * 2 ^ 7 := Nat.mul_le_mul (by omega) hp
  rw [u8_or_nat _ _ (byteOf_lt _ _ _) (by omega)]
  have hbit' : R / 2 ^ K % 2 = N / 2 ^ k % 2 := by simpa using hbit
  rw [byteOf_bit N k j m _ hj hm hbit']

end Go.Proofs.Ytikjcikedbcfmaa
