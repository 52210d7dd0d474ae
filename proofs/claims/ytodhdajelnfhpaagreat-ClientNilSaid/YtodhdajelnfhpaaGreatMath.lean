/-
  PURE: the field modulo 2^255 - 19 as 'Fin P', and five limbs of 51 bits as a number of it. No program in sight.
-/
import Derived.WalkKit
namespace Go.Proofs.YtodhdajelnfhpaaGreat

abbrev P : Nat := 57896044618658097711785492504343953926634992332820282019728792003956564819949
abbrev F := Fin P

/-- An integer as a number of the field. -/
def toF (n : Int) : F := ⟨(n % 57896044618658097711785492504343953926634992332820282019728792003956564819949).toNat, by
  show _ < 57896044618658097711785492504343953926634992332820282019728792003956564819949
  omega⟩

theorem toF_val (n : Int) : (((toF n).val : Nat) : Int) = n % 57896044618658097711785492504343953926634992332820282019728792003956564819949 := by
  show (((n % 57896044618658097711785492504343953926634992332820282019728792003956564819949).toNat : Nat) : Int) = _
  omega

theorem F.ext' {x y : F} (h : ((x.val : Nat) : Int) = ((y.val : Nat) : Int)) : x = y := Fin.ext (by omega)

theorem toF_add (a b : Int) : toF (a + b) = toF a + toF b := by
  apply F.ext'
  rw [Fin.val_add, Int.natCast_emod, Int.natCast_add, toF_val, toF_val, toF_val]
  exact Int.add_emod a b 57896044618658097711785492504343953926634992332820282019728792003956564819949

theorem toF_mul (a b : Int) : toF (a * b) = toF a * toF b := by
  apply F.ext'
  rw [Fin.val_mul, Int.natCast_emod, Int.natCast_mul, toF_val, toF_val, toF_val]
  exact Int.mul_emod a b 57896044618658097711785492504343953926634992332820282019728792003956564819949

theorem toF_add_P (a k : Int) : toF (a + 57896044618658097711785492504343953926634992332820282019728792003956564819949 * k) = toF a := by
  apply F.ext'
  rw [toF_val, toF_val, Int.add_mul_emod_self_left]

theorem toF_congr {a b : Int} (k : Int) (h : a = b + 57896044618658097711785492504343953926634992332820282019728792003956564819949 * k) : toF a = toF b := by
  rw [h, toF_add_P]

theorem toF_zero : toF 0 = 0 := rfl
theorem toF_one : toF 1 = 1 := by decide +kernel

theorem F.sub_of_add {x y z : F} (h : z + y = x) : z = x - y := by
  rw [← h]; grind

theorem toF_sub (a b : Int) : toF (a - b) = toF a - toF b := by
  apply F.sub_of_add
  rw [← toF_add, Int.sub_add_cancel]

theorem toF_val_self (x : F) : toF (x.val : Nat) = x := by
  apply F.ext'
  rw [toF_val]
  have := x.isLt
  show _ = ((x.val : Nat) : Int)
  simp only [P] at this
  omega

/-- The number of five limbs of 51 bits. -/
def S5 (a0 a1 a2 a3 a4 : Int) : Int := a0 + 2251799813685248 * a1 + 5070602400912917605986812821504 * a2 + 11417981541647679048466287755595961091061972992 * a3 + 25711008708143844408671393477458601640355247900524685364822016 * a4

/-- Five limbs, each of at most 52 bits, of a number of the field. -/
structure El (x : F) (a0 a1 a2 a3 a4 : Int) : Prop where
  l0 : 0 ≤ a0
  h0 : a0 < 4503599627370496
  l1 : 0 ≤ a1
  h1 : a1 < 4503599627370496
  l2 : 0 ≤ a2
  h2 : a2 < 4503599627370496
  l3 : 0 ≤ a3
  h3 : a3 < 4503599627370496
  l4 : 0 ≤ a4
  h4 : a4 < 4503599627370496
  num : toF (S5 a0 a1 a2 a3 a4) = x

theorem and51 (a : Int) (h0 : 0 ≤ a) (h1 : a < 18446744073709551616) : bits .and .u64 a 2251799813685247 = a % 2251799813685248 := by
  rw [u64_and a _ h0 h1 (by omega) (by omega)]
  show ((a.toNat &&& 2251799813685247 : Nat) : Int) = _
  rw [nat_mask51]
  omega

theorem wrap64u (n : Int) : IntKind.u64.wrap n = n % 18446744073709551616 := IntKind.wrap_u64 n

/-- The limbs behind 'carried'. -/
def c0 (a0 a4 : Int) : Int := IntKind.u64.wrap (bits .and .u64 a0 2251799813685247 + IntKind.u64.wrap (a4 / 2251799813685248 * 19))
def c1 (a1 a0 : Int) : Int := IntKind.u64.wrap (bits .and .u64 a1 2251799813685247 + a0 / 2251799813685248)

/-- 'carried': limbs below 2^64 are below 2^52 behind it; the number is the same. -/
theorem carried_El (a0 a1 a2 a3 a4 : Int) (l0 : 0 ≤ a0) (h0 : a0 < 18446744073709551616) (l1 : 0 ≤ a1) (h1 : a1 < 18446744073709551616)
    (l2 : 0 ≤ a2) (h2 : a2 < 18446744073709551616) (l3 : 0 ≤ a3) (h3 : a3 < 18446744073709551616) (l4 : 0 ≤ a4) (h4 : a4 < 18446744073709551616) :
    El (toF (S5 a0 a1 a2 a3 a4)) (c0 a0 a4) (c1 a1 a0) (c1 a2 a1) (c1 a3 a2) (c1 a4 a3) := by
  have e0 : c0 a0 a4 = a0 % 2251799813685248 + a4 / 2251799813685248 * 19 := by
    unfold c0; rw [and51 a0 l0 h0, wrap64u, wrap64u]; omega
  have ec : ∀ x y : Int, 0 ≤ x → x < 18446744073709551616 → 0 ≤ y → y < 18446744073709551616 → c1 x y = x % 2251799813685248 + y / 2251799813685248 := by
    intro x y a b c d
    unfold c1; rw [and51 x a b, wrap64u]; omega
  rw [e0, ec a1 a0 l1 h1 l0 h0, ec a2 a1 l2 h2 l1 h1, ec a3 a2 l3 h3 l2 h2, ec a4 a3 l4 h4 l3 h3]
  refine ⟨by omega, by omega, by omega, by omega, by omega, by omega, by omega, by omega, by omega, by omega, ?_⟩
  refine toF_congr (- (a4 / 2251799813685248)) ?_
  unfold S5
  omega

/-- A product of five limbs by five: the columns, what is at 2^255 or above taken 19 times. -/
theorem S5_mul (a0 a1 a2 a3 a4 b0 b1 b2 b3 b4 : Int) :
    toF (S5 (a0 * b0 + a1 * 19 * b4 + a2 * 19 * b3 + a3 * 19 * b2 + a4 * 19 * b1) (a0 * b1 + a1 * b0 + a2 * 19 * b4 + a3 * 19 * b3 + a4 * 19 * b2)
      (a0 * b2 + a1 * b1 + a2 * b0 + a3 * 19 * b4 + a4 * 19 * b3) (a0 * b3 + a1 * b2 + a2 * b1 + a3 * b0 + a4 * 19 * b4) (a0 * b4 + a1 * b3 + a2 * b2 + a3 * b1 + a4 * b0))
      = toF (S5 a0 a1 a2 a3 a4) * toF (S5 b0 b1 b2 b3 b4) := by
  rw [← toF_mul]
  refine toF_congr (- ((a1 * b4 + a2 * b3 + a3 * b2 + a4 * b1) + 2251799813685248 * (a2 * b4 + a3 * b3 + a4 * b2) + 5070602400912917605986812821504 * (a3 * b4 + a4 * b3) + 11417981541647679048466287755595961091061972992 * (a4 * b4))) ?_
  unfold S5
  grind

end Go.Proofs.YtodhdajelnfhpaaGreat
