/-
  WALKS: math/bits.Mul64, Add64.
-/
import Derived.Test.YtodhdajelnfhpaaGreatBase
import Derived.Test.YtodhdajelnfhpaaGreatMath
import Derived.Lib.Mul64
namespace Go.Proofs.YtodhdajelnfhpaaGreat
open Go.RowKit
set_option maxRecDepth 100000

/-- Two words of 64 bits that are a number. -/
structure W2 (n : Int) (h l : Int) : Prop where
  h0 : 0 ≤ h
  h1 : h < 18446744073709551616
  l0 : 0 ≤ l
  l1 : l < 18446744073709551616
  num : 18446744073709551616 * h + l = n

def hiOf (x y : Int) : Int :=
  IntKind.u64.wrap (IntKind.u64.wrap (IntKind.u64.wrap (x / 4294967296 * (y / 4294967296)) +
    IntKind.u64.wrap (IntKind.u64.wrap (x / 4294967296 * bits BinOp.and IntKind.u64 y 4294967295) + IntKind.u64.wrap (bits BinOp.and IntKind.u64 x 4294967295 * bits BinOp.and IntKind.u64 y 4294967295) / 4294967296) / 4294967296) +
    IntKind.u64.wrap (bits BinOp.and IntKind.u64 (IntKind.u64.wrap (IntKind.u64.wrap (x / 4294967296 * bits BinOp.and IntKind.u64 y 4294967295) + IntKind.u64.wrap (bits BinOp.and IntKind.u64 x 4294967295 * bits BinOp.and IntKind.u64 y 4294967295) / 4294967296)) 4294967295 +
      IntKind.u64.wrap (bits BinOp.and IntKind.u64 x 4294967295 * (y / 4294967296))) / 4294967296)

theorem and32 (a : Int) (h0 : 0 ≤ a) (h1 : a < 18446744073709551616) : bits .and .u64 a 4294967295 = a % 4294967296 := by
  rw [u64_and a _ h0 h1 (by omega) (by omega)]
  show ((a.toNat &&& 4294967295 : Nat) : Int) = _
  rw [nat_mask32]
  omega

theorem wrap_id (n : Int) (h0 : 0 ≤ n) (h1 : n < 18446744073709551616) : IntKind.u64.wrap n = n := by rw [wrap64u]; omega

theorem hiOf_W2 (x y : Int) (hx0 : 0 ≤ x) (hx : x < 18446744073709551616) (hy0 : 0 ≤ y) (hy : y < 18446744073709551616) :
    W2 (x * y) (hiOf x y) (IntKind.u64.wrap (x * y)) := by
  obtain ⟨X, rfl⟩ := Int.eq_ofNat_of_zero_le hx0
  obtain ⟨Y, rfl⟩ := Int.eq_ofNat_of_zero_le hy0
  obtain ⟨m1, m2, m3, m4⟩ := Go.Lib.mul64_hi X Y (by omega) (by omega)
  have ex : ((X : Int) / 4294967296) = ((X / 4294967296 : Nat) : Int) := by omega
  have ey : ((Y : Int) / 4294967296) = ((Y / 4294967296 : Nat) : Int) := by omega
  have rx : ((X : Int) % 4294967296) = ((X % 4294967296 : Nat) : Int) := by omega
  have ry : ((Y : Int) % 4294967296) = ((Y % 4294967296 : Nat) : Int) := by omega
  have eh : hiOf X Y = ((X * Y / 18446744073709551616 : Nat) : Int) := by
    rw [← m4]
    unfold hiOf
    rw [and32 X hx0 hx, and32 Y hy0 hy, ex, ey, rx, ry]
    simp only [← Int.natCast_mul]
    have ha := Go.Lib.half_mul_le (a := X / 4294967296) (b := Y / 4294967296) (by omega) (by omega)
    have hb := Go.Lib.half_mul_le (a := X / 4294967296) (b := Y % 4294967296) (by omega) (by omega)
    have hc := Go.Lib.half_mul_le (a := X % 4294967296) (b := Y / 4294967296) (by omega) (by omega)
    have hd := Go.Lib.half_mul_le (a := X % 4294967296) (b := Y % 4294967296) (by omega) (by omega)
    have hm4 : X * Y / 18446744073709551616 < 18446744073709551616 := by
      have : X * Y ≤ 18446744073709551615 * 18446744073709551615 := Nat.mul_le_mul (by omega) (by omega)
      omega
    rw [← m4] at hm4
    generalize (X / 4294967296) * (Y / 4294967296) = a at *
    generalize (X / 4294967296) * (Y % 4294967296) = b at *
    generalize (X % 4294967296) * (Y / 4294967296) = c at *
    generalize (X % 4294967296) * (Y % 4294967296) = d at *
    clear ex ey rx ry
    rw [wrap_id d (by omega) (by omega), wrap_id b (by omega) (by omega), wrap_id ((b : Int) + (d : Int) / 4294967296) (by omega) (by omega), and32 _ (by omega) (by omega), wrap_id a (by omega) (by omega), wrap_id c (by omega) (by omega)]
    rw [wrap_id ((a : Int) + _) (by omega) (by omega), wrap_id (((b : Int) + (d : Int) / 4294967296) % 4294967296 + (c : Int)) (by omega) (by omega)]
    rw [wrap_id _ (by omega) (by omega)]
    omega
  have hb : X * Y ≤ 18446744073709551615 * 18446744073709551615 := Nat.mul_le_mul (by omega) (by omega)
  rw [eh, wrap64u, ← Int.natCast_mul]
  generalize X * Y = Z at *
  exact ⟨by omega, by omega, by omega, by omega, by omega⟩

set_option maxHeartbeats 1000000 in
theorem Mul64_raw (x y : Int) (w : World) :
    Calls Tryz.prog 160 #[.int .u64 x, .int .u64 y] w fun e w' => e = .returned (.tuple #[.int .u64 (hiOf x y), .int .u64 (IntKind.u64.wrap (x * y))]) ∧ w = w' := by
  go_enter Tryz.func160, Tryz.ntmps160
  go_wp2
  go_ret2
  exact ⟨rfl, rfl⟩

theorem Mul64_any (x y : Int) (w : World) (hx0 : 0 ≤ x) (hx : x < 18446744073709551616) (hy0 : 0 ≤ y) (hy : y < 18446744073709551616) :
    Calls Tryz.prog 160 #[.int .u64 x, .int .u64 y] w fun e w' => ∃ h l, e = .returned (.tuple #[.int .u64 h, .int .u64 l]) ∧ W2 (x * y) h l ∧ w = w' :=
  (Mul64_raw x y w).mono fun _ _ ⟨he, hw⟩ => ⟨_, _, he, hiOf_W2 x y hx0 hx hy0 hy, hw⟩

theorem Add64_run (x y c : Int) (hx : 0 ≤ x) (hy : 0 ≤ y) (hc0 : 0 ≤ c) (hc : c ≤ 1) (w : World) :
    (callFunc 161 #[.int .u64 x, .int .u64 y, .int .u64 c]).run Tryz.prog w =
      .ok (.value (.tuple #[.int .u64 ((x + y + c) % 18446744073709551616), .int .u64 ((x + y + c) / 18446744073709551616)])) w := by
  rw [run_callFunc_extern Tryz.func161 (by kernel_rfl) (by kernel_rfl) (by kernel_rfl) (e := add64Entry) (by kernel_rfl), run_add64 x y c hx hy hc0 hc]
  rfl

end Go.Proofs.YtodhdajelnfhpaaGreat
