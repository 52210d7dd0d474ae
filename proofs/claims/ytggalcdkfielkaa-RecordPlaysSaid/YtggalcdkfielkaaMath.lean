/-
  PURE: the field modulo 2^255 - 19 as 'Fin P', and five limbs of 51 bits as a number of it. No program in sight.
-/
import Derived.WalkKit
namespace Go.Proofs.Ytggalcdkfielkaa

abbrev P : Nat := 57896044618658097711785492504343953926634992332820282019728792003956564819949
abbrev F := Fin P

/-- An integer as a number of the field. -/
def toF (n : Int) : F := ⟨(n % 57896044618658097711785492504343953926634992332820282019728792003956564819949).toNat, by
  show _ < 57896044618658097711785492504343953926634992332820282019728792003956564819949
  omega⟩

theorem F.ext' {x y : F} (h : ((x.val : Nat) : Int) = ((y.val : Nat) : Int)) : x = y := Fin.ext (by omega)

/-- The number of five limbs of 51 bits. -/
def S5 (a0 a1 a2 a3 a4 : Int) : Int := a0 + 2251799813685248 * a1 + 5070602400912917605986812821504 * a2 + 11417981541647679048466287755595961091061972992 * a3 + 25711008708143844408671393477458601640355247900524685364822016 * a4

/-- Five limbs, each of at most 52 bits, of a number of the field. -/
structure El (x : F) (a0 a1 a2 a3 a4 : Int) : Prop where
  l0 : 0 ≤ a0
  h0 : a0 < 4503599627370496
  l1 : 0 ≤ a1
  h1 : a1 < 4503599627370496
  l2 : 0 ≤ a2
  h2 : a2 < 4503599627370496
  l3 : 0 ≤ a3
  h3 : a3 < 4503599627370496
  l4 : 0 ≤ a4
  h4 : a4 < 4503599627370496
  num : toF (S5 a0 a1 a2 a3 a4) = x

theorem wrap64u (n : Int) : IntKind.u64.wrap n = n % 18446744073709551616 := IntKind.wrap_u64 n

/-- The limbs behind 'carried'. -/
def c0 (a0 a4 : Int) : Int := IntKind.u64.wrap (bits .and .u64 a0 2251799813685247 + IntKind.u64.wrap (a4 / 2251799813685248 * 19))
def c1 (a1 a0 : Int) : Int := IntKind.u64.wrap (bits .and .u64 a1 2251799813685247 + a0 / 2251799813685248)

end Go.Proofs.Ytggalcdkfielkaa
