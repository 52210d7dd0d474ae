/-
  What a law begins with: bytes, filled up, as a number of the field.
-/
import Derived.Test.YtikjcikedbcfmaaCopy
import Derived.Test.YtikjcikedbcfmaaParse
import Derived.Test.YtikjcikedbcfmaaInvV
namespace Go.Proofs.Ytikjcikedbcfmaa
open Go.RowKit
set_option maxRecDepth 100000

/-- The number of 32 bytes, without the highest bit. -/
def numL (zs : List Nat) : F := toF ((lowN zs 0 32 % 57896044618658097711785492504343953926634992332820282019728792003956564819968 : Nat) : Int)
/-- The number of bytes, filled up. -/
def num2 (xs : List Nat) : F := numL (padTo 32 xs)

theorem two_n {A : Option Addr} {c n : Nat} {xs : List Nat} (hn : xs.length = n) (w : World) (ha : Bs w A c xs) :
    Calls Try.prog 11 #[.slice A n c] w fun e w' => ∃ g : Nat, e = .returned (.slice (some ⟨g, 0, none⟩) 32 32) ∧ w.heap.size ≤ g ∧ Blk w' g (u8s (padTo 32 xs)).toArray 5 ∧ Below w.heap.size w w' := by
  subst hn; exact two_any w ha

theorem Parse_blk {g : Nat} {zs : List Nat} (w : World) (h : Blk w g (u8s zs).toArray 5) (h8 : ∀ z ∈ zs, z < 256) (hl : zs.length = 32) :
    Calls Try.prog 6 #[.slice (some ⟨g, 0, none⟩) 32 32] w fun e w' =>
      ∃ r0 r1 r2 r3 r4 : Int, e = .returned (.tuple #[.agg #[.int .u64 r0, .int .u64 r1, .int .u64 r2, .int .u64 r3, .int .u64 r4], .int .i64 0]) ∧ El (numL zs) r0 r1 r2 r3 r4 ∧ Below w.heap.size w w' := by
  have hb := Bs_of_Blk h h8 (by omega)
  have H := Parse_any w hb hl
  rw [hl] at H
  exact H

theorem Parse_two {g : Nat} {xs : List Nat} (w : World) (h : Blk w g (u8s (padTo 32 xs)).toArray 5) (h8 : ∀ z ∈ xs, z < 256) :
    Calls Try.prog 6 #[.slice (some ⟨g, 0, none⟩) 32 32] w fun e w' =>
      ∃ r0 r1 r2 r3 r4 : Int, e = .returned (.tuple #[.agg #[.int .u64 r0, .int .u64 r1, .int .u64 r2, .int .u64 r3, .int .u64 r4], .int .i64 0]) ∧ El (num2 xs) r0 r1 r2 r3 r4 ∧ Below w.heap.size w w' :=
  Parse_blk w h (padTo_lt h8) (padTo_length 32 xs)

end Go.Proofs.Ytikjcikedbcfmaa
