/-
 Row · Math · Bits64, IN ONE TEXT.
-/
import Derived.Test.YtkhbihnnkflfkaaGreatBase
import Derived.WalkKit
import Derived.Lib.Mul64
/-
 From the rows that a law's frame hands over to bytes.
-/
namespace Go.Proofs.YtkhbihnnkflfkaaGreat
open Go.RowKit
set_option maxRecDepth 100000
set_option linter.unusedVariables false
set_option linter.unusedSimpArgs false

theorem wf_u8 {n : Int} (h : (Lit.int .u8 n).wf = true) : 0 ≤ n ∧ n < 256 := by
 have := bounds_u8 h
 omega

theorem Bs_row {w : World} {a : Option Addr} {len cap : Nat} {zs : List Int}
  (h : (a = none ∧ len = 0 ∧ cap = 0 ∧ zs = []) ∨ ∃ x : Addr, a = some x ∧ len ≤ cap ∧ cap ≤ maxLen ∧ zs.length = cap ∧ (∀ i, i < zs.length → w.cell? (x.add i) = some (.int .u8 (zs.getD i 0))) ∧ ∀ n ∈ zs, (Lit.int .u8 n).wf = true) :
  ∃ xs : List Nat, xs.length = len ∧ Bs w a cap xs := by
 rcases h with ⟨rfl, rfl, rfl, _⟩ | ⟨x, rfl, hl, hm, hz, hc, hw⟩
 ·exact ⟨[], rfl, Bs.nil w⟩
 ·refine ⟨(zs.take len).map Int.toNat, by simp; omega, ⟨by simp; omega, hm, ?_, ?_⟩⟩
  ·intro y hy
   obtain ⟨n, hn, rfl⟩ := List.mem_map.1 hy
   have := wf_u8 (hw n (List.mem_of_mem_take hn))
   omega
  ·by_cases h0 : len = 0
   ·left; subst h0; rfl
   ·right
    have hb : x.spot = none := by
     have h1 := hc 0 (by omega)
     simp only [Addr.add, if_pos] at h1
     unfold World.cell? at h1
     cases hs : x.spot with
     | none => rfl
     | some s =>
      rw [hs] at h1
      split at h1 <;> simp at h1
    obtain ⟨b, off, sp⟩ := x
    simp only at hb
    subst hb
    refine ⟨b, off, rfl, fun i hi => ?_⟩
    have hi' : i < zs.length := by simp at hi; omega
    have h1 := hc i hi'
    have e : (⟨b, off, none⟩ : Addr).add i = ⟨b, off + i, none⟩ := by
     unfold Addr.add
     by_cases h2 : i = 0
     ·subst h2; rfl
     ·rw [if_neg h2]
    rw [e] at h1
    rw [h1]
    have hg : zs.getD i 0 = zs[i] := by simp [hi']
    have hw' := wf_u8 (hw zs[i] (List.getElem_mem hi'))
    have hl' : i < len := by simp at hi; omega
    have e2 : ((List.map Int.toNat (List.take len zs)).getD i 0 : Nat) = zs[i].toNat := by
     simp [hl', hi']
    rw [e2, hg]
    congr 2
    omega
end Go.Proofs.YtkhbihnnkflfkaaGreat
/-
 PURE: the field modulo 2^255 - 19 as 'Fin P', and five limbs of 51 bits as a number of it. No program in sight.
-/
namespace Go.Proofs.YtkhbihnnkflfkaaGreat

abbrev P : Nat := 57896044618658097711785492504343953926634992332820282019728792003956564819949
abbrev F := Fin P

def toF (n : Int) : F := ⟨(n % 57896044618658097711785492504343953926634992332820282019728792003956564819949).toNat, by
 show _ < 57896044618658097711785492504343953926634992332820282019728792003956564819949
 omega⟩

theorem toF_val (n : Int) : (((toF n).val : Nat) : Int) = n % 57896044618658097711785492504343953926634992332820282019728792003956564819949 := by
 show (((n % 57896044618658097711785492504343953926634992332820282019728792003956564819949).toNat : Nat) : Int) = _
 omega

theorem F.ext' {x y : F} (h : ((x.val : Nat) : Int) = ((y.val : Nat) : Int)) : x = y := Fin.ext (by omega)

theorem toF_add (a b : Int) : toF (a + b) = toF a + toF b := by
 apply F.ext'
 rw [Fin.val_add, Int.natCast_emod, Int.natCast_add, toF_val, toF_val, toF_val]
 exact Int.add_emod a b 57896044618658097711785492504343953926634992332820282019728792003956564819949

theorem toF_mul (a b : Int) : toF (a * b) = toF a * toF b := by
 apply F.ext'
 rw [Fin.val_mul, Int.natCast_emod, Int.natCast_mul, toF_val, toF_val, toF_val]
 exact Int.mul_emod a b 57896044618658097711785492504343953926634992332820282019728792003956564819949

theorem toF_add_P (a k : Int) : toF (a + 57896044618658097711785492504343953926634992332820282019728792003956564819949 * k) = toF a := by
 apply F.ext'
 rw [toF_val, toF_val, Int.add_mul_emod_self_left]

theorem toF_congr {a b : Int} (k : Int) (h : a = b + 57896044618658097711785492504343953926634992332820282019728792003956564819949 * k) : toF a = toF b := by
 rw [h, toF_add_P]

theorem toF_zero : toF 0 = 0 := rfl
theorem toF_one : toF 1 = 1 := by decide +kernel

theorem F.sub_of_add {x y z : F} (h : z + y = x) : z = x - y := by
 rw [← h]; grind

theorem toF_sub (a b : Int) : toF (a - b) = toF a - toF b := by
 apply F.sub_of_add
 rw [← toF_add, Int.sub_add_cancel]

theorem toF_val_self (x : F) : toF (x.val : Nat) = x := by
 apply F.ext'
 rw [toF_val]
 have := x.isLt
 show _ = ((x.val : Nat) : Int)
 simp only [P] at this
 omega

def S5 (a0 a1 a2 a3 a4 : Int) : Int := a0 + 2251799813685248 * a1 + 5070602400912917605986812821504 * a2 + 11417981541647679048466287755595961091061972992 * a3 + 25711008708143844408671393477458601640355247900524685364822016 * a4

structure El (x : F) (a0 a1 a2 a3 a4 : Int) : Prop where
 l0 : 0 ≤ a0
 h0 : a0 < 4503599627370496
 l1 : 0 ≤ a1
 h1 : a1 < 4503599627370496
 l2 : 0 ≤ a2
 h2 : a2 < 4503599627370496
 l3 : 0 ≤ a3
 h3 : a3 < 4503599627370496
 l4 : 0 ≤ a4
 h4 : a4 < 4503599627370496
 num : toF (S5 a0 a1 a2 a3 a4) = x

theorem and51 (a : Int) (h0 : 0 ≤ a) (h1 : a < 18446744073709551616) : bits .and .u64 a 2251799813685247 = a % 2251799813685248 := by
 rw [u64_and a _ h0 h1 (by omega) (by omega)]
 show ((a.toNat &&& 2251799813685247 : Nat) : Int) = _
 rw [nat_mask51]
 omega

theorem wrap64u (n : Int) : IntKind.u64.wrap n = n % 18446744073709551616 := IntKind.wrap_u64 n

def c0 (a0 a4 : Int) : Int := IntKind.u64.wrap (bits .and .u64 a0 2251799813685247 + IntKind.u64.wrap (a4 / 2251799813685248 * 19))
def c1 (a1 a0 : Int) : Int := IntKind.u64.wrap (bits .and .u64 a1 2251799813685247 + a0 / 2251799813685248)

theorem carried_El (a0 a1 a2 a3 a4 : Int) (l0 : 0 ≤ a0) (h0 : a0 < 18446744073709551616) (l1 : 0 ≤ a1) (h1 : a1 < 18446744073709551616)
  (l2 : 0 ≤ a2) (h2 : a2 < 18446744073709551616) (l3 : 0 ≤ a3) (h3 : a3 < 18446744073709551616) (l4 : 0 ≤ a4) (h4 : a4 < 18446744073709551616) :
  El (toF (S5 a0 a1 a2 a3 a4)) (c0 a0 a4) (c1 a1 a0) (c1 a2 a1) (c1 a3 a2) (c1 a4 a3) := by
 have e0 : c0 a0 a4 = a0 % 2251799813685248 + a4 / 2251799813685248 * 19 := by
  unfold c0; rw [and51 a0 l0 h0, wrap64u, wrap64u]; omega
 have ec : ∀ x y : Int, 0 ≤ x → x < 18446744073709551616 → 0 ≤ y → y < 18446744073709551616 → c1 x y = x % 2251799813685248 + y / 2251799813685248 := by
  intro x y a b c d
  unfold c1; rw [and51 x a b, wrap64u]; omega
 rw [e0, ec a1 a0 l1 h1 l0 h0, ec a2 a1 l2 h2 l1 h1, ec a3 a2 l3 h3 l2 h2, ec a4 a3 l4 h4 l3 h3]
 refine ⟨by omega, by omega, by omega, by omega, by omega, by omega, by omega, by omega, by omega, by omega, ?_⟩
 refine toF_congr (- (a4 / 2251799813685248)) ?_
 unfold S5
 omega

theorem S5_mul (a0 a1 a2 a3 a4 b0 b1 b2 b3 b4 : Int) :
  toF (S5 (a0 * b0 + a1 * 19 * b4 + a2 * 19 * b3 + a3 * 19 * b2 + a4 * 19 * b1) (a0 * b1 + a1 * b0 + a2 * 19 * b4 + a3 * 19 * b3 + a4 * 19 * b2)
   (a0 * b2 + a1 * b1 + a2 * b0 + a3 * 19 * b4 + a4 * 19 * b3) (a0 * b3 + a1 * b2 + a2 * b1 + a3 * b0 + a4 * 19 * b4) (a0 * b4 + a1 * b3 + a2 * b2 + a3 * b1 + a4 * b0))
   = toF (S5 a0 a1 a2 a3 a4) * toF (S5 b0 b1 b2 b3 b4) := by
 rw [← toF_mul]
 refine toF_congr (- ((a1 * b4 + a2 * b3 + a3 * b2 + a4 * b1) + 2251799813685248 * (a2 * b4 + a3 * b3 + a4 * b2) + 5070602400912917605986812821504 * (a3 * b4 + a4 * b3) + 11417981541647679048466287755595961091061972992 * (a4 * b4))) ?_
 unfold S5
 grind

end Go.Proofs.YtkhbihnnkflfkaaGreat
/-
 WALKS: math/bits.Mul64, Add64.
-/
namespace Go.Proofs.YtkhbihnnkflfkaaGreat
open Go.RowKit
set_option maxRecDepth 100000

structure W2 (n : Int) (h l : Int) : Prop where
 h0 : 0 ≤ h
 h1 : h < 18446744073709551616
 l0 : 0 ≤ l
 l1 : l < 18446744073709551616
 num : 18446744073709551616 * h + l = n

def hiOf (x y : Int) : Int :=
 IntKind.u64.wrap (IntKind.u64.wrap (IntKind.u64.wrap (x / 4294967296 * (y / 4294967296)) +
  IntKind.u64.wrap (IntKind.u64.wrap (x / 4294967296 * bits BinOp.and IntKind.u64 y 4294967295) + IntKind.u64.wrap (bits BinOp.and IntKind.u64 x 4294967295 * bits BinOp.and IntKind.u64 y 4294967295) / 4294967296) / 4294967296) +
  IntKind.u64.wrap (bits BinOp.and IntKind.u64 (IntKind.u64.wrap (IntKind.u64.wrap (x / 4294967296 * bits BinOp.and IntKind.u64 y 4294967295) + IntKind.u64.wrap (bits BinOp.and IntKind.u64 x 4294967295 * bits BinOp.and IntKind.u64 y 4294967295) / 4294967296)) 4294967295 +
   IntKind.u64.wrap (bits BinOp.and IntKind.u64 x 4294967295 * (y / 4294967296))) / 4294967296)

theorem and32 (a : Int) (h0 : 0 ≤ a) (h1 : a < 18446744073709551616) : bits .and .u64 a 4294967295 = a % 4294967296 := by
 rw [u64_and a _ h0 h1 (by omega) (by omega)]
 show ((a.toNat &&& 4294967295 : Nat) : Int) = _
 rw [nat_mask32]
 omega

theorem wrap_id (n : Int) (h0 : 0 ≤ n) (h1 : n < 18446744073709551616) : IntKind.u64.wrap n = n := by rw [wrap64u]; omega

theorem hiOf_W2 (x y : Int) (hx0 : 0 ≤ x) (hx : x < 18446744073709551616) (hy0 : 0 ≤ y) (hy : y < 18446744073709551616) :
  W2 (x * y) (hiOf x y) (IntKind.u64.wrap (x * y)) := by
 obtain ⟨X, rfl⟩ := Int.eq_ofNat_of_zero_le hx0
 obtain ⟨Y, rfl⟩ := Int.eq_ofNat_of_zero_le hy0
 obtain ⟨m1, m2, m3, m4⟩ := Go.Lib.mul64_hi X Y (by omega) (by omega)
 have ex : ((X : Int) / 4294967296) = ((X / 4294967296 : Nat) : Int) := by omega
 have ey : ((Y : Int) / 4294967296) = ((Y / 4294967296 : Nat) : Int) := by omega
 have rx : ((X : Int) % 4294967296) = ((X % 4294967296 : Nat) : Int) := by omega
 have ry : ((Y : Int) % 4294967296) = ((Y % 4294967296 : Nat) : Int) := by omega
 have eh : hiOf X Y = ((X * Y / 18446744073709551616 : Nat) : Int) := by
  rw [← m4]
  unfold hiOf
  rw [and32 X hx0 hx, and32 Y hy0 hy, ex, ey, rx, ry]
  simp only [← Int.natCast_mul]
  have ha := Go.Lib.half_mul_le (a := X / 4294967296) (b := Y / 4294967296) (by omega) (by omega)
  have hb := Go.Lib.half_mul_le (a := X / 4294967296) (b := Y % 4294967296) (by omega) (by omega)
  have hc := Go.Lib.half_mul_le (a := X % 4294967296) (b := Y / 4294967296) (by omega) (by omega)
  have hd := Go.Lib.half_mul_le (a := X % 4294967296) (b := Y % 4294967296) (by omega) (by omega)
  have hm4 : X * Y / 18446744073709551616 < 18446744073709551616 := by
   have : X * Y ≤ 18446744073709551615 * 18446744073709551615 := Nat.mul_le_mul (by omega) (by omega)
   omega
  rw [← m4] at hm4
  generalize (X / 4294967296) * (Y / 4294967296) = a at *
  generalize (X / 4294967296) * (Y % 4294967296) = b at *
  generalize (X % 4294967296) * (Y / 4294967296) = c at *
  generalize (X % 4294967296) * (Y % 4294967296) = d at *
  clear ex ey rx ry
  rw [wrap_id d (by omega) (by omega), wrap_id b (by omega) (by omega), wrap_id ((b : Int) + (d : Int) / 4294967296) (by omega) (by omega), and32 _ (by omega) (by omega), wrap_id a (by omega) (by omega), wrap_id c (by omega) (by omega)]
  rw [wrap_id ((a : Int) + _) (by omega) (by omega), wrap_id (((b : Int) + (d : Int) / 4294967296) % 4294967296 + (c : Int)) (by omega) (by omega)]
  rw [wrap_id _ (by omega) (by omega)]
  omega
 have hb : X * Y ≤ 18446744073709551615 * 18446744073709551615 := Nat.mul_le_mul (by omega) (by omega)
 rw [eh, wrap64u, ← Int.natCast_mul]
 generalize X * Y = Z at *
 exact ⟨by omega, by omega, by omega, by omega, by omega⟩

set_option maxHeartbeats 1000000 in
theorem Mul64_raw (x y : Int) (w : World) :
  Calls Tryz.prog 142 #[.int .u64 x, .int .u64 y] w fun e w' => e = .returned (.tuple #[.int .u64 (hiOf x y), .int .u64 (IntKind.u64.wrap (x * y))]) ∧ w = w' := by
 go_enter Tryz.func142, Tryz.ntmps142
 go_wp2
 go_ret2
 exact ⟨rfl, rfl⟩

theorem Mul64_any (x y : Int) (w : World) (hx0 : 0 ≤ x) (hx : x < 18446744073709551616) (hy0 : 0 ≤ y) (hy : y < 18446744073709551616) :
  Calls Tryz.prog 142 #[.int .u64 x, .int .u64 y] w fun e w' => ∃ h l, e = .returned (.tuple #[.int .u64 h, .int .u64 l]) ∧ W2 (x * y) h l ∧ w = w' :=
 (Mul64_raw x y w).mono fun _ _ ⟨he, hw⟩ => ⟨_, _, he, hiOf_W2 x y hx0 hx hy0 hy, hw⟩

theorem Add64_run (x y c : Int) (hx : 0 ≤ x) (hy : 0 ≤ y) (hc0 : 0 ≤ c) (hc : c ≤ 1) (w : World) :
  (callFunc 143 #[.int .u64 x, .int .u64 y, .int .u64 c]).run Tryz.prog w =
   .ok (.value (.tuple #[.int .u64 ((x + y + c) % 18446744073709551616), .int .u64 ((x + y + c) / 18446744073709551616)])) w := by
 rw [run_callFunc_extern Tryz.func143 (by kernel_rfl) (by kernel_rfl) (by kernel_rfl) (e := add64Entry) (by kernel_rfl), run_add64 x y c hx hy hc0 hc]
 rfl

end Go.Proofs.YtkhbihnnkflfkaaGreat
