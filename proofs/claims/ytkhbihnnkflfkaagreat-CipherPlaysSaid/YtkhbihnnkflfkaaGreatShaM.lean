/-
 Sha · Take, IN ONE TEXT.
-/
import Derived.Test.YtkhbihnnkflfkaaGreatEz
import Derived.Test.YtkhbihnnkflfkaaGreatDrawnA
import Derived.Test.YtkhbihnnkflfkaaGreatRot
import Derived.Test.YtkhbihnnkflfkaaGreatPut
/-
 WALKS: words turned; sha: blocks.
-/
namespace Go.Proofs.YtkhbihnnkflfkaaGreat
open Go.RowKit
set_option maxHeartbeats 8000000
set_option linter.unusedVariables false
set_option linter.unusedSimpArgs false
set_option maxRecDepth 100000
attribute [local irreducible] wpList wpListIn putsR

variable {a b c0 k n q : Nat} {bs xs : List Nat} {A0 : Option Addr}
def rotr (x k : Nat) : Nat := rotl x (32 - k)
theorem rotr_lt (x k : Nat) (hx : x < 4294967296) : rotr x k < 4294967296 := rotl_lt x _ hx
theorem at64_neg (h0 : 0 < k) (hk : k < 32) : at64 (-((k : Nat) : Int)) = 18446744073709551616 - k := by
 unfold at64
 rw [IntKind.wrap_u64]
 omega
theorem and31 (h0 : 0 < k) (hk : k < 32) : (18446744073709551616 - k) &&& 31 = 32 - k := by
 rw [show (31 : Nat) = 2 ^ 5 - 1 from rfl, Nat.and_two_pow_sub_one_eq_mod]
 omega
def rev32 (x : Nat) : Nat :=
 let y := (x / 2 ^ 8 &&& 16711935) ||| (x &&& 16711935) * 2 ^ 8 % 4294967296
 y / 2 ^ 16 ||| y * 2 ^ 16 % 4294967296
theorem and_lt32 (h : a < 4294967296) : a &&& b < 4294967296 := Nat.lt_of_le_of_lt Nat.and_le_left h
theorem or_lt32 (h : a < 4294967296) (h2 : b < 4294967296) : a ||| b < 4294967296 := Nat.or_lt_two_pow (n := 32) h h2
theorem xor_lt32 (h : a < 4294967296) (h2 : b < 4294967296) : a ^^^ b < 4294967296 := Nat.xor_lt_two_pow (n := 32) h h2
theorem and_lt64 (h : a < 18446744073709551616) : a &&& b < 18446744073709551616 := Nat.lt_of_le_of_lt Nat.and_le_left h
theorem or_lt64 (h : a < 18446744073709551616) (h2 : b < 18446744073709551616) : a ||| b < 18446744073709551616 := Nat.or_lt_two_pow (n := 64) h h2
theorem rev32_lt (x : Nat) (hx : x < 4294967296) : rev32 x < 4294967296 := by
 unfold rev32
 exact or_lt32 (by have h := or_lt32 (and_lt32 (b := 16711935) (show x / 2 ^ 8 < 4294967296 by omega)) (Nat.mod_lt ((x &&& 16711935) * 2 ^ 8) (show 0 < 4294967296 by omega)); omega) (Nat.mod_lt _ (by omega))
def rev64 (x : Nat) : Nat :=
 let y := (x / 2 ^ 8 &&& 71777214294589695) ||| (x &&& 71777214294589695) * 2 ^ 8 % 18446744073709551616
 let z := (y / 2 ^ 16 &&& 281470681808895) ||| (y &&& 281470681808895) * 2 ^ 16 % 18446744073709551616
 z / 2 ^ 32 ||| z * 2 ^ 32 % 18446744073709551616
theorem rev64_lt (x : Nat) (hx : x < 18446744073709551616) : rev64 x < 18446744073709551616 := by
 unfold rev64
 have h := or_lt64 (and_lt64 (b := 71777214294589695) (show x / 2 ^ 8 < 18446744073709551616 by omega)) (Nat.mod_lt ((x &&& 71777214294589695) * 2 ^ 8) (show 0 < 18446744073709551616 by omega))
 generalize (x / 2 ^ 8 &&& 71777214294589695) ||| (x &&& 71777214294589695) * 2 ^ 8 % 18446744073709551616 = y at h
 have h2 := or_lt64 (and_lt64 (b := 281470681808895) (show y / 2 ^ 16 < 18446744073709551616 by omega)) (Nat.mod_lt ((y &&& 281470681808895) * 2 ^ 16) (show 0 < 18446744073709551616 by omega))
 dsimp only
 generalize (y / 2 ^ 16 &&& 281470681808895) ||| (y &&& 281470681808895) * 2 ^ 16 % 18446744073709551616 = z at h2
 exact or_lt64 (by omega) (Nat.mod_lt _ (by omega))
theorem RotR_any (x k : Nat) (w : World) (hx : x < 4294967296) (h0 : 0 < k) (hk : k < 32) :
  Calls Tryz.prog 152 #[.int .u32 ((x : Nat) : Int), .int .i64 (-((k : Nat) : Int))] w fun e w' => e = .returned (.int .u32 ((rotr x k : Nat) : Int)) ∧ w = w' := by
 refine x_enter 17 Tryz.func152 rfl rfl (fun a hs hd ha0 => ?_)
 have t0 := tA 0 ha0
 have t1 := tA 1 ha0
 clear ha0
 iterate 2 refine e1 ?_
 refine q_as (.int .u32 ((0 : Nat) : Int)) rfl ?_
 iterate 4 refine e1 ?_
 refine q_v 7 (.int .u64 ((18446744073709551616 - k : Nat) : Int)) (o_eq (o_convZ rfl ev ⟨.int .i64, fun _ => by kernel_rfl⟩ (fun _ => by kernel_rfl)) (by rw [at64_neg h0 hk])) ?_
 refine q_v 8 (.int .u64 ((32 - k : Nat) : Int)) (o_eq (o_bits (m := (18446744073709551616 - k)) (n := 31) ((18446744073709551616 - k) &&& 31) rfl ev rfl (by decide) (u64_and_nat _ _ (by omega) (by omega))) (by rw [and31 h0 hk])) ?_
 iterate 6 refine e1 ?_
 refine q_w (o_shl (x * 2 ^ (32 - k) % 4294967296) rfl ev ev (by simp [IntKind.bits]) (by rw [IntKind.wrap_u32']; simp)) ?_
 iterate 2 refine e1 ?_
 refine q_w (o_subU (m := 32) (32 - (32 - k)) rfl rfl ev (by rw [IntKind.wrap_u64]; omega)) ?_
 refine q_w (o_shr rfl ev ev (by simp [IntKind.bits])) ?_
 refine q_w (o_bits ((x * 2 ^ (32 - k) % 4294967296) ||| (x / 2 ^ (32 - (32 - k)))) rfl ev ev (by decide) (u32_or_nat _ _ (Nat.mod_lt _ (by omega)) (Nat.lt_of_le_of_lt (Nat.div_le_self _ _) hx))) ?_
 refine q_v 4 (.int .u32 ((rotr x k : Nat) : Int)) (o_eq (o_assign rfl ev) rfl) ?_
 iterate 3 refine e1 ?_
 exact ⟨rfl, rfl⟩
theorem Right_any (x k : Nat) (w : World) (hx : x < 4294967296) (h0 : 0 < k) (hk : k < 32) :
  Calls Tryz.prog 155 #[.int .u32 ((x : Nat) : Int), .int .i64 ((k : Nat) : Int)] w fun e w' => e = .returned (.int .u32 ((rotr x k : Nat) : Int)) ∧ w = w' := by
 refine x_enter 10 Tryz.func155 rfl rfl (fun a hs hd ha0 => ?_)
 have t0 := tA 0 ha0
 have t1 := tA 1 ha0
 clear ha0
 iterate 2 refine e1 ?_
 refine q_as (.int .u32 ((0 : Nat) : Int)) rfl ?_
 iterate 5 refine e1 ?_
 refine q_v 7 (.int .i64 ((k : Nat) : Int)) (o_eq (o_rem (m := k) (n := 32) rfl ev rfl (by omega) (IntWalk.i64_in _ (by omega))) (by rw [Nat.mod_eq_of_lt hk])) ?_
 refine q_v 8 (.int .i64 (-((k : Nat) : Int))) (o_neg (m := k) rfl ev (by omega)) ?_
 refine e1 ?_
 refine k_c Tryz.func152 (RotR_any _ _ _ hx h0 hk) ?_
 rintro e_1 w_1 ⟨rfl, rfl⟩
 refine ⟨_, rfl, ?_⟩
 iterate 4 refine e1 ?_
 exact ⟨rfl, rfl⟩
def threeN (x a b c : Nat) : Nat := (rotr x a ^^^ rotr x b) ^^^ rotr x c
def shiftN (x a b c : Nat) : Nat := (rotr x a ^^^ rotr x b) ^^^ x / 2 ^ c
theorem three_any (x ka kb kc : Nat) (w : World) (hx : x < 4294967296) (hka0 : 0 < ka) (hka1 : ka < 32) (hkb0 : 0 < kb) (hkb1 : kb < 32) (hkc0 : 0 < kc) (hkc1 : kc < 32) :
  Calls Tryz.prog 148 #[.int .u32 ((x : Nat) : Int), .int .i64 ((ka : Nat) : Int), .int .i64 ((kb : Nat) : Int), .int .i64 ((kc : Nat) : Int)] w fun e w' => e = .returned (.int .u32 ((threeN x ka kb kc : Nat) : Int)) ∧ Below w.heap.size w w' := by
 refine x_enter 20 Tryz.func148 rfl rfl (fun a hs hd ha0 => ?_)
 have t0 := tA 0 ha0
 have t1 := tA 1 ha0
 have t2 := tA 2 ha0
 have t3 := tA 3 ha0
 clear ha0
 iterate 2 refine e1 ?_
 refine q_as (.int .u32 ((0 : Nat) : Int)) rfl ?_
 iterate 6 refine e1 ?_
 refine k_c Tryz.func155 (Right_any x ka _ hx hka0 hka1) ?_
 rintro e_1 w_1 ⟨rfl, rfl⟩
 refine ⟨_, rfl, ?_⟩
 iterate 3 refine e1 ?_
 refine k_c Tryz.func155 (Right_any x kb _ hx hkb0 hkb1) ?_
 rintro e_2 w_2 ⟨rfl, rfl⟩
 refine ⟨_, rfl, ?_⟩
 refine q_w (o_bits ((rotr x ka) ^^^ (rotr x kb)) rfl ev ev (by decide) (u32_xor_nat _ _ (rotr_lt _ _ hx) (rotr_lt _ _ hx))) ?_
 iterate 3 refine e1 ?_
 refine k_c Tryz.func155 (Right_any x kc _ hx hkc0 hkc1) ?_
 rintro e_3 w_3 ⟨rfl, rfl⟩
 refine ⟨_, rfl, ?_⟩
 refine q_w (o_bits (((rotr x ka) ^^^ (rotr x kb)) ^^^ (rotr x kc)) rfl ev ev (by decide) (u32_xor_nat _ _ (xor_lt32 (rotr_lt _ _ hx) (rotr_lt _ _ hx)) (rotr_lt _ _ hx))) ?_
 iterate 4 refine e1 ?_
 exact ⟨rfl, Below.refl _ _⟩
theorem shifted_any (x ka kb kc : Nat) (w : World) (hx : x < 4294967296) (hka0 : 0 < ka) (hka1 : ka < 32) (hkb0 : 0 < kb) (hkb1 : kb < 32) (hkc0 : 0 < kc) (hkc1 : kc < 32) :
  Calls Tryz.prog 154 #[.int .u32 ((x : Nat) : Int), .int .i64 ((ka : Nat) : Int), .int .i64 ((kb : Nat) : Int), .int .i64 ((kc : Nat) : Int)] w fun e w' => e = .returned (.int .u32 ((shiftN x ka kb kc : Nat) : Int)) ∧ Below w.heap.size w w' := by
 refine x_enter 20 Tryz.func154 rfl rfl (fun a hs hd ha0 => ?_)
 have t0 := tA 0 ha0
 have t1 := tA 1 ha0
 have t2 := tA 2 ha0
 have t3 := tA 3 ha0
 clear ha0
 iterate 2 refine e1 ?_
 refine q_as (.int .u32 ((0 : Nat) : Int)) rfl ?_
 iterate 2 refine e1 ?_
 refine y_drawn 10 [iI .u32 x, iI .i64 ka, iV (.int .u32 ((rotr x ka : Nat) : Int)), iI .u32 x, iI .i64 kb, iV (.int .u32 ((rotr x kb : Nat) : Int)), iV (.int .u32 (((rotr x ka) ^^^ (rotr x kb) : Nat) : Int)), iI .u32 x, iI .i64 kc, iV (.int .u32 ((x / 2 ^ kc : Nat) : Int))] [9, 10, 11, 12, 13, 14, 15, 16, 17, 18] hs hd ⟨sx, sx, (step_ok rfl fun a' w' hb' hO hD => oC (vs := #[.int .u32 ((x : Nat) : Int), .int .i64 ((ka : Nat) : Int)]) Tryz.func155 rfl (args2 ed ed) (Calls.mono (Right_any x ka _ hx hka0 hka1) (fun e w'' hR => by obtain ⟨rfl, rfl⟩ := hR; exact ⟨_, rfl, rfl, (Below.refl _ _)⟩))), sx, sx, (step_ok rfl fun a' w' hb' hO hD => oC (vs := #[.int .u32 ((x : Nat) : Int), .int .i64 ((kb : Nat) : Int)]) Tryz.func155 rfl (args2 ed ed) (Calls.mono (Right_any x kb _ hx hkb0 hkb1) (fun e w'' hR => by obtain ⟨rfl, rfl⟩ := hR; exact ⟨_, rfl, rfl, (Below.refl _ _)⟩))), (step_ok rfl fun a' w' hb' hO hD => oV (o_bits (m := (rotr x ka)) (n := (rotr x kb)) ((rotr x ka) ^^^ (rotr x kb)) rfl ed ed (by decide) (u32_xor_nat _ _ (rotr_lt _ _ hx) (rotr_lt _ _ hx))) rfl), sx, sx, (step_ok rfl fun a' w' hb' hO hD => oV (o_shr (m := x) (n := kc) rfl ed ed (by simp [IntKind.bits]; omega)) rfl), trivial⟩ (fun a_1 w_1 hs_1 hd_1 hb_3 hO_1 hV_1 => ?_)
 have ta_1_15 := fV 15 hV_1
 have ta_1_18 := fV 18 hV_1
 simp only [List.drop_succ_cons, List.drop_zero]
 refine q_w (o_bits (((rotr x ka) ^^^ (rotr x kb)) ^^^ (x / 2 ^ kc)) rfl ev ev (by decide) (u32_xor_nat _ _ (xor_lt32 (rotr_lt _ _ hx) (rotr_lt _ _ hx)) (Nat.lt_of_le_of_lt (Nat.div_le_self _ _) hx))) ?_
 iterate 4 refine e1 ?_
 exact ⟨rfl, hb_3⟩
theorem Rev32_any (x : Nat) (w : World) (hx : x < 4294967296) :
  Calls Tryz.prog 150 #[.int .u32 ((x : Nat) : Int)] w fun e w' => e = .returned (.int .u32 ((rev32 x : Nat) : Int)) ∧ w = w' := by
 refine x_enter 15 Tryz.func150 rfl rfl (fun a hs hd ha0 => ?_)
 have t0 := tA 0 ha0
 clear ha0
 iterate 2 refine e1 ?_
 refine q_as (.int .u32 ((0 : Nat) : Int)) rfl ?_
 iterate 4 refine e1 ?_
 refine q_w (o_shr (n := 8) rfl ev rfl (by decide)) ?_
 refine q_w (o_bits (n := 16711935) ((x / 2 ^ 8) &&& 16711935) rfl ev rfl (by decide) (u32_and_nat _ _ (show x / 2 ^ 8 < 4294967296 by omega) (by decide))) ?_
 refine e1 ?_
 refine q_w (o_bits (n := 16711935) (x &&& 16711935) rfl ev rfl (by decide) (u32_and_nat _ _ hx (by decide))) ?_
 refine q_w (o_shl (n := 8) ((x &&& 16711935) * 2 ^ 8 % 4294967296) rfl ev rfl (by decide) (by rw [IntKind.wrap_u32]; simp)) ?_
 refine q_w (o_bits (((x / 2 ^ 8) &&& 16711935) ||| ((x &&& 16711935) * 2 ^ 8 % 4294967296)) rfl ev ev (by decide) (u32_or_nat _ _ (and_lt32 (by omega)) (Nat.mod_lt _ (by omega)))) ?_
 refine e1 ?_
 refine x_nil ?_
 have hy := or_lt32 (and_lt32 (b := 16711935) (show x / 2 ^ 8 < 4294967296 by omega)) (Nat.mod_lt ((x &&& 16711935) * 2 ^ 8) (show 0 < 4294967296 by omega))
 obtain ⟨y, hyd⟩ : ∃ q, q = (x / 2 ^ 8 &&& 16711935) ||| (x &&& 16711935) * 2 ^ 8 % 4294967296 := ⟨_, rfl⟩
 rw [← hyd] at hy
 iterate 4 refine e1 ?_
 refine q_w (o_shr (n := 16) rfl ev rfl (by decide)) ?_
 refine e1 ?_
 refine q_w (o_shl (n := 16) ((((x / 2 ^ 8) &&& 16711935) ||| ((x &&& 16711935) * 2 ^ 8 % 4294967296)) * 2 ^ 16 % 4294967296) rfl ev rfl (by decide) (by rw [IntKind.wrap_u32]; simp)) ?_
 refine q_w (o_bits (((((x / 2 ^ 8) &&& 16711935) ||| ((x &&& 16711935) * 2 ^ 8 % 4294967296)) / 2 ^ 16) ||| ((((x / 2 ^ 8) &&& 16711935) ||| ((x &&& 16711935) * 2 ^ 8 % 4294967296)) * 2 ^ 16 % 4294967296)) rfl ev ev (by decide) (u32_or_nat _ _ (by rw [← hyd]; omega) (Nat.mod_lt _ (by omega)))) ?_
 refine q_v 2 (.int .u32 ((rev32 x : Nat) : Int)) (o_eq (o_assign rfl ev) rfl) ?_
 iterate 3 refine e1 ?_
 exact ⟨rfl, rfl⟩
theorem Rev64_any (x : Nat) (w : World) (hx : x < 18446744073709551616) :
  Calls Tryz.prog 149 #[.int .u64 ((x : Nat) : Int)] w fun e w' => e = .returned (.int .u64 ((rev64 x : Nat) : Int)) ∧ w = w' := by
 obtain ⟨y, hyd⟩ : ∃ q, q = (x / 2 ^ 8 &&& 71777214294589695) ||| (x &&& 71777214294589695) * 2 ^ 8 % 18446744073709551616 := ⟨_, rfl⟩
 have hy : y < 18446744073709551616 := by rw [hyd]; exact or_lt64 (and_lt64 (by omega)) (Nat.mod_lt _ (by omega))
 obtain ⟨z, hzd⟩ : ∃ q, q = (y / 2 ^ 16 &&& 281470681808895) ||| (y &&& 281470681808895) * 2 ^ 16 % 18446744073709551616 := ⟨_, rfl⟩
 have hz : z < 18446744073709551616 := by rw [hzd]; exact or_lt64 (and_lt64 (by omega)) (Nat.mod_lt _ (by omega))
 refine x_enter 22 Tryz.func149 rfl rfl (fun a hs hd ha0 => ?_)
 have t0 := tA 0 ha0
 clear ha0
 iterate 2 refine e1 ?_
 refine q_as (.int .u64 ((0 : Nat) : Int)) rfl ?_
 iterate 4 refine e1 ?_
 refine q_w (o_shr (n := 8) rfl ev rfl (by decide)) ?_
 refine q_w (o_bits (n := 71777214294589695) ((x / 2 ^ 8) &&& 71777214294589695) rfl ev rfl (by decide) (u64_and_nat _ _ (show x / 2 ^ 8 < 18446744073709551616 by omega) (by decide))) ?_
 refine e1 ?_
 refine q_w (o_bits (n := 71777214294589695) (x &&& 71777214294589695) rfl ev rfl (by decide) (u64_and_nat _ _ hx (by decide))) ?_
 refine q_w (o_shl (n := 8) ((x &&& 71777214294589695) * 2 ^ 8 % 18446744073709551616) rfl ev rfl (by decide) (by rw [IntKind.wrap_u64]; simp)) ?_
 refine q_w (o_bits (((x / 2 ^ 8) &&& 71777214294589695) ||| ((x &&& 71777214294589695) * 2 ^ 8 % 18446744073709551616)) rfl ev ev (by decide) (u64_or_nat _ _ (and_lt64 (by omega)) (Nat.mod_lt _ (by omega)))) ?_
 refine q_v 0 (.int .u64 ((y : Nat) : Int)) (o_eq (o_assign rfl ev) (by rw [hyd])) ?_
 iterate 4 refine e1 ?_
 refine q_w (o_shr (n := 16) rfl ev rfl (by decide)) ?_
 refine q_w (o_bits (n := 281470681808895) ((y / 2 ^ 16) &&& 281470681808895) rfl ev rfl (by decide) (u64_and_nat _ _ (show y / 2 ^ 16 < 18446744073709551616 by omega) (by decide))) ?_
 refine e1 ?_
 refine q_w (o_bits (n := 281470681808895) (y &&& 281470681808895) rfl ev rfl (by decide) (u64_and_nat _ _ hy (by decide))) ?_
 refine q_w (o_shl (n := 16) ((y &&& 281470681808895) * 2 ^ 16 % 18446744073709551616) rfl ev rfl (by decide) (by rw [IntKind.wrap_u64]; simp)) ?_
 refine q_w (o_bits (((y / 2 ^ 16) &&& 281470681808895) ||| ((y &&& 281470681808895) * 2 ^ 16 % 18446744073709551616)) rfl ev ev (by decide) (u64_or_nat _ _ (and_lt64 (by omega)) (Nat.mod_lt _ (by omega)))) ?_
 refine q_v 0 (.int .u64 ((z : Nat) : Int)) (o_eq (o_assign rfl ev) (by rw [hzd])) ?_
 iterate 4 refine e1 ?_
 refine q_w (o_shr (n := 32) rfl ev rfl (by decide)) ?_
 refine e1 ?_
 refine q_w (o_shl (n := 32) (z * 2 ^ 32 % 18446744073709551616) rfl ev rfl (by decide) (by rw [IntKind.wrap_u64]; simp)) ?_
 refine q_w (o_bits ((z / 2 ^ 32) ||| (z * 2 ^ 32 % 18446744073709551616)) rfl ev ev (by decide) (u64_or_nat _ _ (by omega) (Nat.mod_lt _ (by omega)))) ?_
 refine q_v 2 (.int .u64 ((rev64 x : Nat) : Int)) (o_eq (o_assign rfl ev) (by rw [hzd, hyd]; rfl)) ?_
 iterate 3 refine e1 ?_
 exact ⟨rfl, rfl⟩
theorem low32_lt (h : ∀ x ∈ xs, x < 256) (i : Nat) : lowN xs i 4 < 4294967296 := lowN_lt h i 4
theorem High32_any (i : Nat) (w : World) (h0 : Bs w A0 c0 bs) (hq : bs.length = q) (hi : i < 4611686018427387904) :
  Calls Tryz.prog 153 #[.slice A0 (q) (c0), .int .i64 ((i : Nat) : Int)] w fun e w' => e = .returned (.int .u32 ((rev32 (lowN bs i 4) : Nat) : Int)) ∧ w = w' := by
 refine x_enter 9 Tryz.func153 rfl rfl (fun a hs hd ha0 => ?_)
 have t0 := tA 0 ha0
 have t1 := tA 1 ha0
 clear ha0
 iterate 2 refine e1 ?_
 refine q_as (.int .u32 ((0 : Nat) : Int)) rfl ?_
 iterate 6 refine e1 ?_
 refine k_c Tryz.func144 (Low32_any _ h0 hq i (by omega)) ?_
 rintro e_1 w_1 ⟨rfl, rfl⟩
 refine ⟨_, rfl, ?_⟩
 refine e1 ?_
 refine k_c Tryz.func150 (Rev32_any (lowN bs i 4) _ (low32_lt h0.b8 _)) ?_
 rintro e_2 w_2 ⟨rfl, rfl⟩
 refine ⟨_, rfl, ?_⟩
 iterate 4 refine e1 ?_
 exact ⟨rfl, rfl⟩
theorem PutHigh32_any (x : Nat) (w : World) (hx : x < 4294967296) :
  Calls Tryz.prog 140 #[.int .u32 ((x : Nat) : Int)] w fun e w' => ∃ A c, e = .returned (.slice A 4 c) ∧ Own w' w.heap.size A c (putL (rev32 x) 4) ∧ Below w.heap.size w w' := by
 refine x_enter 6 Tryz.func140 rfl rfl (fun a hs hd ha0 => ?_)
 have t0 := tA 0 ha0
 clear ha0
 iterate 8 refine e1 ?_
 refine k_c Tryz.func150 (Rev32_any x _ hx) ?_
 rintro e_1 w_1 ⟨rfl, rfl⟩
 refine ⟨_, rfl, ?_⟩
 refine e1 ?_
 refine k_c Tryz.func129 (PutLow32_any (rev32 x) _ (rev32_lt _ hx)) ?_
 rintro e_2 w_2 ⟨A_1, c_1, rfl, ho_1, hb_2⟩
 refine ⟨_, rfl, ?_⟩
 iterate 4 refine e1 ?_
 exact ⟨_, _, rfl, ho_1, hb_2⟩
theorem PutHigh64_any (x : Nat) (w : World) (hx : x < 18446744073709551616) :
  Calls Tryz.prog 139 #[.int .u64 ((x : Nat) : Int)] w fun e w' => ∃ A c, e = .returned (.slice A 8 c) ∧ Own w' w.heap.size A c (putL (rev64 x) 8) ∧ Below w.heap.size w w' := by
 refine x_enter 6 Tryz.func139 rfl rfl (fun a hs hd ha0 => ?_)
 have t0 := tA 0 ha0
 clear ha0
 iterate 8 refine e1 ?_
 refine k_c Tryz.func149 (Rev64_any x _ hx) ?_
 rintro e_1 w_1 ⟨rfl, rfl⟩
 refine ⟨_, rfl, ?_⟩
 refine e1 ?_
 refine k_c Tryz.func62 (PutLow64_any (rev64 x) _ (rev64_lt _ hx)) ?_
 rintro e_2 w_2 ⟨A_1, c_1, rfl, ho_1, hb_2⟩
 refine ⟨_, rfl, ?_⟩
 iterate 4 refine e1 ?_
 exact ⟨_, _, rfl, ho_1, hb_2⟩
def beginS : List Nat := [1779033703, 3144134277, 1013904242, 2773480762, 1359893119, 2600822924, 528734635, 1541459225]
def tableS : List Nat := [1116352408, 1899447441, 3049323471, 3921009573, 961987163, 1508970993, 2453635748, 2870763221, 3624381080, 310598401, 607225278, 1426881987, 1925078388, 2162078206, 2614888103, 3248222580, 3835390401, 4022224774, 264347078, 604807628, 770255983, 1249150122, 1555081692, 1996064986, 2554220882, 2821834349, 2952996808, 3210313671, 3336571891, 3584528711, 113926993, 338241895, 666307205, 773529912, 1294757372, 1396182291, 1695183700, 1986661051, 2177026350, 2456956037, 2730485921, 2820302411, 3259730800, 3345764771, 3516065817, 3600352804, 4094571909, 275423344, 430227734, 506948616, 659060556, 883997877, 958139571, 1322822218, 1537002063, 1747873779, 1955562222, 2024104815, 2227730452, 2361852424, 2428436474, 2756734187, 3204031479, 3329325298]
def Ok32 (n : Nat) (xs : List Nat) : Prop := xs.length = n ∧ ∀ x ∈ xs, x < 4294967296
theorem Ok32.get (h : Ok32 n xs) (i : Nat) : xs.getD i 0 < 4294967296 := by
 rw [List.getD_eq_getElem?_getD]
 by_cases hi : i < xs.length
 ·rw [List.getElem?_eq_getElem hi]; exact h.2 _ (List.getElem_mem hi)
 ·rw [List.getElem?_eq_none (by omega)]; decide
theorem Ok32.set (h : Ok32 n xs) (i v : Nat) (hv : v < 4294967296) : Ok32 n (xs.set i v) := ⟨by rw [List.length_set]; exact h.1, fun x hx => (List.mem_or_eq_of_mem_set hx).elim (h.2 x) (fun e => e ▸ hv)⟩
theorem beginS_ok : Ok32 8 beginS := ⟨rfl, by decide⟩
theorem tableS_ok : Ok32 64 tableS := ⟨rfl, by decide⟩
def schW (xs : List Nat) (K : Nat) : Nat := (((shiftN (xs.getD (K - 2) 0) 17 19 10 + xs.getD (K - 7) 0) % 4294967296 + shiftN (xs.getD (K - 15) 0) 7 18 3) % 4294967296 + xs.getD (K - 16) 0) % 4294967296
def schL (bs : List Nat) : Nat → List Nat
 | 0 => List.replicate 64 0
 | K + 1 => if K < 16 then (schL bs K).set K (rev32 (lowN bs (4 * K) 4)) else (schL bs K).set K (schW (schL bs K) K)
theorem schL_ok {bs : List Nat} (h : ∀ x ∈ bs, x < 256) : ∀ K, Ok32 64 (schL bs K)
 | 0 => ⟨by rw [schL, List.length_replicate], fun x hx => by rw [schL] at hx; rw [(List.mem_replicate.1 hx).2]; omega⟩
 | K + 1 => by
  have ih := schL_ok h K
  rw [schL]
  split
  ·exact ih.set _ _ (rev32_lt _ (low32_lt h _))
  ·exact ih.set _ _ (Nat.mod_lt _ (by omega))
def oneN (v k x : List Nat) (K : Nat) : Nat := ((((v.getD 7 0 + threeN (v.getD 4 0) 6 11 25) % 4294967296 + ((v.getD 4 0 &&& v.getD 5 0) ^^^ ((4294967295 ^^^ v.getD 4 0) &&& v.getD 6 0))) % 4294967296 + k.getD K 0) % 4294967296 + x.getD K 0) % 4294967296
def twoN (v : List Nat) : Nat := (threeN (v.getD 0 0) 2 13 22 + (((v.getD 0 0 &&& v.getD 1 0) ^^^ (v.getD 0 0 &&& v.getD 2 0)) ^^^ (v.getD 1 0 &&& v.getD 2 0))) % 4294967296
def rndL (v0 x : List Nat) : Nat → List Nat
 | 0 => v0
 | K + 1 => let v := rndL v0 x K; [(oneN v tableS x K + twoN v) % 4294967296, v.getD 0 0, v.getD 1 0, v.getD 2 0, (v.getD 3 0 + oneN v tableS x K) % 4294967296, v.getD 4 0, v.getD 5 0, v.getD 6 0]
theorem rndL_ok {v0 x : List Nat} (h : Ok32 8 v0) : ∀ K, Ok32 8 (rndL v0 x K)
 | 0 => h
 | K + 1 => by
  have ih := rndL_ok (x := x) h K
  refine ⟨rfl, fun y hy => ?_⟩
  simp only [rndL, List.mem_cons, List.not_mem_nil, or_false] at hy
  rcases hy with rfl | rfl | rfl | rfl | rfl | rfl | rfl | rfl <;> first | exact Nat.mod_lt _ (by omega) | exact ih.get _
def sumK (v0 v : List Nat) : Nat → List Nat
 | 0 => v0
 | K + 1 => (sumK v0 v K).set K (((sumK v0 v K).getD K 0 + v.getD K 0) % 4294967296)
theorem sumK_ok {v0 v : List Nat} (h : Ok32 8 v0) : ∀ K, Ok32 8 (sumK v0 v K)
 | 0 => h
 | K + 1 => (sumK_ok h K).set _ _ (Nat.mod_lt _ (by omega))
def takeL (v0 bs : List Nat) : List Nat := sumK v0 (rndL v0 (schL bs 64) 64) 8
theorem takeL_ok {v0 : List Nat} (h : Ok32 8 v0) (bs : List Nat) : Ok32 8 (takeL v0 bs) := sumK_ok h 8
theorem begin_sha (w : World) :
  Calls Tryz.prog 137 #[] w fun e w' => e = .returned (.agg (iws .u32 beginS).toArray) ∧ Below w.heap.size w w' := by
 refine x_enter 2 Tryz.func137 rfl rfl (fun a hs hd ha0 => ?_)
 clear ha0
 iterate 2 refine e1 ?_
 refine q_x (o_alloc (zs := (iws .u32 (List.replicate 8 0)).toArray) rfl (fun _ => by kernel_rfl)) (fun v_1 w_1 hR_1 => ?_)
 obtain ⟨g_1, rfl, hle_1, hB_1, hb_1⟩ := hR_1
 have ge_1 : w.heap.size ≤ g_1 := hle_1
 iterate 3 refine e1 ?_
 refine q_v 1 (.agg (iws .u32 ([1779033703, 3144134277, 1013904242, 2773480762, 1359893119, 2600822924, 528734635, 1541459225])).toArray) (o_bld (vs := #[(0, .int .u32 ((1779033703 : Nat) : Int)), (1, .int .u32 ((3144134277 : Nat) : Int)), (2, .int .u32 ((1013904242 : Nat) : Int)), (3, .int .u32 ((2773480762 : Nat) : Int)), (4, .int .u32 ((1359893119 : Nat) : Int)), (5, .int .u32 ((2600822924 : Nat) : Int)), (6, .int .u32 ((528734635 : Nat) : Int)), (7, .int .u32 ((1541459225 : Nat) : Int))]) rfl (bldc (fun _ => rfl) _ _ rfl) (fun _ => by kernel_rfl)) ?_
 refine q_d (o_storeI rfl ev ev hB_1 ⟨by kernel_rfl, by kernel_rfl⟩ (by simp [iws])) (fun w_2 hR_2 => ?_)
 obtain ⟨hB_2, hX_1⟩ := hR_2
 have HB_1 := hX_1.below hb_1 hb_1.size (fun k hk => hk ▸ ge_1)
 replace hB_2 : Blk w_2 g_1 (iws .u32 ([1779033703, 3144134277, 1013904242, 2773480762, 1359893119, 2600822924, 528734635, 1541459225])).toArray _ := hB_2
 iterate 2 refine e1 ?_
 refine retC rfl hd (pe hs rfl rfl) (loadI hB_2 ⟨by kernel_rfl, by kernel_rfl⟩) ?_
 exact ⟨rfl, HB_1⟩
theorem table_sha (w : World) :
  Calls Tryz.prog 147 #[] w fun e w' => e = .returned (.agg (iws .u32 tableS).toArray) ∧ Below w.heap.size w w' := by
 refine x_enter 2 Tryz.func147 rfl rfl (fun a hs hd ha0 => ?_)
 clear ha0
 iterate 2 refine e1 ?_
 refine q_x (o_alloc (zs := (iws .u32 (List.replicate 64 0)).toArray) rfl (fun _ => by kernel_rfl)) (fun v_1 w_1 hR_1 => ?_)
 obtain ⟨g_1, rfl, hle_1, hB_1, hb_1⟩ := hR_1
 have ge_1 : w.heap.size ≤ g_1 := hle_1
 iterate 3 refine e1 ?_
 refine q_v 1 (.agg (iws .u32 ([1116352408, 1899447441, 3049323471, 3921009573, 961987163, 1508970993, 2453635748, 2870763221, 3624381080, 310598401, 607225278, 1426881987, 1925078388, 2162078206, 2614888103, 3248222580, 3835390401, 4022224774, 264347078, 604807628, 770255983, 1249150122, 1555081692, 1996064986, 2554220882, 2821834349, 2952996808, 3210313671, 3336571891, 3584528711, 113926993, 338241895, 666307205, 773529912, 1294757372, 1396182291, 1695183700, 1986661051, 2177026350, 2456956037, 2730485921, 2820302411, 3259730800, 3345764771, 3516065817, 3600352804, 4094571909, 275423344, 430227734, 506948616, 659060556, 883997877, 958139571, 1322822218, 1537002063, 1747873779, 1955562222, 2024104815, 2227730452, 2361852424, 2428436474, 2756734187, 3204031479, 3329325298])).toArray) (o_bld (vs := #[(0, .int .u32 ((1116352408 : Nat) : Int)), (1, .int .u32 ((1899447441 : Nat) : Int)), (2, .int .u32 ((3049323471 : Nat) : Int)), (3, .int .u32 ((3921009573 : Nat) : Int)), (4, .int .u32 ((961987163 : Nat) : Int)), (5, .int .u32 ((1508970993 : Nat) : Int)), (6, .int .u32 ((2453635748 : Nat) : Int)), (7, .int .u32 ((2870763221 : Nat) : Int)), (8, .int .u32 ((3624381080 : Nat) : Int)), (9, .int .u32 ((310598401 : Nat) : Int)), (10, .int .u32 ((607225278 : Nat) : Int)), (11, .int .u32 ((1426881987 : Nat) : Int)), (12, .int .u32 ((1925078388 : Nat) : Int)), (13, .int .u32 ((2162078206 : Nat) : Int)), (14, .int .u32 ((2614888103 : Nat) : Int)), (15, .int .u32 ((3248222580 : Nat) : Int)), (16, .int .u32 ((3835390401 : Nat) : Int)), (17, .int .u32 ((4022224774 : Nat) : Int)), (18, .int .u32 ((264347078 : Nat) : Int)), (19, .int .u32 ((604807628 : Nat) : Int)), (20, .int .u32 ((770255983 : Nat) : Int)), (21, .int .u32 ((1249150122 : Nat) : Int)), (22, .int .u32 ((1555081692 : Nat) : Int)), (23, .int .u32 ((1996064986 : Nat) : Int)), (24, .int .u32 ((2554220882 : Nat) : Int)), (25, .int .u32 ((2821834349 : Nat) : Int)), (26, .int .u32 ((2952996808 : Nat) : Int)), (27, .int .u32 ((3210313671 : Nat) : Int)), (28, .int .u32 ((3336571891 : Nat) : Int)), (29, .int .u32 ((3584528711 : Nat) : Int)), (30, .int .u32 ((113926993 : Nat) : Int)), (31, .int .u32 ((338241895 : Nat) : Int)), (32, .int .u32 ((666307205 : Nat) : Int)), (33, .int .u32 ((773529912 : Nat) : Int)), (34, .int .u32 ((1294757372 : Nat) : Int)), (35, .int .u32 ((1396182291 : Nat) : Int)), (36, .int .u32 ((1695183700 : Nat) : Int)), (37, .int .u32 ((1986661051 : Nat) : Int)), (38, .int .u32 ((2177026350 : Nat) : Int)), (39, .int .u32 ((2456956037 : Nat) : Int)), (40, .int .u32 ((2730485921 : Nat) : Int)), (41, .int .u32 ((2820302411 : Nat) : Int)), (42, .int .u32 ((3259730800 : Nat) : Int)), (43, .int .u32 ((3345764771 : Nat) : Int)), (44, .int .u32 ((3516065817 : Nat) : Int)), (45, .int .u32 ((3600352804 : Nat) : Int)), (46, .int .u32 ((4094571909 : Nat) : Int)), (47, .int .u32 ((275423344 : Nat) : Int)), (48, .int .u32 ((430227734 : Nat) : Int)), (49, .int .u32 ((506948616 : Nat) : Int)), (50, .int .u32 ((659060556 : Nat) : Int)), (51, .int .u32 ((883997877 : Nat) : Int)), (52, .int .u32 ((958139571 : Nat) : Int)), (53, .int .u32 ((1322822218 : Nat) : Int)), (54, .int .u32 ((1537002063 : Nat) : Int)), (55, .int .u32 ((1747873779 : Nat) : Int)), (56, .int .u32 ((1955562222 : Nat) : Int)), (57, .int .u32 ((2024104815 : Nat) : Int)), (58, .int .u32 ((2227730452 : Nat) : Int)), (59, .int .u32 ((2361852424 : Nat) : Int)), (60, .int .u32 ((2428436474 : Nat) : Int)), (61, .int .u32 ((2756734187 : Nat) : Int)), (62, .int .u32 ((3204031479 : Nat) : Int)), (63, .int .u32 ((3329325298 : Nat) : Int))]) rfl (bldc (fun _ => rfl) _ _ rfl) (fun _ => by kernel_rfl)) ?_
 refine q_d (o_storeI rfl ev ev hB_1 ⟨by kernel_rfl, by kernel_rfl⟩ (by simp [iws])) (fun w_2 hR_2 => ?_)
 obtain ⟨hB_2, hX_1⟩ := hR_2
 have HB_1 := hX_1.below hb_1 hb_1.size (fun k hk => hk ▸ ge_1)
 replace hB_2 : Blk w_2 g_1 (iws .u32 ([1116352408, 1899447441, 3049323471, 3921009573, 961987163, 1508970993, 2453635748, 2870763221, 3624381080, 310598401, 607225278, 1426881987, 1925078388, 2162078206, 2614888103, 3248222580, 3835390401, 4022224774, 264347078, 604807628, 770255983, 1249150122, 1555081692, 1996064986, 2554220882, 2821834349, 2952996808, 3210313671, 3336571891, 3584528711, 113926993, 338241895, 666307205, 773529912, 1294757372, 1396182291, 1695183700, 1986661051, 2177026350, 2456956037, 2730485921, 2820302411, 3259730800, 3345764771, 3516065817, 3600352804, 4094571909, 275423344, 430227734, 506948616, 659060556, 883997877, 958139571, 1322822218, 1537002063, 1747873779, 1955562222, 2024104815, 2227730452, 2361852424, 2428436474, 2756734187, 3204031479, 3329325298])).toArray _ := hB_2
 iterate 2 refine e1 ?_
 refine retC rfl hd (pe hs rfl rfl) (loadI hB_2 ⟨by kernel_rfl, by kernel_rfl⟩) ?_
 exact ⟨rfl, HB_1⟩
theorem schedule_any (w : World) (h0 : Bs w A0 c0 bs) (hq : bs.length = q) :
  Calls Tryz.prog 146 #[.slice A0 (q) (c0)] w fun e w' => e = .returned (.agg (iws .u32 (schL bs 64)).toArray) ∧ Below w.heap.size w w' := by
 refine x_enter 41 Tryz.func146 rfl rfl (fun a hs hd ha0 => ?_)
 have t0 := tA 0 ha0
 clear ha0
 iterate 2 refine e1 ?_
 refine q_x (o_alloc (zs := (iws .u32 (List.replicate 64 0)).toArray) rfl (fun _ => by kernel_rfl)) (fun v_1 w_1 hR_1 => ?_)
 obtain ⟨g_1, rfl, hle_1, hB_1, hb_1⟩ := hR_1
 have ge_1 : w.heap.size ≤ g_1 := hle_1
 iterate 3 refine e1 ?_
 refine q_x (o_alloc (zs := (iws .u32 (List.replicate 64 0)).toArray) rfl (fun _ => by kernel_rfl)) (fun v_2 w_2 hR_2 => ?_)
 obtain ⟨g_2, rfl, hle_2, hB_2, hb_2⟩ := hR_2
 have ne_1 : g_1 ≠ g_2 := Nat.ne_of_lt (Nat.lt_of_lt_of_le hB_1.lt hle_2)
 have ge_2 : w.heap.size ≤ g_2 := Nat.le_trans hb_1.size hle_2
 replace hB_1 := hB_1.nx hb_2
 have HB_1 := below_from hb_1 hb_2
 iterate 4 refine e1 ?_
 refine q_v 5 (.int .i64 ((0 : Nat) : Int)) (o_move rfl rfl) ?_
 iterate 2 refine e1 ?_
 refine x_loop (fun nn aa ww => ∃ (K : Nat), nn = 64 - K ∧ aa.tmps.size = 41 ∧ aa.defers = [] ∧ aa.eval (.tmp 0) = .slice A0 (q) (c0) ∧ aa.eval (.tmp 2) = .pointer (some ⟨g_1, 0, none⟩) ∧ aa.eval (.tmp 3) = .pointer (some ⟨g_2, 0, none⟩) ∧ aa.eval (.tmp 5) = .int .i64 ((K : Nat) : Int) ∧ K ≤ 64 ∧ Blk ww g_2 (iws .u32 (schL bs K)).toArray 131 ∧ Blk ww g_1 (iws .u32 (List.replicate 64 0)).toArray 131 ∧ Below w.heap.size w ww) (64 - 0) ?_ ?_
 ·exact ⟨0, rfl, (psz hs), (pdf hd), ev, ev, ev, ev, Nat.zero_le _, hB_2, hB_1, HB_1⟩
 ·skip
  rintro nna_1 a_1 w_3 ⟨K, hm_1, hs_1, hd_1, ta_1_0, ta_1_2, ta_1_3, ta_1_5, hK, hX, hR, HBL⟩ K_6 hK_6
  subst hm_1
  have hok := schL_ok h0.b8 K
  iterate 2 refine e1 ?_
  refine q_w (o_lss (n := 64) rfl ev rfl) ?_
  iterate 2 refine e1 ?_
  refine w2_split (pe hs_1 rfl rfl) (fun h_1 => ?_) (fun h_1 => ?_)
  ·simp only [DD9] at h_1
   have hlt : K < 64 := h_1
   iterate 13 refine e1 ?_
   refine q_w (o_lss (n := 16) rfl ev rfl) ?_
   refine e1 ?_
   refine w2_split (pe hs_1 rfl rfl) (fun h_2 => ?_) (fun h_2 => ?_)
   ·simp only [DD9] at h_2
    have hlt16 : K < 16 := h_2
    iterate 5 refine e1 ?_
    refine q_w (o_mul64 (m := 4) rfl rfl ev (by omega)) ?_
    refine e1 ?_
    refine k_c Tryz.func153 (High32_any (4 * K) _ (h0.below HBL) hq (by omega)) ?_
    rintro e_1 w_4 ⟨rfl, rfl⟩
    refine ⟨_, rfl, ?_⟩
    refine q_v _ (.pointer (some ⟨g_2, K, none⟩)) (zero_off (o_ixA (k := 0) (i := K) (n := 64) (e := 68) rfl ev ev (by omega) (fun _ => by kernel_rfl) (fun _ => by kernel_rfl))) ?_
    refine q_d (o_storeW rfl ev ev hX (by rw [hok.1]; omega) ⟨by kernel_rfl, by kernel_rfl⟩) (fun w_5 hR_4 => ?_)
    obtain ⟨hB_3, hX_1⟩ := hR_4
    replace hR := hX_1.blk hR ne_1
    have HB_2 := hX_1.below HBL HBL.size (fun k hk => hk ▸ ge_2)
    clear hX
    iterate 6 refine e1 ?_
    refine q_w (o_add64 (n := 1) rfl ev rfl (by omega)) ?_
    refine e1 ?_
    refine x_nil ?_
    refine hK_6 _ _ _ ⟨K + 1, rfl, (psz hs_1), (pdf hd_1), ev, ev, ev, ev, (by omega), (by rw [schL, if_pos hlt16]; exact hB_3), hR, HB_2⟩ ?_
    omega
   ·simp only [DD9] at h_2
    have hge16 : 16 ≤ K := h_2
    iterate 2 refine e1 ?_
    refine y_drawn 22 [iI .i64 K, iI .i64 K, iV (.int .i64 ((K - 2 : Nat) : Int)), iP g_2 (K - 2), iV (.int .u32 (((schL bs K).getD (K - 2) 0 : Nat) : Int)), iV (.int .u32 ((shiftN ((schL bs K).getD (K - 2) 0) 17 19 10 : Nat) : Int)), iI .i64 K, iV (.int .i64 ((K - 7 : Nat) : Int)), iP g_2 (K - 7), iV (.int .u32 (((schL bs K).getD (K - 7) 0 : Nat) : Int)), iV (.int .u32 ((((shiftN ((schL bs K).getD (K - 2) 0) 17 19 10) + ((schL bs K).getD (K - 7) 0)) % 4294967296 : Nat) : Int)), iI .i64 K, iV (.int .i64 ((K - 15 : Nat) : Int)), iP g_2 (K - 15), iV (.int .u32 (((schL bs K).getD (K - 15) 0 : Nat) : Int)), iV (.int .u32 ((shiftN ((schL bs K).getD (K - 15) 0) 7 18 3 : Nat) : Int)), iV (.int .u32 ((((((shiftN ((schL bs K).getD (K - 2) 0) 17 19 10) + ((schL bs K).getD (K - 7) 0)) % 4294967296) + (shiftN ((schL bs K).getD (K - 15) 0) 7 18 3)) % 4294967296 : Nat) : Int)), iI .i64 K, iV (.int .i64 ((K - 16 : Nat) : Int)), iP g_2 (K - 16), iV (.int .u32 (((schL bs K).getD (K - 16) 0 : Nat) : Int)), iV (.int .u32 ((((((((shiftN ((schL bs K).getD (K - 2) 0) 17 19 10) + ((schL bs K).getD (K - 7) 0)) % 4294967296) + (shiftN ((schL bs K).getD (K - 15) 0) 7 18 3)) % 4294967296) + ((schL bs K).getD (K - 16) 0)) % 4294967296 : Nat) : Int))] [16, 17, 18, 19, 20, 21, 22, 23, 24, 25, 26, 27, 28, 29, 30, 31, 32, 33, 34, 35, 36, 37] hs_1 hd_1 ⟨sx, sx, (step_ok rfl fun a' w' hb' hO hD => oV (o_sub64 (m := K) (n := 2) rfl ed rfl (by omega) (by omega)) rfl), (step_ok rfl fun a' w' hb' hO hD => oV (zero_off (o_ixA (k := 0) (i := K - 2) (n := 64) (e := 68) rfl ed ed (by omega) (fun _ => by kernel_rfl) (fun _ => by kernel_rfl))) rfl), (step_ok rfl fun a' w' hb' hO hD => oV (o_loadW rfl ed (hX.nx hb') (by rw [hok.1]; omega) rfl ⟨by kernel_rfl, by kernel_rfl⟩) rfl), (step_ok rfl fun a' w' hb' hO hD => oC (vs := #[.int .u32 (((schL bs K).getD (K - 2) 0 : Nat) : Int), .int .i64 ((17 : Nat) : Int), .int .i64 ((19 : Nat) : Int), .int .i64 ((10 : Nat) : Int)]) Tryz.func154 rfl (args4 ed rfl rfl rfl) (Calls.mono (shifted_any ((schL bs K).getD (K - 2) 0) 17 19 10 _ (hok.get _) (by decide) (by decide) (by decide) (by decide) (by decide) (by decide)) (fun e w'' hR => by obtain ⟨rfl, hb_4⟩ := hR; exact ⟨_, rfl, rfl, hb_4⟩))), sx, (step_ok rfl fun a' w' hb' hO hD => oV (o_sub64 (m := K) (n := 7) rfl ed rfl (by omega) (by omega)) rfl), (step_ok rfl fun a' w' hb' hO hD => oV (zero_off (o_ixA (k := 0) (i := K - 7) (n := 64) (e := 68) rfl ed ed (by omega) (fun _ => by kernel_rfl) (fun _ => by kernel_rfl))) rfl), (step_ok rfl fun a' w' hb' hO hD => oV (o_loadW rfl ed (hX.nx hb') (by rw [hok.1]; omega) rfl ⟨by kernel_rfl, by kernel_rfl⟩) rfl), (step_ok rfl fun a' w' hb' hO hD => oV (o_addU (m := (shiftN ((schL bs K).getD (K - 2) 0) 17 19 10)) (n := ((schL bs K).getD (K - 7) 0)) (((shiftN ((schL bs K).getD (K - 2) 0) 17 19 10) + ((schL bs K).getD (K - 7) 0)) % 4294967296) rfl ed ed (by rw [IntKind.wrap_u32]; omega)) rfl), sx, (step_ok rfl fun a' w' hb' hO hD => oV (o_sub64 (m := K) (n := 15) rfl ed rfl (by omega) (by omega)) rfl), (step_ok rfl fun a' w' hb' hO hD => oV (zero_off (o_ixA (k := 0) (i := K - 15) (n := 64) (e := 68) rfl ed ed (by omega) (fun _ => by kernel_rfl) (fun _ => by kernel_rfl))) rfl), (step_ok rfl fun a' w' hb' hO hD => oV (o_loadW rfl ed (hX.nx hb') (by rw [hok.1]; omega) rfl ⟨by kernel_rfl, by kernel_rfl⟩) rfl), (step_ok rfl fun a' w' hb' hO hD => oC (vs := #[.int .u32 (((schL bs K).getD (K - 15) 0 : Nat) : Int), .int .i64 ((7 : Nat) : Int), .int .i64 ((18 : Nat) : Int), .int .i64 ((3 : Nat) : Int)]) Tryz.func154 rfl (args4 ed rfl rfl rfl) (Calls.mono (shifted_any ((schL bs K).getD (K - 15) 0) 7 18 3 _ (hok.get _) (by decide) (by decide) (by decide) (by decide) (by decide) (by decide)) (fun e w'' hR => by obtain ⟨rfl, hb_5⟩ := hR; exact ⟨_, rfl, rfl, hb_5⟩))), (step_ok rfl fun a' w' hb' hO hD => oV (o_addU (m := (((shiftN ((schL bs K).getD (K - 2) 0) 17 19 10) + ((schL bs K).getD (K - 7) 0)) % 4294967296)) (n := (shiftN ((schL bs K).getD (K - 15) 0) 7 18 3)) (((((shiftN ((schL bs K).getD (K - 2) 0) 17 19 10) + ((schL bs K).getD (K - 7) 0)) % 4294967296) + (shiftN ((schL bs K).getD (K - 15) 0) 7 18 3)) % 4294967296) rfl ed ed (by rw [IntKind.wrap_u32]; omega)) rfl), sx, (step_ok rfl fun a' w' hb' hO hD => oV (o_sub64 (m := K) (n := 16) rfl ed rfl (by omega) (by omega)) rfl), (step_ok rfl fun a' w' hb' hO hD => oV (zero_off (o_ixA (k := 0) (i := K - 16) (n := 64) (e := 68) rfl ed ed (by omega) (fun _ => by kernel_rfl) (fun _ => by kernel_rfl))) rfl), (step_ok rfl fun a' w' hb' hO hD => oV (o_loadW rfl ed (hX.nx hb') (by rw [hok.1]; omega) rfl ⟨by kernel_rfl, by kernel_rfl⟩) rfl), (step_ok rfl fun a' w' hb' hO hD => oV (o_addU (m := (((((shiftN ((schL bs K).getD (K - 2) 0) 17 19 10) + ((schL bs K).getD (K - 7) 0)) % 4294967296) + (shiftN ((schL bs K).getD (K - 15) 0) 7 18 3)) % 4294967296)) (n := ((schL bs K).getD (K - 16) 0)) (((((((shiftN ((schL bs K).getD (K - 2) 0) 17 19 10) + ((schL bs K).getD (K - 7) 0)) % 4294967296) + (shiftN ((schL bs K).getD (K - 15) 0) 7 18 3)) % 4294967296) + ((schL bs K).getD (K - 16) 0)) % 4294967296) rfl ed ed (by rw [IntKind.wrap_u32]; omega)) rfl), trivial⟩ (fun a_2 w_6 hs_2 hd_2 hb_6 hO_1 hV_1 => ?_)
    have ta_2_0 := fK 0 hO_1
    have ta_2_2 := fK 2 hO_1
    have ta_2_3 := fK 3 hO_1
    have ta_2_5 := fK 5 hO_1
    obtain ⟨hX, hR⟩ := nx2 hb_6 hX hR
    have HB_3 := below_from HBL hb_6
    have ta_2_16 := fV 16 hV_1
    have ta_2_37 := fV 37 hV_1
    simp only [List.drop_succ_cons, List.drop_zero]
    refine q_v _ (.pointer (some ⟨g_2, K, none⟩)) (zero_off (o_ixA (k := 0) (i := K) (n := 64) (e := 68) rfl ev ev (by omega) (fun _ => by kernel_rfl) (fun _ => by kernel_rfl))) ?_
    refine q_d (o_storeW rfl ev ev hX (by rw [hok.1]; omega) ⟨by kernel_rfl, by kernel_rfl⟩) (fun w_7 hR_5 => ?_)
    obtain ⟨hB_4, hX_2⟩ := hR_5
    replace hR := hX_2.blk hR ne_1
    have HB_4 := hX_2.below HB_3 HB_3.size (fun k hk => hk ▸ ge_2)
    clear hX
    iterate 3 refine e1 ?_
    refine q_w (o_add64 (n := 1) rfl ev rfl (by omega)) ?_
    refine e1 ?_
    refine x_nil ?_
    refine hK_6 _ _ _ ⟨K + 1, rfl, (psz hs_2), (pdf hd_2), ev, ev, ev, ev, (by omega), (by rw [schL, if_neg (by omega)]; exact hB_4), hR, HB_4⟩ ?_
    omega
  ·simp only [DD9] at h_1
   obtain rfl : K = 64 := by omega
   iterate 7 refine e1 ?_
   refine q_w (o_loadI rfl ev hX (by rw [hok.1]; exact ⟨by kernel_rfl, by kernel_rfl⟩)) ?_
   refine q_d (o_storeI rfl ev ev hR (by rw [hok.1]; exact ⟨by kernel_rfl, by kernel_rfl⟩) (by rw [hok.1]; simp [iws])) (fun w_8 hR_6 => ?_)
   obtain ⟨hB_5, hX_3⟩ := hR_6
   replace hX := hX_3.blk hX (Ne.symm ne_1)
   have HB_5 := hX_3.below HBL HBL.size (fun k hk => hk ▸ ge_1)
   clear hR
   iterate 2 refine e1 ?_
   refine retC rfl hd_1 ((pm rfl).trans ta_1_2) (loadI hB_5 (by rw [hok.1]; exact ⟨by kernel_rfl, by kernel_rfl⟩)) ?_
   exact ⟨rfl, HB_5⟩
end Go.Proofs.YtkhbihnnkflfkaaGreat
/-
 WALK: sha: a block.
-/
namespace Go.Proofs.YtkhbihnnkflfkaaGreat
open Go.RowKit
set_option maxHeartbeats 8000000
set_option linter.unusedVariables false
set_option linter.unusedSimpArgs false
set_option maxRecDepth 100000
attribute [local irreducible] wpList wpListIn putsR

theorem take_sha {A0 : Option Addr} {c0 q : Nat} {bs v0 : List Nat} (w : World) (h0 : Bs w A0 c0 bs) (hq : bs.length = q) (hv : Ok32 8 v0) :
  Calls Tryz.prog 138 #[.agg (iws .u32 (v0)).toArray, .slice A0 (q) (c0)] w fun e w' => e = .returned (.agg (iws .u32 (takeL v0 bs)).toArray) ∧ Below w.heap.size w w' := by
 refine x_enter 99 Tryz.func138 rfl rfl (fun a hs hd ha0 => ?_)
 have t0 := tA 0 ha0
 have t1 := tA 1 ha0
 clear ha0
 iterate 2 refine e1 ?_
 refine q_x (o_boxI rfl ev) (fun v_1 w_1 hR_1 => ?_)
 obtain ⟨g_1, rfl, hle_1, hB_1, hb_1⟩ := hR_1
 have ge_1 : w.heap.size ≤ g_1 := hle_1
 refine q_x (o_alloc (zs := (iws .u32 (List.replicate 8 0)).toArray) rfl (fun _ => by kernel_rfl)) (fun v_2 w_2 hR_2 => ?_)
 obtain ⟨g_2, rfl, hle_2, hB_2, hb_2⟩ := hR_2
 have ne_1 : g_1 ≠ g_2 := Nat.ne_of_lt (Nat.lt_of_lt_of_le hB_1.lt hle_2)
 have ge_2 : w.heap.size ≤ g_2 := Nat.le_trans hb_1.size hle_2
 replace hB_1 := hB_1.nx hb_2
 have HB_1 := below_from hb_1 hb_2
 iterate 2 refine e1 ?_
 refine x_drawnA 9 [fun _ v => v = .slice A0 (q) (c0), fun _ v => v = .agg (iws .u32 (schL bs 64)).toArray, fun _ v => v = .agg (iws .u32 (tableS)).toArray, fun _ v => v = .agg (iws .u32 (v0)).toArray, fun _ _ => True, fun _ _ => True, fun _ _ => True, fun _ _ => True, fun _ _ => True] [⟨4, 7, (iws .u32 (List.replicate 64 0)).toArray, (iws .u32 (schL bs 64)).toArray, 131⟩, ⟨5, 8, (iws .u32 (List.replicate 64 0)).toArray, (iws .u32 (tableS)).toArray, 131⟩, ⟨6, 906, (iws .u32 (List.replicate 8 0)).toArray, (iws .u32 (List.replicate 8 0)).toArray, 157⟩] [14, 15, 16, 17, 5, 6, 7] hs hd (by kernel_rfl) (by kernel_rfl) (by kernel_rfl) (by kernel_rfl) (by kernel_rfl) (by intro e he; simp only [List.mem_cons, List.not_mem_nil, or_false] at he; rcases he with rfl | rfl | rfl <;> first | exact ⟨by dsimp only; omega, .inl (by dsimp only; omega)⟩ | exact ⟨by dsimp only; omega, .inr rfl⟩) (fun i w w' v h => AllLit.nth (l := [fun _ v => v = .slice A0 (q) (c0), fun _ v => v = .agg (iws .u32 (schL bs 64)).toArray, fun _ v => v = .agg (iws .u32 (tableS)).toArray, fun _ v => v = .agg (iws .u32 (v0)).toArray, fun _ _ => True, fun _ _ => True, fun _ _ => True, fun _ _ => True, fun _ _ => True]) ⟨litL, litL, litL, litL, litL, litL, litL, litL, litL, trivial⟩ i w w' v h) ⟨(by exact ⟨rfl, .inl ⟨fun a' w' hb' hO hD => by
   have d_1 := (hO 1 (by decide)).trans ((pm rfl).trans t1)
   exact .inl ⟨_, _, (o_move rfl d_1), rfl, Below.refl _ _⟩, (by intro e he; simp only [List.mem_cons, List.not_mem_nil, or_false] at he; rcases he with rfl | rfl | rfl <;> exact ⟨by dsimp only; omega, by dsimp only; omega⟩), rfl⟩⟩),
(by exact ⟨rfl, .inl ⟨fun a' w' hb' hO hD => by
   have d_2 : a'.eval (.tmp 14) = .slice A0 (q) (c0) := hD 0 14 (by kernel_rfl) rfl
   exact .inr ⟨_, #[.slice A0 (q) (c0)], (exec_call Tryz.func146 (by kernel_rfl) (by kernel_rfl) _ rfl _ _ (args1 d_2)), Calls.mono (schedule_any _ (h0.below (below_from HB_1 hb')) hq) (fun e w'' hR => by obtain ⟨rfl, hb_3⟩ := hR; exact ⟨_, rfl, rfl, hb_3⟩)⟩, (by intro e he; simp only [List.mem_cons, List.not_mem_nil, or_false] at he; rcases he with rfl | rfl | rfl <;> exact ⟨by dsimp only; omega, by dsimp only; omega⟩), rfl⟩⟩),
(by exact ⟨rfl, .inl ⟨fun a' w' hb' hO hD => by
   exact .inr ⟨_, #[], (exec_call Tryz.func147 (by kernel_rfl) (by kernel_rfl) _ rfl _ _ (args0)), Calls.mono (table_sha _) (fun e w'' hR => by obtain ⟨rfl, hb_4⟩ := hR; exact ⟨_, rfl, rfl, hb_4⟩)⟩, (by intro e he; simp only [List.mem_cons, List.not_mem_nil, or_false] at he; rcases he with rfl | rfl | rfl <;> exact ⟨by dsimp only; omega, by dsimp only; omega⟩), rfl⟩⟩),
(by exact ⟨rfl, .inl ⟨fun a' w' hb' hO hD => by
   have d_3 : a'.eval (.tmp 2) = .pointer (some ⟨g_1, 0, none⟩) := (hO 2 (by decide)).trans (pe hs rfl rfl)
   exact .inl ⟨_, _, (o_loadI rfl d_3 (hB_1.nx hb') (by rw [hv.1]; exact ⟨by kernel_rfl, by kernel_rfl⟩)), rfl, Below.refl _ _⟩, (by intro e he; simp only [List.mem_cons, List.not_mem_nil, or_false] at he; rcases he with rfl | rfl | rfl <;> exact ⟨by dsimp only; omega, by dsimp only; omega⟩), rfl⟩⟩),
(by exact ⟨rfl, .inr (.inl ⟨_, (.head _), rfl, rfl, fun _ _ => trivial, (by intro e he; simp only [List.mem_cons, List.not_mem_nil, or_false] at he; rcases he with rfl | rfl | rfl <;> exact ⟨by dsimp only; omega, fun h => by first | (exfalso; dsimp only at h; omega) | rfl⟩), fun a' w' hb' => o_alloc (zs := (iws .u32 (List.replicate 64 0)).toArray) rfl (fun _ => by kernel_rfl)⟩)⟩),
(by exact ⟨rfl, .inr (.inl ⟨_, (.tail _ (.head _)), rfl, rfl, fun _ _ => trivial, (by intro e he; simp only [List.mem_cons, List.not_mem_nil, or_false] at he; rcases he with rfl | rfl | rfl <;> exact ⟨by dsimp only; omega, fun h => by first | (exfalso; dsimp only at h; omega) | rfl⟩), fun a' w' hb' => o_alloc (zs := (iws .u32 (List.replicate 64 0)).toArray) rfl (fun _ => by kernel_rfl)⟩)⟩),
(by exact ⟨rfl, .inr (.inl ⟨_, (.tail _ (.tail _ (.head _))), rfl, rfl, fun _ _ => trivial, (by intro e he; simp only [List.mem_cons, List.not_mem_nil, or_false] at he; rcases he with rfl | rfl | rfl <;> exact ⟨by dsimp only; omega, fun h => by first | (exfalso; dsimp only at h; omega) | rfl⟩), fun a' w' hb' => o_alloc (zs := (iws .u32 (List.replicate 8 0)).toArray) rfl (fun _ => by kernel_rfl)⟩)⟩),
(by exact ⟨rfl, .inr (.inr ⟨_, (.head _), rfl, rfl, rfl, by kernel_rfl, ⟨_, rfl⟩, (by intro e he; simp only [List.mem_cons, List.not_mem_nil, or_false] at he; rcases he with rfl | rfl | rfl <;> exact ⟨by dsimp only; omega, fun h => by first | (exfalso; dsimp only at h; omega) | rfl⟩), fun a' w' g hb' hO hD hp hBz => by
   have d_4 : a'.eval (.tmp 15) = .agg (iws .u32 (schL bs 64)).toArray := hD 1 15 (by kernel_rfl) rfl
   exact o_storeI rfl (hp _ rfl) d_4 hBz (by rw [(schL_ok h0.b8 64).1]; exact ⟨by kernel_rfl, by kernel_rfl⟩) (by simp only [iws_length, List.length_replicate]; rw [(schL_ok h0.b8 64).1])⟩)⟩),
(by exact ⟨rfl, .inr (.inr ⟨_, (.tail _ (.head _)), rfl, rfl, rfl, by kernel_rfl, ⟨_, rfl⟩, (by intro e he; simp only [List.mem_cons, List.not_mem_nil, or_false] at he; rcases he with rfl | rfl | rfl <;> exact ⟨by dsimp only; omega, fun h => by first | (exfalso; dsimp only at h; omega) | rfl⟩), fun a' w' g hb' hO hD hp hBz => by
   have d_5 : a'.eval (.tmp 16) = .agg (iws .u32 (tableS)).toArray := hD 2 16 (by kernel_rfl) rfl
   exact o_storeI rfl (hp _ rfl) d_5 hBz (by rw [tableS_ok.1]; exact ⟨by kernel_rfl, by kernel_rfl⟩) (by simp only [iws_length, List.length_replicate]; rw [tableS_ok.1])⟩)⟩), trivial⟩ (fun a_1 w_3 gf_1 hs_1 hd_1 hb_5 hO_1 hV_1 hN_1 hG_1 => ?_)
 have ta_1_2 := fK 2 hO_1
 have ta_1_4 := fK 4 hO_1
 obtain ⟨ta_1_5, hle_3, hB_3⟩ := hN_1 0 _ rfl _ rfl
 obtain ⟨ta_1_6, hle_4, hB_4⟩ := hN_1 1 _ rfl _ rfl
 obtain ⟨ta_1_7, hle_5, hB_5⟩ := hN_1 2 _ rfl _ rfl
 have ne_3 : gf_1 4 ≠ gf_1 6 := hG_1 0 2 _ _ rfl rfl (by dsimp only; omega)
 have ne_4 : gf_1 5 ≠ gf_1 6 := hG_1 1 2 _ _ rfl rfl (by dsimp only; omega)
 clear hN_1 hG_1
 dsimp only at ta_1_5 hle_3 hB_3 ta_1_6 hle_4 hB_4 ta_1_7 hle_5 hB_5
 generalize gf_1 4 = g_3 at *
 generalize gf_1 5 = g_4 at *
 generalize gf_1 6 = g_5 at *
 have ne_9 : g_1 ≠ g_5 := Nat.ne_of_lt (Nat.lt_of_lt_of_le hB_1.lt hle_5)
 have ne_10 : g_2 ≠ g_5 := Nat.ne_of_lt (Nat.lt_of_lt_of_le hB_2.lt hle_5)
 have ge_5 : w.heap.size ≤ g_5 := Nat.le_trans HB_1.size hle_5
 obtain ⟨hB_1, hB_2⟩ := nx2 hb_5 hB_1 hB_2
 have HB_2 := below_from HB_1 hb_5
 have ta_1_17 := fV 17 hV_1
 simp only [List.drop_succ_cons, List.drop_zero]
 refine q_d (o_storeI rfl ev ev hB_5 (by rw [hv.1]; exact ⟨by kernel_rfl, by kernel_rfl⟩) (by rw [hv.1]; simp [iws])) (fun w_4 hR_3 => ?_)
 obtain ⟨hB_6, hX_1⟩ := hR_3
 replace hB_1 := hX_1.blk hB_1 ne_9
 replace hB_2 := hX_1.blk hB_2 ne_10
 replace hB_3 := hX_1.blk hB_3 ne_3
 replace hB_4 := hX_1.blk hB_4 ne_4
 have HB_3 := hX_1.below HB_2 HB_2.size (fun k hk => hk ▸ ge_5)
 iterate 4 refine e1 ?_
 refine q_v 18 (.int .i64 ((0 : Nat) : Int)) (o_move rfl rfl) ?_
 iterate 2 refine e1 ?_
 refine x_loop (fun nn aa ww => ∃ (K : Nat) (sv : List Nat), nn = 64 - K ∧ aa.tmps.size = 99 ∧ aa.defers = [] ∧ aa.eval (.tmp 2) = .pointer (some ⟨g_1, 0, none⟩) ∧ aa.eval (.tmp 4) = .pointer (some ⟨g_2, 0, none⟩) ∧ aa.eval (.tmp 5) = .pointer (some ⟨g_3, 0, none⟩) ∧ aa.eval (.tmp 6) = .pointer (some ⟨g_4, 0, none⟩) ∧ aa.eval (.tmp 7) = .pointer (some ⟨g_5, 0, none⟩) ∧ aa.eval (.tmp 18) = .int .i64 ((K : Nat) : Int) ∧ K ≤ 64 ∧ sv = rndL v0 (schL bs 64) K ∧ Ok32 8 sv ∧ Below w.heap.size w ww ∧ Blk ww g_1 (iws .u32 (v0)).toArray 157 ∧ Blk ww g_2 (iws .u32 (List.replicate 8 0)).toArray 157 ∧ Blk ww g_3 (iws .u32 (schL bs 64)).toArray 131 ∧ Blk ww g_4 (iws .u32 (tableS)).toArray 131 ∧ Blk ww g_5 (iws .u32 (sv)).toArray 157) (64 - 0) ?_ ?_
 ·exact ⟨0, v0, rfl, (psz hs_1), (pdf hd_1), ev, ev, ev, ev, ev, ev, Nat.zero_le _, rfl, hv, HB_3, hB_1, hB_2, hB_3, hB_4, hB_6⟩
 ·skip
  rintro nna_2 a_2 w_5 ⟨K, sv, hm_1, hs_2, hd_2, ta_2_2, ta_2_4, ta_2_5, ta_2_6, ta_2_7, ta_2_18, hK, hvd, hok, HBL, hFs, hFr, hFx, hFk, hFv⟩ K_6 hK_6
  subst hm_1
  iterate 2 refine e1 ?_
  refine q_w (o_lss (n := 64) rfl ev rfl) ?_
  iterate 2 refine e1 ?_
  refine w2_split (pe hs_2 rfl rfl) (fun h_1 => ?_) (fun h_1 => ?_)
  ·simp only [DD9] at h_1
   have hlt : K < 64 := h_1
   iterate 10 refine e1 ?_
   refine y_drawn2 5 [iP g_5 0, iV (.int .u32 ((sv.getD (0) 0 : Nat) : Int)), iP g_5 4, iV (.int .u32 ((sv.getD (4) 0 : Nat) : Int)), iV (.int .u32 ((sv.getD (0) 0 : Nat) : Int))] [21, 22, 23, 24, 9] hs_2 hd_2 ⟨(step_ok rfl fun a' w' hb' hO hD => oV (zero_off (o_ixA (k := 0) (i := 0) (n := 8) (e := 68) rfl ed rfl (by omega) (fun _ => by kernel_rfl) (fun _ => by kernel_rfl))) rfl), (step_ok rfl fun a' w' hb' hO hD => oV (o_loadW rfl ed (hFv.nx hb') (by rw [hok.1]; omega) rfl ⟨by kernel_rfl, by kernel_rfl⟩) rfl), (step_ok rfl fun a' w' hb' hO hD => oV (zero_off (o_ixA (k := 0) (i := 4) (n := 8) (e := 68) rfl ed rfl (by omega) (fun _ => by kernel_rfl) (fun _ => by kernel_rfl))) rfl), (step_ok rfl fun a' w' hb' hO hD => oV (o_loadW rfl ed (hFv.nx hb') (by rw [hok.1]; omega) rfl ⟨by kernel_rfl, by kernel_rfl⟩) rfl), sx, trivial⟩ (fun a_3 w_6 hs_3 hd_3 hb_6 hO_2 hV_2 => ?_)
   have ta_3_2 := fK 2 hO_2
   have ta_3_4 := fK 4 hO_2
   have ta_3_5 := fK 5 hO_2
   have ta_3_6 := fK 6 hO_2
   have ta_3_7 := fK 7 hO_2
   have ta_3_18 := fK 18 hO_2
   have ta_3_8 := fK 8 hO_2
   obtain ⟨hFs, hFr, hFx, hFk, hFv⟩ := nx5 hb_6 hFs hFr hFx hFk hFv
   have HB_4 := below_from HBL hb_6
   have ta_3_24 := fV 24 hV_2
   have ta_3_9 := fV 9 hV_2
   simp only [List.drop_succ_cons, List.drop_zero]
   iterate 3 refine e1 ?_
   refine y_drawn 23 [iP g_5 7, iV (.int .u32 ((sv.getD (7) 0 : Nat) : Int)), iV (.int .u32 ((sv.getD (4) 0 : Nat) : Int)), iV (.int .u32 ((threeN (sv.getD (4) 0) 6 11 25 : Nat) : Int)), iV (.int .u32 ((((sv.getD (7) 0) + (threeN (sv.getD (4) 0) 6 11 25)) % 4294967296 : Nat) : Int)), iV (.int .u32 ((sv.getD (4) 0 : Nat) : Int)), iP g_5 5, iV (.int .u32 ((sv.getD (5) 0 : Nat) : Int)), iV (.int .u32 (((sv.getD (4) 0) &&& (sv.getD (5) 0) : Nat) : Int)), iV (.int .u32 ((sv.getD (4) 0 : Nat) : Int)), iV (.int .u32 ((4294967295 ^^^ (sv.getD (4) 0) : Nat) : Int)), iP g_5 6, iV (.int .u32 ((sv.getD (6) 0 : Nat) : Int)), iV (.int .u32 (((4294967295 ^^^ (sv.getD (4) 0)) &&& (sv.getD (6) 0) : Nat) : Int)), iV (.int .u32 ((((sv.getD (4) 0) &&& (sv.getD (5) 0)) ^^^ ((4294967295 ^^^ (sv.getD (4) 0)) &&& (sv.getD (6) 0)) : Nat) : Int)), iV (.int .u32 ((((((sv.getD (7) 0) + (threeN (sv.getD (4) 0) 6 11 25)) % 4294967296) + (((sv.getD (4) 0) &&& (sv.getD (5) 0)) ^^^ ((4294967295 ^^^ (sv.getD (4) 0)) &&& (sv.getD (6) 0)))) % 4294967296 : Nat) : Int)), iI .i64 K, iP g_4 K, iV (.int .u32 ((tableS.getD (K) 0 : Nat) : Int)), iV (.int .u32 ((((((((sv.getD (7) 0) + (threeN (sv.getD (4) 0) 6 11 25)) % 4294967296) + (((sv.getD (4) 0) &&& (sv.getD (5) 0)) ^^^ ((4294967295 ^^^ (sv.getD (4) 0)) &&& (sv.getD (6) 0)))) % 4294967296) + (tableS.getD (K) 0)) % 4294967296 : Nat) : Int)), iI .i64 K, iP g_3 K, iV (.int .u32 (((schL bs 64).getD (K) 0 : Nat) : Int))] [25, 26, 27, 28, 29, 30, 31, 32, 33, 34, 35, 36, 37, 38, 39, 40, 41, 42, 43, 44, 45, 46, 47] hs_3 hd_3 ⟨(step_ok rfl fun a' w' hb' hO hD => oV (zero_off (o_ixA (k := 0) (i := 7) (n := 8) (e := 68) rfl ed rfl (by omega) (fun _ => by kernel_rfl) (fun _ => by kernel_rfl))) rfl), (step_ok rfl fun a' w' hb' hO hD => oV (o_loadW rfl ed (hFv.nx hb') (by rw [hok.1]; omega) rfl ⟨by kernel_rfl, by kernel_rfl⟩) rfl), sx, (step_ok rfl fun a' w' hb' hO hD => oC (vs := #[.int .u32 ((sv.getD (4) 0 : Nat) : Int), .int .i64 ((6 : Nat) : Int), .int .i64 ((11 : Nat) : Int), .int .i64 ((25 : Nat) : Int)]) Tryz.func148 rfl (args4 ed rfl rfl rfl) (Calls.mono (three_any (sv.getD (4) 0) 6 11 25 _ (hok.get _) (by decide) (by decide) (by decide) (by decide) (by decide) (by decide)) (fun e w'' hR => by obtain ⟨rfl, hb_7⟩ := hR; exact ⟨_, rfl, rfl, hb_7⟩))), (step_ok rfl fun a' w' hb' hO hD => oV (o_addU (m := (sv.getD (7) 0)) (n := (threeN (sv.getD (4) 0) 6 11 25)) (((sv.getD (7) 0) + (threeN (sv.getD (4) 0) 6 11 25)) % 4294967296) rfl ed ed (by rw [IntKind.wrap_u32]; omega)) rfl), sx, (step_ok rfl fun a' w' hb' hO hD => oV (zero_off (o_ixA (k := 0) (i := 5) (n := 8) (e := 68) rfl ed rfl (by omega) (fun _ => by kernel_rfl) (fun _ => by kernel_rfl))) rfl), (step_ok rfl fun a' w' hb' hO hD => oV (o_loadW rfl ed (hFv.nx hb') (by rw [hok.1]; omega) rfl ⟨by kernel_rfl, by kernel_rfl⟩) rfl), (step_ok rfl fun a' w' hb' hO hD => oV (o_bits (m := (sv.getD (4) 0)) (n := (sv.getD (5) 0)) ((sv.getD (4) 0) &&& (sv.getD (5) 0)) rfl ed ed (by decide) (u32_and_nat _ _ (hok.get _) (hok.get _))) rfl), sx, (step_ok rfl fun a' w' hb' hO hD => oV (o_not32 (m := (sv.getD (4) 0)) rfl ed (hok.get _)) rfl), (step_ok rfl fun a' w' hb' hO hD => oV (zero_off (o_ixA (k := 0) (i := 6) (n := 8) (e := 68) rfl ed rfl (by omega) (fun _ => by kernel_rfl) (fun _ => by kernel_rfl))) rfl), (step_ok rfl fun a' w' hb' hO hD => oV (o_loadW rfl ed (hFv.nx hb') (by rw [hok.1]; omega) rfl ⟨by kernel_rfl, by kernel_rfl⟩) rfl), (step_ok rfl fun a' w' hb' hO hD => oV (o_bits (m := (4294967295 ^^^ (sv.getD (4) 0))) (n := (sv.getD (6) 0)) ((4294967295 ^^^ (sv.getD (4) 0)) &&& (sv.getD (6) 0)) rfl ed ed (by decide) (u32_and_nat _ _ (xor_lt32 (by decide) (hok.get _)) (hok.get _))) rfl), (step_ok rfl fun a' w' hb' hO hD => oV (o_bits (m := ((sv.getD (4) 0) &&& (sv.getD (5) 0))) (n := ((4294967295 ^^^ (sv.getD (4) 0)) &&& (sv.getD (6) 0))) (((sv.getD (4) 0) &&& (sv.getD (5) 0)) ^^^ ((4294967295 ^^^ (sv.getD (4) 0)) &&& (sv.getD (6) 0))) rfl ed ed (by decide) (u32_xor_nat _ _ (and_lt32 (hok.get _)) (and_lt32 (xor_lt32 (by decide) (hok.get _))))) rfl), (step_ok rfl fun a' w' hb' hO hD => oV (o_addU (m := (((sv.getD (7) 0) + (threeN (sv.getD (4) 0) 6 11 25)) % 4294967296)) (n := (((sv.getD (4) 0) &&& (sv.getD (5) 0)) ^^^ ((4294967295 ^^^ (sv.getD (4) 0)) &&& (sv.getD (6) 0)))) (((((sv.getD (7) 0) + (threeN (sv.getD (4) 0) 6 11 25)) % 4294967296) + (((sv.getD (4) 0) &&& (sv.getD (5) 0)) ^^^ ((4294967295 ^^^ (sv.getD (4) 0)) &&& (sv.getD (6) 0)))) % 4294967296) rfl ed ed (by rw [IntKind.wrap_u32]; omega)) rfl), sx, (step_ok rfl fun a' w' hb' hO hD => oV (zero_off (o_ixA (k := 0) (i := K) (n := 64) (e := 68) rfl ed ed (by omega) (fun _ => by kernel_rfl) (fun _ => by kernel_rfl))) rfl), (step_ok rfl fun a' w' hb' hO hD => oV (o_loadW rfl ed (hFk.nx hb') (by rw [tableS_ok.1]; omega) rfl ⟨by kernel_rfl, by kernel_rfl⟩) rfl), (step_ok rfl fun a' w' hb' hO hD => oV (o_addU (m := (((((sv.getD (7) 0) + (threeN (sv.getD (4) 0) 6 11 25)) % 4294967296) + (((sv.getD (4) 0) &&& (sv.getD (5) 0)) ^^^ ((4294967295 ^^^ (sv.getD (4) 0)) &&& (sv.getD (6) 0)))) % 4294967296)) (n := (tableS.getD (K) 0)) (((((((sv.getD (7) 0) + (threeN (sv.getD (4) 0) 6 11 25)) % 4294967296) + (((sv.getD (4) 0) &&& (sv.getD (5) 0)) ^^^ ((4294967295 ^^^ (sv.getD (4) 0)) &&& (sv.getD (6) 0)))) % 4294967296) + (tableS.getD (K) 0)) % 4294967296) rfl ed ed (by rw [IntKind.wrap_u32]; omega)) rfl), sx, (step_ok rfl fun a' w' hb' hO hD => oV (zero_off (o_ixA (k := 0) (i := K) (n := 64) (e := 68) rfl ed ed (by omega) (fun _ => by kernel_rfl) (fun _ => by kernel_rfl))) rfl), (step_ok rfl fun a' w' hb' hO hD => oV (o_loadW rfl ed (hFx.nx hb') (by rw [(schL_ok h0.b8 64).1]; omega) rfl ⟨by kernel_rfl, by kernel_rfl⟩) rfl), trivial⟩ (fun a_4 w_7 hs_4 hd_4 hb_8 hO_3 hV_3 => ?_)
   have ta_4_2 := fK 2 hO_3
   have ta_4_4 := fK 4 hO_3
   have ta_4_5 := fK 5 hO_3
   have ta_4_6 := fK 6 hO_3
   have ta_4_7 := fK 7 hO_3
   have ta_4_18 := fK 18 hO_3
   have ta_4_9 := fK 9 hO_3
   have ta_4_10 := fK 10 hO_3
   obtain ⟨hFs, hFr, hFx, hFk, hFv⟩ := nx5 hb_8 hFs hFr hFx hFk hFv
   have HB_5 := below_from HB_4 hb_8
   have ta_4_44 := fV 44 hV_3
   have ta_4_47 := fV 47 hV_3
   simp only [List.drop_succ_cons, List.drop_zero]
   refine q_v 48 (.int .u32 ((oneN sv tableS (schL bs 64) K : Nat) : Int)) (o_eq (o_addU (m := (((((((sv.getD (7) 0) + (threeN (sv.getD (4) 0) 6 11 25)) % 4294967296) + (((sv.getD (4) 0) &&& (sv.getD (5) 0)) ^^^ ((4294967295 ^^^ (sv.getD (4) 0)) &&& (sv.getD (6) 0)))) % 4294967296) + (tableS.getD (K) 0)) % 4294967296)) (n := ((schL bs 64).getD (K) 0)) (((((((((sv.getD (7) 0) + (threeN (sv.getD (4) 0) 6 11 25)) % 4294967296) + (((sv.getD (4) 0) &&& (sv.getD (5) 0)) ^^^ ((4294967295 ^^^ (sv.getD (4) 0)) &&& (sv.getD (6) 0)))) % 4294967296) + (tableS.getD (K) 0)) % 4294967296) + ((schL bs 64).getD (K) 0)) % 4294967296) rfl ev ev (by rw [IntKind.wrap_u32]; omega)) rfl) ?_
   iterate 3 refine e1 ?_
   refine y_drawn 17 [iV (.int .u32 ((sv.getD (0) 0 : Nat) : Int)), iV (.int .u32 ((threeN (sv.getD (0) 0) 2 13 22 : Nat) : Int)), iV (.int .u32 ((sv.getD (0) 0 : Nat) : Int)), iP g_5 1, iV (.int .u32 ((sv.getD (1) 0 : Nat) : Int)), iV (.int .u32 (((sv.getD (0) 0) &&& (sv.getD (1) 0) : Nat) : Int)), iV (.int .u32 ((sv.getD (0) 0 : Nat) : Int)), iP g_5 2, iV (.int .u32 ((sv.getD (2) 0 : Nat) : Int)), iV (.int .u32 (((sv.getD (0) 0) &&& (sv.getD (2) 0) : Nat) : Int)), iV (.int .u32 ((((sv.getD (0) 0) &&& (sv.getD (1) 0)) ^^^ ((sv.getD (0) 0) &&& (sv.getD (2) 0)) : Nat) : Int)), iP g_5 1, iV (.int .u32 ((sv.getD (1) 0 : Nat) : Int)), iP g_5 2, iV (.int .u32 ((sv.getD (2) 0 : Nat) : Int)), iV (.int .u32 (((sv.getD (1) 0) &&& (sv.getD (2) 0) : Nat) : Int)), iV (.int .u32 (((((sv.getD (0) 0) &&& (sv.getD (1) 0)) ^^^ ((sv.getD (0) 0) &&& (sv.getD (2) 0))) ^^^ ((sv.getD (1) 0) &&& (sv.getD (2) 0)) : Nat) : Int))] [49, 50, 51, 52, 53, 54, 55, 56, 57, 58, 59, 60, 61, 62, 63, 64, 65] hs_4 hd_4 ⟨sx, (step_ok rfl fun a' w' hb' hO hD => oC (vs := #[.int .u32 ((sv.getD (0) 0 : Nat) : Int), .int .i64 ((2 : Nat) : Int), .int .i64 ((13 : Nat) : Int), .int .i64 ((22 : Nat) : Int)]) Tryz.func148 rfl (args4 ed rfl rfl rfl) (Calls.mono (three_any (sv.getD (0) 0) 2 13 22 _ (hok.get _) (by decide) (by decide) (by decide) (by decide) (by decide) (by decide)) (fun e w'' hR => by obtain ⟨rfl, hb_9⟩ := hR; exact ⟨_, rfl, rfl, hb_9⟩))), sx, (step_ok rfl fun a' w' hb' hO hD => oV (zero_off (o_ixA (k := 0) (i := 1) (n := 8) (e := 68) rfl ed rfl (by omega) (fun _ => by kernel_rfl) (fun _ => by kernel_rfl))) rfl), (step_ok rfl fun a' w' hb' hO hD => oV (o_loadW rfl ed (hFv.nx hb') (by rw [hok.1]; omega) rfl ⟨by kernel_rfl, by kernel_rfl⟩) rfl), (step_ok rfl fun a' w' hb' hO hD => oV (o_bits (m := (sv.getD (0) 0)) (n := (sv.getD (1) 0)) ((sv.getD (0) 0) &&& (sv.getD (1) 0)) rfl ed ed (by decide) (u32_and_nat _ _ (hok.get _) (hok.get _))) rfl), sx, (step_ok rfl fun a' w' hb' hO hD => oV (zero_off (o_ixA (k := 0) (i := 2) (n := 8) (e := 68) rfl ed rfl (by omega) (fun _ => by kernel_rfl) (fun _ => by kernel_rfl))) rfl), (step_ok rfl fun a' w' hb' hO hD => oV (o_loadW rfl ed (hFv.nx hb') (by rw [hok.1]; omega) rfl ⟨by kernel_rfl, by kernel_rfl⟩) rfl), (step_ok rfl fun a' w' hb' hO hD => oV (o_bits (m := (sv.getD (0) 0)) (n := (sv.getD (2) 0)) ((sv.getD (0) 0) &&& (sv.getD (2) 0)) rfl ed ed (by decide) (u32_and_nat _ _ (hok.get _) (hok.get _))) rfl), (step_ok rfl fun a' w' hb' hO hD => oV (o_bits (m := ((sv.getD (0) 0) &&& (sv.getD (1) 0))) (n := ((sv.getD (0) 0) &&& (sv.getD (2) 0))) (((sv.getD (0) 0) &&& (sv.getD (1) 0)) ^^^ ((sv.getD (0) 0) &&& (sv.getD (2) 0))) rfl ed ed (by decide) (u32_xor_nat _ _ (and_lt32 (hok.get _)) (and_lt32 (hok.get _)))) rfl), (step_ok rfl fun a' w' hb' hO hD => oV (zero_off (o_ixA (k := 0) (i := 1) (n := 8) (e := 68) rfl ed rfl (by omega) (fun _ => by kernel_rfl) (fun _ => by kernel_rfl))) rfl), (step_ok rfl fun a' w' hb' hO hD => oV (o_loadW rfl ed (hFv.nx hb') (by rw [hok.1]; omega) rfl ⟨by kernel_rfl, by kernel_rfl⟩) rfl), (step_ok rfl fun a' w' hb' hO hD => oV (zero_off (o_ixA (k := 0) (i := 2) (n := 8) (e := 68) rfl ed rfl (by omega) (fun _ => by kernel_rfl) (fun _ => by kernel_rfl))) rfl), (step_ok rfl fun a' w' hb' hO hD => oV (o_loadW rfl ed (hFv.nx hb') (by rw [hok.1]; omega) rfl ⟨by kernel_rfl, by kernel_rfl⟩) rfl), (step_ok rfl fun a' w' hb' hO hD => oV (o_bits (m := (sv.getD (1) 0)) (n := (sv.getD (2) 0)) ((sv.getD (1) 0) &&& (sv.getD (2) 0)) rfl ed ed (by decide) (u32_and_nat _ _ (hok.get _) (hok.get _))) rfl), (step_ok rfl fun a' w' hb' hO hD => oV (o_bits (m := (((sv.getD (0) 0) &&& (sv.getD (1) 0)) ^^^ ((sv.getD (0) 0) &&& (sv.getD (2) 0)))) (n := ((sv.getD (1) 0) &&& (sv.getD (2) 0))) ((((sv.getD (0) 0) &&& (sv.getD (1) 0)) ^^^ ((sv.getD (0) 0) &&& (sv.getD (2) 0))) ^^^ ((sv.getD (1) 0) &&& (sv.getD (2) 0))) rfl ed ed (by decide) (u32_xor_nat _ _ (xor_lt32 (and_lt32 (hok.get _)) (and_lt32 (hok.get _))) (and_lt32 (hok.get _)))) rfl), trivial⟩ (fun a_5 w_8 hs_5 hd_5 hb_10 hO_4 hV_4 => ?_)
   have ta_5_2 := fK 2 hO_4
   have ta_5_4 := fK 4 hO_4
   have ta_5_5 := fK 5 hO_4
   have ta_5_6 := fK 6 hO_4
   have ta_5_7 := fK 7 hO_4
   have ta_5_18 := fK 18 hO_4
   have ta_5_9 := fK 9 hO_4
   have ta_5_10 := fK 10 hO_4
   have ta_5_11 := fK 11 hO_4
   obtain ⟨hFs, hFr, hFx, hFk, hFv⟩ := nx5 hb_10 hFs hFr hFx hFk hFv
   have HB_6 := below_from HB_5 hb_10
   have ta_5_50 := fV 50 hV_4
   have ta_5_65 := fV 65 hV_4
   simp only [List.drop_succ_cons, List.drop_zero]
   refine q_v 66 (.int .u32 ((twoN sv : Nat) : Int)) (o_eq (o_addU (m := (threeN (sv.getD (0) 0) 2 13 22)) (n := ((((sv.getD (0) 0) &&& (sv.getD (1) 0)) ^^^ ((sv.getD (0) 0) &&& (sv.getD (2) 0))) ^^^ ((sv.getD (1) 0) &&& (sv.getD (2) 0)))) (((threeN (sv.getD (0) 0) 2 13 22) + ((((sv.getD (0) 0) &&& (sv.getD (1) 0)) ^^^ ((sv.getD (0) 0) &&& (sv.getD (2) 0))) ^^^ ((sv.getD (1) 0) &&& (sv.getD (2) 0)))) % 4294967296) rfl ev ev (by rw [IntKind.wrap_u32]; omega)) rfl) ?_
   iterate 5 refine e1 ?_
   refine q_w (o_addU (((oneN sv tableS (schL bs 64) K) + (twoN sv)) % 4294967296) rfl ev ev (by rw [IntKind.wrap_u32]; omega)) ?_
   refine e1 ?_
   refine q_v _ (.pointer (some ⟨g_5, 1, none⟩)) (zero_off (o_ixA (k := 0) (i := 1) (n := 8) (e := 68) rfl ev rfl (by omega) (fun _ => by kernel_rfl) (fun _ => by kernel_rfl))) ?_
   refine q_w (o_loadW rfl ev hFv (by rw [hok.1]; omega) rfl ⟨by kernel_rfl, by kernel_rfl⟩) ?_
   refine q_v _ (.pointer (some ⟨g_5, 2, none⟩)) (zero_off (o_ixA (k := 0) (i := 2) (n := 8) (e := 68) rfl ev rfl (by omega) (fun _ => by kernel_rfl) (fun _ => by kernel_rfl))) ?_
   refine q_w (o_loadW rfl ev hFv (by rw [hok.1]; omega) rfl ⟨by kernel_rfl, by kernel_rfl⟩) ?_
   refine q_v _ (.pointer (some ⟨g_5, 3, none⟩)) (zero_off (o_ixA (k := 0) (i := 3) (n := 8) (e := 68) rfl ev rfl (by omega) (fun _ => by kernel_rfl) (fun _ => by kernel_rfl))) ?_
   refine q_w (o_loadW rfl ev hFv (by rw [hok.1]; omega) rfl ⟨by kernel_rfl, by kernel_rfl⟩) ?_
   refine e1 ?_
   refine q_w (o_addU (((sv.getD (3) 0) + (oneN sv tableS (schL bs 64) K)) % 4294967296) rfl ev ev (by rw [IntKind.wrap_u32]; omega)) ?_
   refine e1 ?_
   refine q_v _ (.pointer (some ⟨g_5, 5, none⟩)) (zero_off (o_ixA (k := 0) (i := 5) (n := 8) (e := 68) rfl ev rfl (by omega) (fun _ => by kernel_rfl) (fun _ => by kernel_rfl))) ?_
   refine q_w (o_loadW rfl ev hFv (by rw [hok.1]; omega) rfl ⟨by kernel_rfl, by kernel_rfl⟩) ?_
   refine q_v _ (.pointer (some ⟨g_5, 6, none⟩)) (zero_off (o_ixA (k := 0) (i := 6) (n := 8) (e := 68) rfl ev rfl (by omega) (fun _ => by kernel_rfl) (fun _ => by kernel_rfl))) ?_
   refine q_w (o_loadW rfl ev hFv (by rw [hok.1]; omega) rfl ⟨by kernel_rfl, by kernel_rfl⟩) ?_
   refine q_v _ (.agg (iws .u32 ([((oneN sv tableS (schL bs 64) K) + (twoN sv)) % 4294967296, sv.getD (0) 0, sv.getD (1) 0, sv.getD (2) 0, ((sv.getD (3) 0) + (oneN sv tableS (schL bs 64) K)) % 4294967296, sv.getD (4) 0, sv.getD (5) 0, sv.getD (6) 0])).toArray) (o_bld rfl (bld8 ev ev ev ev ev ev ev ev) (fun _ => by kernel_rfl)) ?_
   refine q_d (o_storeI rfl ev ev hFv ⟨by kernel_rfl, by kernel_rfl⟩ (by simp [iws, hok.1])) (fun w_9 hR_4 => ?_)
   obtain ⟨hB_7, hX_2⟩ := hR_4
   replace hFs := hX_2.blk hFs ne_9
   replace hFr := hX_2.blk hFr ne_10
   replace hFx := hX_2.blk hFx ne_3
   replace hFk := hX_2.blk hFk ne_4
   have HB_7 := hX_2.below HB_6 HB_6.size (fun k hk => hk ▸ ge_5)
   clear hFv
   replace hB_7 : Blk w_9 g_5 (iws .u32 ([((oneN sv tableS (schL bs 64) K) + (twoN sv)) % 4294967296, sv.getD (0) 0, sv.getD (1) 0, sv.getD (2) 0, ((sv.getD (3) 0) + (oneN sv tableS (schL bs 64) K)) % 4294967296, sv.getD (4) 0, sv.getD (5) 0, sv.getD (6) 0])).toArray _ := hB_7
   iterate 3 refine e1 ?_
   refine q_w (o_add64 (n := 1) rfl ev rfl (by omega)) ?_
   refine e1 ?_
   refine x_nil ?_
   refine hK_6 _ _ _ ⟨K + 1, rndL v0 (schL bs 64) (K + 1), rfl, (psz hs_5), (pdf hd_5), ev, ev, ev, ev, ev, ev, (by omega), rfl, (rndL_ok hv (K + 1)), HB_7, hFs, hFr, hFx, hFk, (by rw [hvd] at hB_7; exact hB_7)⟩ ?_
   omega
  ·simp only [DD9] at h_1
   obtain rfl : K = 64 := by omega
   iterate 8 refine e1 ?_
   refine q_v 86 (.int .i64 ((0 : Nat) : Int)) (o_move rfl rfl) ?_
   iterate 2 refine e1 ?_
   refine x_loop (fun nn aa ww => ∃ (J : Nat) (z : List Nat), nn = 8 - J ∧ aa.tmps.size = 99 ∧ aa.defers = [] ∧ aa.eval (.tmp 2) = .pointer (some ⟨g_1, 0, none⟩) ∧ aa.eval (.tmp 4) = .pointer (some ⟨g_2, 0, none⟩) ∧ aa.eval (.tmp 7) = .pointer (some ⟨g_5, 0, none⟩) ∧ aa.eval (.tmp 86) = .int .i64 ((J : Nat) : Int) ∧ J ≤ 8 ∧ z = sumK v0 sv J ∧ Ok32 8 z ∧ Below w.heap.size w ww ∧ Blk ww g_1 (iws .u32 (z)).toArray 157 ∧ Blk ww g_2 (iws .u32 (List.replicate 8 0)).toArray 157 ∧ Blk ww g_5 (iws .u32 (sv)).toArray 157) (8 - 0) ?_ ?_
   ·exact ⟨0, v0, rfl, (psz hs_2), (pdf hd_2), ev, ev, ev, ev, Nat.zero_le _, rfl, hv, HBL, hFs, hFr, hFv⟩
   ·skip
    clear ta_2_2 ta_2_4 ta_2_5 ta_2_6 ta_2_7 ta_2_18 hd_2 hFs hFr hFx hFk hFv HBL
    rintro nna_6 a_6 w_10 ⟨J, z, hm_2, hs_6, hd_6, ta_6_2, ta_6_4, ta_6_7, ta_6_86, hJ, hz, hoz, HBM, hGs, hGr, hGv⟩ K_18 hK_18
    subst hm_2
    iterate 2 refine e1 ?_
    refine q_w (o_lss (n := 8) rfl ev rfl) ?_
    iterate 2 refine e1 ?_
    refine w2_split (pe hs_6 rfl rfl) (fun h_2 => ?_) (fun h_2 => ?_)
    ·simp only [DD9] at h_2
     have hlt : J < 8 := h_2
     iterate 9 refine e1 ?_
     refine y_drawn 6 [iI .i64 J, iP g_1 J, iV (.int .u32 ((z.getD (J) 0 : Nat) : Int)), iI .i64 J, iP g_5 J, iV (.int .u32 ((sv.getD (J) 0 : Nat) : Int))] [89, 90, 91, 92, 93, 94] hs_6 hd_6 ⟨sx, (step_ok rfl fun a' w' hb' hO hD => oV (zero_off (o_ixA (k := 0) (i := J) (n := 8) (e := 68) rfl ed ed (by omega) (fun _ => by kernel_rfl) (fun _ => by kernel_rfl))) rfl), (step_ok rfl fun a' w' hb' hO hD => oV (o_loadW rfl ed (hGs.nx hb') (by rw [hoz.1]; omega) rfl ⟨by kernel_rfl, by kernel_rfl⟩) rfl), sx, (step_ok rfl fun a' w' hb' hO hD => oV (zero_off (o_ixA (k := 0) (i := J) (n := 8) (e := 68) rfl ed ed (by omega) (fun _ => by kernel_rfl) (fun _ => by kernel_rfl))) rfl), (step_ok rfl fun a' w' hb' hO hD => oV (o_loadW rfl ed (hGv.nx hb') (by rw [hok.1]; omega) rfl ⟨by kernel_rfl, by kernel_rfl⟩) rfl), trivial⟩ (fun a_7 w_11 hs_7 hd_7 hb_11 hO_5 hV_5 => ?_)
     have ta_7_2 := fK 2 hO_5
     have ta_7_4 := fK 4 hO_5
     have ta_7_7 := fK 7 hO_5
     have ta_7_86 := fK 86 hO_5
     obtain ⟨hGs, hGr, hGv⟩ := nx3 hb_11 hGs hGr hGv
     have HB_8 := below_from HBM hb_11
     have ta_7_89 := fV 89 hV_5
     have ta_7_91 := fV 91 hV_5
     have ta_7_94 := fV 94 hV_5
     simp only [List.drop_succ_cons, List.drop_zero]
     refine q_w (o_addU (((z.getD (J) 0) + (sv.getD (J) 0)) % 4294967296) rfl ev ev (by rw [IntKind.wrap_u32]; omega)) ?_
     refine q_v _ (.pointer (some ⟨g_1, J, none⟩)) (zero_off (o_ixA (k := 0) (i := J) (n := 8) (e := 68) rfl ev ev (by omega) (fun _ => by kernel_rfl) (fun _ => by kernel_rfl))) ?_
     refine q_d (o_storeW rfl ev ev hGs (by rw [hoz.1]; omega) ⟨by kernel_rfl, by kernel_rfl⟩) (fun w_12 hR_5 => ?_)
     obtain ⟨hB_8, hX_3⟩ := hR_5
     replace hGr := hX_3.blk hGr (Ne.symm ne_1)
     replace hGv := hX_3.blk hGv (Ne.symm ne_9)
     have HB_9 := hX_3.below HB_8 HB_8.size (fun k hk => hk ▸ ge_1)
     clear hGs
     iterate 3 refine e1 ?_
     refine q_w (o_add64 (n := 1) rfl ev rfl (by omega)) ?_
     refine e1 ?_
     refine x_nil ?_
     refine hK_18 _ _ _ ⟨J + 1, sumK v0 sv (J + 1), rfl, (psz hs_7), (pdf hd_7), ev, ev, ev, ev, (by omega), rfl, (sumK_ok hv (J + 1)), HB_9, (by rw [hz] at hB_8; exact hB_8), hGr, hGv⟩ ?_
     omega
    ·simp only [DD9] at h_2
     obtain rfl : J = 8 := by omega
     iterate 7 refine e1 ?_
     refine q_w (o_loadI rfl ev hGs (by rw [hoz.1]; exact ⟨by kernel_rfl, by kernel_rfl⟩)) ?_
     refine q_d (o_storeI rfl ev ev hGr (by rw [hoz.1]; exact ⟨by kernel_rfl, by kernel_rfl⟩) (by rw [hoz.1]; simp [iws])) (fun w_13 hR_6 => ?_)
     obtain ⟨hB_9, hX_4⟩ := hR_6
     replace hGs := hX_4.blk hGs ne_1
     replace hGv := hX_4.blk hGv (Ne.symm ne_10)
     have HB_10 := hX_4.below HBM HBM.size (fun k hk => hk ▸ ge_2)
     clear hGr
     iterate 2 refine e1 ?_
     refine retC rfl hd_6 ((pm rfl).trans ta_6_4) (loadI hB_9 (by rw [hoz.1]; exact ⟨by kernel_rfl, by kernel_rfl⟩)) ?_
     exact ⟨by rw [hz, hvd]; rfl, HB_10⟩
end Go.Proofs.YtkhbihnnkflfkaaGreat
