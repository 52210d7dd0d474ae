/-
 Sha · Take, IN ONE TEXT.
-/
import Derived.Test.YtodhdajelnfhpaaGreatDrawnA
import Derived.Test.YtodhdajelnfhpaaGreatRot
import Derived.Test.YtodhdajelnfhpaaGreatPut
/-
 WALKS: words turned; sha: blocks.
-/
namespace Go.Proofs.YtodhdajelnfhpaaGreat
open Go.RowKit
set_option linter.unusedVariables false
set_option linter.unusedSimpArgs false
set_option maxRecDepth 100000
attribute [local irreducible] wpList wpListIn putsR

def rotr (x k : Nat) : Nat := rotl x (32 - k)
theorem rotr_lt (x k : Nat) (hx : x < 4294967296) : rotr x k < 4294967296 := rotl_lt x _ hx
theorem at64_neg {k : Nat} (h0 : 0 < k) (hk : k < 32) : at64 (-((k : Nat) : Int)) = 18446744073709551616 - k := by
 unfold at64
 rw [IntKind.wrap_u64]
 omega
theorem and31 {k : Nat} (h0 : 0 < k) (hk : k < 32) : (18446744073709551616 - k) &&& 31 = 32 - k := by
 rw [show (31 : Nat) = 2 ^ 5 - 1 from rfl, Nat.and_two_pow_sub_one_eq_mod]
 omega
def rev32 (x : Nat) : Nat :=
 let y := (x / 2 ^ 8 &&& 16711935) ||| (x &&& 16711935) * 2 ^ 8 % 4294967296
 y / 2 ^ 16 ||| y * 2 ^ 16 % 4294967296
theorem and_lt32 {a b : Nat} (h : a < 4294967296) : a &&& b < 4294967296 := Nat.lt_of_le_of_lt Nat.and_le_left h
theorem or_lt32 {a b : Nat} (h : a < 4294967296) (h2 : b < 4294967296) : a ||| b < 4294967296 := Nat.or_lt_two_pow (n := 32) h h2
theorem xor_lt32 {a b : Nat} (h : a < 4294967296) (h2 : b < 4294967296) : a ^^^ b < 4294967296 := Nat.xor_lt_two_pow (n := 32) h h2
theorem and_lt64 {a b : Nat} (h : a < 18446744073709551616) : a &&& b < 18446744073709551616 := Nat.lt_of_le_of_lt Nat.and_le_left h
theorem or_lt64 {a b : Nat} (h : a < 18446744073709551616) (h2 : b < 18446744073709551616) : a ||| b < 18446744073709551616 := Nat.or_lt_two_pow (n := 64) h h2
theorem rev32_lt (x : Nat) (hx : x < 4294967296) : rev32 x < 4294967296 := by
 unfold rev32
 exact or_lt32 (by have h := or_lt32 (and_lt32 (b := 16711935) (show x / 2 ^ 8 < 4294967296 by omega)) (Nat.mod_lt ((x &&& 16711935) * 2 ^ 8) (show 0 < 4294967296 by omega)); omega) (Nat.mod_lt _ (by omega))
def rev64 (x : Nat) : Nat :=
 let y := (x / 2 ^ 8 &&& 71777214294589695) ||| (x &&& 71777214294589695) * 2 ^ 8 % 18446744073709551616
 let z := (y / 2 ^ 16 &&& 281470681808895) ||| (y &&& 281470681808895) * 2 ^ 16 % 18446744073709551616
 z / 2 ^ 32 ||| z * 2 ^ 32 % 18446744073709551616
theorem rev64_lt (x : Nat) (hx : x < 18446744073709551616) : rev64 x < 18446744073709551616 := by
 unfold rev64
 have h := or_lt64 (and_lt64 (b := 71777214294589695) (show x / 2 ^ 8 < 18446744073709551616 by omega)) (Nat.mod_lt ((x &&& 71777214294589695) * 2 ^ 8) (show 0 < 18446744073709551616 by omega))
 generalize (x / 2 ^ 8 &&& 71777214294589695) ||| (x &&& 71777214294589695) * 2 ^ 8 % 18446744073709551616 = y at h
 have h2 := or_lt64 (and_lt64 (b := 281470681808895) (show y / 2 ^ 16 < 18446744073709551616 by omega)) (Nat.mod_lt ((y &&& 281470681808895) * 2 ^ 16) (show 0 < 18446744073709551616 by omega))
 dsimp only
 generalize (y / 2 ^ 16 &&& 281470681808895) ||| (y &&& 281470681808895) * 2 ^ 16 % 18446744073709551616 = z at h2
 exact or_lt64 (by omega) (Nat.mod_lt _ (by omega))
theorem RotR_any (x k : Nat) (w : World) (hx : x < 4294967296) (h0 : 0 < k) (hk : k < 32) :
  Calls Tryz.prog 187 #[.int .u32 ((x : Nat) : Int), .int .i64 (-((k : Nat) : Int))] w fun e w' => e = .returned (.int .u32 ((rotr x k : Nat) : Int)) ∧ w = w' := by
 refine x_enter 17 Tryz.func187 rfl rfl (fun a hs hd ha0 => ?_)
 have t0 : a.eval (.tmp 0) = .int .u32 ((x : Nat) : Int) := ha0 0 _ rfl
 have t1 : a.eval (.tmp 1) = .int .i64 (-((k : Nat) : Int)) := ha0 1 _ rfl
 clear ha0
 refine w2_sr (fun K_1 hK_1 => ?_)
 refine q_as (.int .u32 ((0 : Nat) : Int)) rfl ?_
 refine x_nil (hK_1 _ _ ?_)
 refine w2_sr (fun K_2 hK_2 => ?_)
 refine q_mv ((pm rfl).trans t1) ?_
 refine q_v 7 (.int .u64 ((18446744073709551616 - k : Nat) : Int)) (o_eq (o_convZ rfl (pe hs rfl rfl) ⟨.int .i64, fun _ => by kernel_rfl⟩ (fun _ => by kernel_rfl)) (by rw [at64_neg h0 hk])) ?_
 refine q_v 8 (.int .u64 ((32 - k : Nat) : Int)) (o_eq (o_bits (m := (18446744073709551616 - k)) (n := 31) ((18446744073709551616 - k) &&& 31) rfl (pe hs rfl rfl) rfl (by decide) (u64_and_nat _ _ (by omega) (by omega))) (by rw [and31 h0 hk])) ?_
 refine q_at (pe hs rfl rfl) ?_
 refine x_nil (hK_2 _ _ ?_)
 refine w2_sr (fun K_3 hK_3 => ?_)
 refine q_mv ((pm rfl).trans t0) ?_
 refine q_mv (pe hs rfl rfl) ?_
 refine q_v 11 (.int .u32 ((x * 2 ^ (32 - k) % 4294967296 : Nat) : Int)) (o_shl (m := x) (n := 32 - k) (x * 2 ^ (32 - k) % 4294967296) rfl (pe hs rfl rfl) (pe hs rfl rfl) (by simp [IntKind.bits]) (by rw [IntKind.wrap_u32']; simp)) ?_
 refine q_mv ((pm rfl).trans t0) ?_
 refine q_mv (pe hs rfl rfl) ?_
 refine q_v 14 (.int .u64 ((32 - (32 - k) : Nat) : Int)) (o_subU (m := 32) (n := (32 - k)) (32 - (32 - k)) rfl rfl (pe hs rfl rfl) (by rw [IntKind.wrap_u64]; omega)) ?_
 refine q_v 15 (.int .u32 ((x / 2 ^ (32 - (32 - k)) : Nat) : Int)) (o_shr (m := x) (n := 32 - (32 - k)) rfl (pe hs rfl rfl) (pe hs rfl rfl) (by simp [IntKind.bits])) ?_
 refine q_v 16 (.int .u32 (((x * 2 ^ (32 - k) % 4294967296) ||| (x / 2 ^ (32 - (32 - k))) : Nat) : Int)) (o_bits (m := (x * 2 ^ (32 - k) % 4294967296)) (n := (x / 2 ^ (32 - (32 - k)))) ((x * 2 ^ (32 - k) % 4294967296) ||| (x / 2 ^ (32 - (32 - k)))) rfl (pe hs rfl rfl) (pe hs rfl rfl) (by decide) (u32_or_nat _ _ (Nat.mod_lt _ (by omega)) (Nat.lt_of_le_of_lt (Nat.div_le_self _ _) hx))) ?_
 refine q_v 4 (.int .u32 ((rotr x k : Nat) : Int)) (o_eq (o_assign rfl (pe hs rfl rfl)) rfl) ?_
 refine x_nil (hK_3 _ _ ?_)
 refine w2_ret ?_
 refine ret1 rfl hd (pe hs rfl rfl) ?_
 exact ⟨rfl, rfl⟩
theorem Right_any (x k : Nat) (w : World) (hx : x < 4294967296) (h0 : 0 < k) (hk : k < 32) :
  Calls Tryz.prog 164 #[.int .u32 ((x : Nat) : Int), .int .i64 ((k : Nat) : Int)] w fun e w' => e = .returned (.int .u32 ((rotr x k : Nat) : Int)) ∧ w = w' := by
 refine x_enter 10 Tryz.func164 rfl rfl (fun a hs hd ha0 => ?_)
 have t0 : a.eval (.tmp 0) = .int .u32 ((x : Nat) : Int) := ha0 0 _ rfl
 have t1 : a.eval (.tmp 1) = .int .i64 ((k : Nat) : Int) := ha0 1 _ rfl
 clear ha0
 refine w2_sr (fun K_1 hK_1 => ?_)
 refine q_as (.int .u32 ((0 : Nat) : Int)) rfl ?_
 refine x_nil (hK_1 _ _ ?_)
 refine w2_sr (fun K_2 hK_2 => ?_)
 refine q_mv ((pm rfl).trans t0) ?_
 refine q_mv ((pm rfl).trans t1) ?_
 refine q_v 7 (.int .i64 ((k : Nat) : Int)) (o_eq (o_rem (m := k) (n := 32) rfl (pe hs rfl rfl) rfl (by omega) (IntWalk.i64_in _ (by omega))) (by rw [Nat.mod_eq_of_lt hk])) ?_
 refine q_v 8 (.int .i64 (-((k : Nat) : Int))) (o_neg (m := k) rfl (pe hs rfl rfl) (by omega)) ?_
 refine q_ca (vs := #[.int .u32 ((x : Nat) : Int), .int .i64 (-((k : Nat) : Int))]) Tryz.func187 (args2 (pe hs rfl rfl) (pe hs rfl rfl)) (RotR_any _ _ _ hx h0 hk) (fun e_1 w_1 hR_1 => ?_)
 obtain ⟨rfl, rfl⟩ := hR_1
 refine ⟨_, rfl, ?_⟩
 refine q_at (pe hs rfl rfl) ?_
 refine x_nil (hK_2 _ _ ?_)
 refine w2_ret ?_
 refine ret1 rfl hd (pe hs rfl rfl) ?_
 exact ⟨rfl, rfl⟩
def threeN (x a b c : Nat) : Nat := (rotr x a ^^^ rotr x b) ^^^ rotr x c
def shiftN (x a b c : Nat) : Nat := (rotr x a ^^^ rotr x b) ^^^ x / 2 ^ c
theorem three_any (x ka kb kc : Nat) (w : World) (hx : x < 4294967296) (hka0 : 0 < ka) (hka1 : ka < 32) (hkb0 : 0 < kb) (hkb1 : kb < 32) (hkc0 : 0 < kc) (hkc1 : kc < 32) :
  Calls Tryz.prog 124 #[.int .u32 ((x : Nat) : Int), .int .i64 ((ka : Nat) : Int), .int .i64 ((kb : Nat) : Int), .int .i64 ((kc : Nat) : Int)] w fun e w' => e = .returned (.int .u32 ((threeN x ka kb kc : Nat) : Int)) ∧ Below w.heap.size w w' := by
 refine x_enter 20 Tryz.func124 rfl rfl (fun a hs hd ha0 => ?_)
 have t0 : a.eval (.tmp 0) = .int .u32 ((x : Nat) : Int) := ha0 0 _ rfl
 have t1 : a.eval (.tmp 1) = .int .i64 ((ka : Nat) : Int) := ha0 1 _ rfl
 have t2 : a.eval (.tmp 2) = .int .i64 ((kb : Nat) : Int) := ha0 2 _ rfl
 have t3 : a.eval (.tmp 3) = .int .i64 ((kc : Nat) : Int) := ha0 3 _ rfl
 clear ha0
 refine w2_sr (fun K_1 hK_1 => ?_)
 refine q_as (.int .u32 ((0 : Nat) : Int)) rfl ?_
 refine x_nil (hK_1 _ _ ?_)
 refine w2_sr (fun K_2 hK_2 => ?_)
 refine q_mv ((pm rfl).trans t0) ?_
 refine q_mv ((pm rfl).trans t1) ?_
 refine q_ca (vs := #[.int .u32 ((x : Nat) : Int), .int .i64 ((ka : Nat) : Int)]) Tryz.func164 (args2 (pe hs rfl rfl) (pe hs rfl rfl)) (Right_any x ka _ hx hka0 hka1) (fun e_1 w_1 hR_1 => ?_)
 obtain ⟨rfl, rfl⟩ := hR_1
 refine ⟨_, rfl, ?_⟩
 refine q_mv ((pm rfl).trans t0) ?_
 refine q_mv ((pm rfl).trans t2) ?_
 refine q_ca (vs := #[.int .u32 ((x : Nat) : Int), .int .i64 ((kb : Nat) : Int)]) Tryz.func164 (args2 (pe hs rfl rfl) (pe hs rfl rfl)) (Right_any x kb _ hx hkb0 hkb1) (fun e_2 w_2 hR_2 => ?_)
 obtain ⟨rfl, rfl⟩ := hR_2
 refine ⟨_, rfl, ?_⟩
 refine q_v 15 (.int .u32 (((rotr x ka) ^^^ (rotr x kb) : Nat) : Int)) (o_bits (m := (rotr x ka)) (n := (rotr x kb)) ((rotr x ka) ^^^ (rotr x kb)) rfl (pe hs rfl rfl) (pe hs rfl rfl) (by decide) (u32_xor_nat _ _ (rotr_lt _ _ hx) (rotr_lt _ _ hx))) ?_
 refine q_mv ((pm rfl).trans t0) ?_
 refine q_mv ((pm rfl).trans t3) ?_
 refine q_ca (vs := #[.int .u32 ((x : Nat) : Int), .int .i64 ((kc : Nat) : Int)]) Tryz.func164 (args2 (pe hs rfl rfl) (pe hs rfl rfl)) (Right_any x kc _ hx hkc0 hkc1) (fun e_3 w_3 hR_3 => ?_)
 obtain ⟨rfl, rfl⟩ := hR_3
 refine ⟨_, rfl, ?_⟩
 refine q_v 19 (.int .u32 ((((rotr x ka) ^^^ (rotr x kb)) ^^^ (rotr x kc) : Nat) : Int)) (o_bits (m := ((rotr x ka) ^^^ (rotr x kb))) (n := (rotr x kc)) (((rotr x ka) ^^^ (rotr x kb)) ^^^ (rotr x kc)) rfl (pe hs rfl rfl) (pe hs rfl rfl) (by decide) (u32_xor_nat _ _ (xor_lt32 (rotr_lt _ _ hx) (rotr_lt _ _ hx)) (rotr_lt _ _ hx))) ?_
 refine q_at (pe hs rfl rfl) ?_
 refine x_nil (hK_2 _ _ ?_)
 refine w2_ret ?_
 refine ret1 rfl hd (pe hs rfl rfl) ?_
 exact ⟨rfl, Below.refl _ _⟩
theorem shifted_any (x ka kb kc : Nat) (w : World) (hx : x < 4294967296) (hka0 : 0 < ka) (hka1 : ka < 32) (hkb0 : 0 < kb) (hkb1 : kb < 32) (hkc0 : 0 < kc) (hkc1 : kc < 32) :
  Calls Tryz.prog 163 #[.int .u32 ((x : Nat) : Int), .int .i64 ((ka : Nat) : Int), .int .i64 ((kb : Nat) : Int), .int .i64 ((kc : Nat) : Int)] w fun e w' => e = .returned (.int .u32 ((shiftN x ka kb kc : Nat) : Int)) ∧ Below w.heap.size w w' := by
 refine x_enter 20 Tryz.func163 rfl rfl (fun a hs hd ha0 => ?_)
 have t0 : a.eval (.tmp 0) = .int .u32 ((x : Nat) : Int) := ha0 0 _ rfl
 have t1 : a.eval (.tmp 1) = .int .i64 ((ka : Nat) : Int) := ha0 1 _ rfl
 have t2 : a.eval (.tmp 2) = .int .i64 ((kb : Nat) : Int) := ha0 2 _ rfl
 have t3 : a.eval (.tmp 3) = .int .i64 ((kc : Nat) : Int) := ha0 3 _ rfl
 clear ha0
 refine w2_sr (fun K_1 hK_1 => ?_)
 refine q_as (.int .u32 ((0 : Nat) : Int)) rfl ?_
 refine x_nil (hK_1 _ _ ?_)
 refine w2_seq (fun K_2 hK_2 => ?_)
 refine x_drawn 10 [fun _ v => v = .int .u32 ((x : Nat) : Int), fun _ v => v = .int .i64 ((ka : Nat) : Int), fun ww vv => vv = .int .u32 ((rotr x ka : Nat) : Int), fun _ v => v = .int .u32 ((x : Nat) : Int), fun _ v => v = .int .i64 ((kb : Nat) : Int), fun ww vv => vv = .int .u32 ((rotr x kb : Nat) : Int), fun _ v => v = .int .u32 (((rotr x ka) ^^^ (rotr x kb) : Nat) : Int), fun _ v => v = .int .u32 ((x : Nat) : Int), fun _ v => v = .int .i64 ((kc : Nat) : Int), fun _ v => v = .int .u32 ((x / 2 ^ kc : Nat) : Int)] [9, 10, 11, 12, 13, 14, 15, 16, 17, 18] hs hd (by kernel_rfl) (by kernel_rfl) (by kernel_rfl) (by kernel_rfl) (by kernel_rfl) ⟨stLit, stLit, stLit, stLit, stLit, stLit, stLit, stLit, stLit, stLit, trivial⟩ ⟨(step_ok rfl (fun a' w' hb' hO hD => by
   have d_1 := (hO 0 (by decide)).trans ((pm rfl).trans t0)
   exact .inl ⟨_, _, (o_move rfl d_1), rfl, Below.refl _ _⟩)),
(step_ok rfl (fun a' w' hb' hO hD => by
   have d_2 := (hO 1 (by decide)).trans ((pm rfl).trans t1)
   exact .inl ⟨_, _, (o_move rfl d_2), rfl, Below.refl _ _⟩)),
(step_ok rfl (fun a' w' hb' hO hD => by
   have d_3 : a'.eval (.tmp 9) = .int .u32 ((x : Nat) : Int) := hD 0 9 (by kernel_rfl) rfl
   have d_4 : a'.eval (.tmp 10) = .int .i64 ((ka : Nat) : Int) := hD 1 10 (by kernel_rfl) rfl
   exact .inr ⟨_, #[.int .u32 ((x : Nat) : Int), .int .i64 ((ka : Nat) : Int)], (exec_call Tryz.func164 (by kernel_rfl) (by kernel_rfl) _ rfl _ _ (args2 d_3 d_4)), Calls.mono (Right_any x ka _ hx hka0 hka1) (fun e w'' hR => by obtain ⟨rfl, rfl⟩ := hR; exact ⟨_, rfl, rfl, (Below.refl _ _)⟩)⟩)),
(step_ok rfl (fun a' w' hb' hO hD => by
   have d_5 := (hO 0 (by decide)).trans ((pm rfl).trans t0)
   exact .inl ⟨_, _, (o_move rfl d_5), rfl, Below.refl _ _⟩)),
(step_ok rfl (fun a' w' hb' hO hD => by
   have d_6 := (hO 2 (by decide)).trans ((pm rfl).trans t2)
   exact .inl ⟨_, _, (o_move rfl d_6), rfl, Below.refl _ _⟩)),
(step_ok rfl (fun a' w' hb' hO hD => by
   have d_7 : a'.eval (.tmp 12) = .int .u32 ((x : Nat) : Int) := hD 3 12 (by kernel_rfl) rfl
   have d_8 : a'.eval (.tmp 13) = .int .i64 ((kb : Nat) : Int) := hD 4 13 (by kernel_rfl) rfl
   exact .inr ⟨_, #[.int .u32 ((x : Nat) : Int), .int .i64 ((kb : Nat) : Int)], (exec_call Tryz.func164 (by kernel_rfl) (by kernel_rfl) _ rfl _ _ (args2 d_7 d_8)), Calls.mono (Right_any x kb _ hx hkb0 hkb1) (fun e w'' hR => by obtain ⟨rfl, rfl⟩ := hR; exact ⟨_, rfl, rfl, (Below.refl _ _)⟩)⟩)),
(step_ok rfl (fun a' w' hb' hO hD => by
   have d_9 : a'.eval (.tmp 11) = .int .u32 ((rotr x ka : Nat) : Int) := hD 2 11 (by kernel_rfl) rfl
   have d_10 : a'.eval (.tmp 14) = .int .u32 ((rotr x kb : Nat) : Int) := hD 5 14 (by kernel_rfl) rfl
   exact .inl ⟨_, _, (o_bits (m := (rotr x ka)) (n := (rotr x kb)) ((rotr x ka) ^^^ (rotr x kb)) rfl d_9 d_10 (by decide) (u32_xor_nat _ _ (rotr_lt _ _ hx) (rotr_lt _ _ hx))), rfl, Below.refl _ _⟩)),
(step_ok rfl (fun a' w' hb' hO hD => by
   have d_11 := (hO 0 (by decide)).trans ((pm rfl).trans t0)
   exact .inl ⟨_, _, (o_move rfl d_11), rfl, Below.refl _ _⟩)),
(step_ok rfl (fun a' w' hb' hO hD => by
   have d_12 := (hO 3 (by decide)).trans ((pm rfl).trans t3)
   exact .inl ⟨_, _, (o_move rfl d_12), rfl, Below.refl _ _⟩)),
(step_ok rfl (fun a' w' hb' hO hD => by
   have d_13 : a'.eval (.tmp 16) = .int .u32 ((x : Nat) : Int) := hD 7 16 (by kernel_rfl) rfl
   have d_14 : a'.eval (.tmp 17) = .int .i64 ((kc : Nat) : Int) := hD 8 17 (by kernel_rfl) rfl
   exact .inl ⟨_, _, (o_shr (m := x) (n := kc) rfl d_13 d_14 (by simp [IntKind.bits]; omega)), rfl, Below.refl _ _⟩)), trivial⟩ (fun a_1 w_1 hs_1 hd_1 hb_3 hO_1 hV_1 => ?_)
 clear t0 t1 t2 t3 hd
 have ta_1_15 : a_1.eval (.tmp 15) = .int .u32 (((rotr x ka) ^^^ (rotr x kb) : Nat) : Int) := hV_1 6 15 rfl rfl
 have ta_1_18 : a_1.eval (.tmp 18) = .int .u32 ((x / 2 ^ kc : Nat) : Int) := hV_1 9 18 rfl rfl
 clear hV_1 hO_1
 simp only [List.drop_succ_cons, List.drop_zero]
 refine q_v 19 (.int .u32 ((((rotr x ka) ^^^ (rotr x kb)) ^^^ (x / 2 ^ kc) : Nat) : Int)) (o_bits (m := ((rotr x ka) ^^^ (rotr x kb))) (n := (x / 2 ^ kc)) (((rotr x ka) ^^^ (rotr x kb)) ^^^ (x / 2 ^ kc)) rfl ((pm rfl).trans ta_1_15) ((pm rfl).trans ta_1_18) (by decide) (u32_xor_nat _ _ (xor_lt32 (rotr_lt _ _ hx) (rotr_lt _ _ hx)) (Nat.lt_of_le_of_lt (Nat.div_le_self _ _) hx))) ?_
 refine q_at (pe hs_1 rfl rfl) ?_
 refine x_nil (hK_2 _ _ ?_)
 refine w2_ret ?_
 refine ret1 rfl hd_1 (pe hs_1 rfl rfl) ?_
 exact ⟨rfl, hb_3⟩
theorem Rev32_any (x : Nat) (w : World) (hx : x < 4294967296) :
  Calls Tryz.prog 128 #[.int .u32 ((x : Nat) : Int)] w fun e w' => e = .returned (.int .u32 ((rev32 x : Nat) : Int)) ∧ w = w' := by
 refine x_enter 15 Tryz.func128 rfl rfl (fun a hs hd ha0 => ?_)
 have t0 : a.eval (.tmp 0) = .int .u32 ((x : Nat) : Int) := ha0 0 _ rfl
 clear ha0
 refine w2_sr (fun K_1 hK_1 => ?_)
 refine q_as (.int .u32 ((0 : Nat) : Int)) rfl ?_
 refine x_nil (hK_1 _ _ ?_)
 refine w2_sr (fun K_2 hK_2 => ?_)
 refine q_mv ((pm rfl).trans t0) ?_
 refine q_v 4 (.int .u32 ((x / 2 ^ 8 : Nat) : Int)) (o_shr (m := x) (n := 8) rfl (pe hs rfl rfl) rfl (by decide)) ?_
 refine q_v 5 (.int .u32 (((x / 2 ^ 8) &&& 16711935 : Nat) : Int)) (o_bits (m := (x / 2 ^ 8)) (n := 16711935) ((x / 2 ^ 8) &&& 16711935) rfl (pe hs rfl rfl) rfl (by decide) (u32_and_nat _ _ (show x / 2 ^ 8 < 4294967296 by omega) (by decide))) ?_
 refine q_mv ((pm rfl).trans t0) ?_
 refine q_v 7 (.int .u32 ((x &&& 16711935 : Nat) : Int)) (o_bits (m := x) (n := 16711935) (x &&& 16711935) rfl (pe hs rfl rfl) rfl (by decide) (u32_and_nat _ _ hx (by decide))) ?_
 refine q_v 8 (.int .u32 (((x &&& 16711935) * 2 ^ 8 % 4294967296 : Nat) : Int)) (o_shl (m := (x &&& 16711935)) (n := 8) ((x &&& 16711935) * 2 ^ 8 % 4294967296) rfl (pe hs rfl rfl) rfl (by decide) (by rw [IntKind.wrap_u32]; simp)) ?_
 refine q_v 9 (.int .u32 ((((x / 2 ^ 8) &&& 16711935) ||| ((x &&& 16711935) * 2 ^ 8 % 4294967296) : Nat) : Int)) (o_bits (m := ((x / 2 ^ 8) &&& 16711935)) (n := ((x &&& 16711935) * 2 ^ 8 % 4294967296)) (((x / 2 ^ 8) &&& 16711935) ||| ((x &&& 16711935) * 2 ^ 8 % 4294967296)) rfl (pe hs rfl rfl) (pe hs rfl rfl) (by decide) (u32_or_nat _ _ (and_lt32 (by omega)) (Nat.mod_lt _ (by omega)))) ?_
 refine q_at (pe hs rfl rfl) ?_
 refine x_nil ?_
 have hy := or_lt32 (and_lt32 (b := 16711935) (show x / 2 ^ 8 < 4294967296 by omega)) (Nat.mod_lt ((x &&& 16711935) * 2 ^ 8) (show 0 < 4294967296 by omega))
 obtain ⟨y, hyd⟩ : ∃ q, q = (x / 2 ^ 8 &&& 16711935) ||| (x &&& 16711935) * 2 ^ 8 % 4294967296 := ⟨_, rfl⟩
 rw [← hyd] at hy
 refine hK_2 _ _ ?_
 refine w2_sr (fun K_3 hK_3 => ?_)
 refine q_mv (pe hs rfl rfl) ?_
 refine q_v 11 (.int .u32 (((((x / 2 ^ 8) &&& 16711935) ||| ((x &&& 16711935) * 2 ^ 8 % 4294967296)) / 2 ^ 16 : Nat) : Int)) (o_shr (m := (((x / 2 ^ 8) &&& 16711935) ||| ((x &&& 16711935) * 2 ^ 8 % 4294967296))) (n := 16) rfl (pe hs rfl rfl) rfl (by decide)) ?_
 refine q_mv (pe hs rfl rfl) ?_
 refine q_v 13 (.int .u32 (((((x / 2 ^ 8) &&& 16711935) ||| ((x &&& 16711935) * 2 ^ 8 % 4294967296)) * 2 ^ 16 % 4294967296 : Nat) : Int)) (o_shl (m := (((x / 2 ^ 8) &&& 16711935) ||| ((x &&& 16711935) * 2 ^ 8 % 4294967296))) (n := 16) ((((x / 2 ^ 8) &&& 16711935) ||| ((x &&& 16711935) * 2 ^ 8 % 4294967296)) * 2 ^ 16 % 4294967296) rfl (pe hs rfl rfl) rfl (by decide) (by rw [IntKind.wrap_u32]; simp)) ?_
 refine q_v 14 (.int .u32 ((((((x / 2 ^ 8) &&& 16711935) ||| ((x &&& 16711935) * 2 ^ 8 % 4294967296)) / 2 ^ 16) ||| ((((x / 2 ^ 8) &&& 16711935) ||| ((x &&& 16711935) * 2 ^ 8 % 4294967296)) * 2 ^ 16 % 4294967296) : Nat) : Int)) (o_bits (m := ((((x / 2 ^ 8) &&& 16711935) ||| ((x &&& 16711935) * 2 ^ 8 % 4294967296)) / 2 ^ 16)) (n := ((((x / 2 ^ 8) &&& 16711935) ||| ((x &&& 16711935) * 2 ^ 8 % 4294967296)) * 2 ^ 16 % 4294967296)) (((((x / 2 ^ 8) &&& 16711935) ||| ((x &&& 16711935) * 2 ^ 8 % 4294967296)) / 2 ^ 16) ||| ((((x / 2 ^ 8) &&& 16711935) ||| ((x &&& 16711935) * 2 ^ 8 % 4294967296)) * 2 ^ 16 % 4294967296)) rfl (pe hs rfl rfl) (pe hs rfl rfl) (by decide) (u32_or_nat _ _ (by rw [← hyd]; omega) (Nat.mod_lt _ (by omega)))) ?_
 refine q_v 2 (.int .u32 ((rev32 x : Nat) : Int)) (o_eq (o_assign rfl (pe hs rfl rfl)) rfl) ?_
 refine x_nil (hK_3 _ _ ?_)
 refine w2_ret ?_
 refine ret1 rfl hd (pe hs rfl rfl) ?_
 exact ⟨rfl, rfl⟩
theorem Rev64_any (x : Nat) (w : World) (hx : x < 18446744073709551616) :
  Calls Tryz.prog 126 #[.int .u64 ((x : Nat) : Int)] w fun e w' => e = .returned (.int .u64 ((rev64 x : Nat) : Int)) ∧ w = w' := by
 obtain ⟨y, hyd⟩ : ∃ q, q = (x / 2 ^ 8 &&& 71777214294589695) ||| (x &&& 71777214294589695) * 2 ^ 8 % 18446744073709551616 := ⟨_, rfl⟩
 have hy : y < 18446744073709551616 := by rw [hyd]; exact or_lt64 (and_lt64 (by omega)) (Nat.mod_lt _ (by omega))
 obtain ⟨z, hzd⟩ : ∃ q, q = (y / 2 ^ 16 &&& 281470681808895) ||| (y &&& 281470681808895) * 2 ^ 16 % 18446744073709551616 := ⟨_, rfl⟩
 have hz : z < 18446744073709551616 := by rw [hzd]; exact or_lt64 (and_lt64 (by omega)) (Nat.mod_lt _ (by omega))
 refine x_enter 22 Tryz.func126 rfl rfl (fun a hs hd ha0 => ?_)
 have t0 : a.eval (.tmp 0) = .int .u64 ((x : Nat) : Int) := ha0 0 _ rfl
 clear ha0
 refine w2_sr (fun K_1 hK_1 => ?_)
 refine q_as (.int .u64 ((0 : Nat) : Int)) rfl ?_
 refine x_nil (hK_1 _ _ ?_)
 refine w2_sr (fun K_2 hK_2 => ?_)
 refine q_mv ((pm rfl).trans t0) ?_
 refine q_v 4 (.int .u64 ((x / 2 ^ 8 : Nat) : Int)) (o_shr (m := x) (n := 8) rfl (pe hs rfl rfl) rfl (by decide)) ?_
 refine q_v 5 (.int .u64 (((x / 2 ^ 8) &&& 71777214294589695 : Nat) : Int)) (o_bits (m := (x / 2 ^ 8)) (n := 71777214294589695) ((x / 2 ^ 8) &&& 71777214294589695) rfl (pe hs rfl rfl) rfl (by decide) (u64_and_nat _ _ (show x / 2 ^ 8 < 18446744073709551616 by omega) (by decide))) ?_
 refine q_mv ((pm rfl).trans t0) ?_
 refine q_v 7 (.int .u64 ((x &&& 71777214294589695 : Nat) : Int)) (o_bits (m := x) (n := 71777214294589695) (x &&& 71777214294589695) rfl (pe hs rfl rfl) rfl (by decide) (u64_and_nat _ _ hx (by decide))) ?_
 refine q_v 8 (.int .u64 (((x &&& 71777214294589695) * 2 ^ 8 % 18446744073709551616 : Nat) : Int)) (o_shl (m := (x &&& 71777214294589695)) (n := 8) ((x &&& 71777214294589695) * 2 ^ 8 % 18446744073709551616) rfl (pe hs rfl rfl) rfl (by decide) (by rw [IntKind.wrap_u64]; simp)) ?_
 refine q_v 9 (.int .u64 ((((x / 2 ^ 8) &&& 71777214294589695) ||| ((x &&& 71777214294589695) * 2 ^ 8 % 18446744073709551616) : Nat) : Int)) (o_bits (m := ((x / 2 ^ 8) &&& 71777214294589695)) (n := ((x &&& 71777214294589695) * 2 ^ 8 % 18446744073709551616)) (((x / 2 ^ 8) &&& 71777214294589695) ||| ((x &&& 71777214294589695) * 2 ^ 8 % 18446744073709551616)) rfl (pe hs rfl rfl) (pe hs rfl rfl) (by decide) (u64_or_nat _ _ (and_lt64 (by omega)) (Nat.mod_lt _ (by omega)))) ?_
 refine q_v 0 (.int .u64 ((y : Nat) : Int)) (o_eq (o_assign rfl (pe hs rfl rfl)) (by rw [hyd])) ?_
 refine x_nil (hK_2 _ _ ?_)
 refine w2_sr (fun K_3 hK_3 => ?_)
 refine q_mv (pe hs rfl rfl) ?_
 refine q_v 11 (.int .u64 ((y / 2 ^ 16 : Nat) : Int)) (o_shr (m := y) (n := 16) rfl (pe hs rfl rfl) rfl (by decide)) ?_
 refine q_v 12 (.int .u64 (((y / 2 ^ 16) &&& 281470681808895 : Nat) : Int)) (o_bits (m := (y / 2 ^ 16)) (n := 281470681808895) ((y / 2 ^ 16) &&& 281470681808895) rfl (pe hs rfl rfl) rfl (by decide) (u64_and_nat _ _ (show y / 2 ^ 16 < 18446744073709551616 by omega) (by decide))) ?_
 refine q_mv (pe hs rfl rfl) ?_
 refine q_v 14 (.int .u64 ((y &&& 281470681808895 : Nat) : Int)) (o_bits (m := y) (n := 281470681808895) (y &&& 281470681808895) rfl (pe hs rfl rfl) rfl (by decide) (u64_and_nat _ _ hy (by decide))) ?_
 refine q_v 15 (.int .u64 (((y &&& 281470681808895) * 2 ^ 16 % 18446744073709551616 : Nat) : Int)) (o_shl (m := (y &&& 281470681808895)) (n := 16) ((y &&& 281470681808895) * 2 ^ 16 % 18446744073709551616) rfl (pe hs rfl rfl) rfl (by decide) (by rw [IntKind.wrap_u64]; simp)) ?_
 refine q_v 16 (.int .u64 ((((y / 2 ^ 16) &&& 281470681808895) ||| ((y &&& 281470681808895) * 2 ^ 16 % 18446744073709551616) : Nat) : Int)) (o_bits (m := ((y / 2 ^ 16) &&& 281470681808895)) (n := ((y &&& 281470681808895) * 2 ^ 16 % 18446744073709551616)) (((y / 2 ^ 16) &&& 281470681808895) ||| ((y &&& 281470681808895) * 2 ^ 16 % 18446744073709551616)) rfl (pe hs rfl rfl) (pe hs rfl rfl) (by decide) (u64_or_nat _ _ (and_lt64 (by omega)) (Nat.mod_lt _ (by omega)))) ?_
 refine q_v 0 (.int .u64 ((z : Nat) : Int)) (o_eq (o_assign rfl (pe hs rfl rfl)) (by rw [hzd])) ?_
 refine x_nil (hK_3 _ _ ?_)
 refine w2_sr (fun K_4 hK_4 => ?_)
 refine q_mv (pe hs rfl rfl) ?_
 refine q_v 18 (.int .u64 ((z / 2 ^ 32 : Nat) : Int)) (o_shr (m := z) (n := 32) rfl (pe hs rfl rfl) rfl (by decide)) ?_
 refine q_mv (pe hs rfl rfl) ?_
 refine q_v 20 (.int .u64 ((z * 2 ^ 32 % 18446744073709551616 : Nat) : Int)) (o_shl (m := z) (n := 32) (z * 2 ^ 32 % 18446744073709551616) rfl (pe hs rfl rfl) rfl (by decide) (by rw [IntKind.wrap_u64]; simp)) ?_
 refine q_v 21 (.int .u64 (((z / 2 ^ 32) ||| (z * 2 ^ 32 % 18446744073709551616) : Nat) : Int)) (o_bits (m := (z / 2 ^ 32)) (n := (z * 2 ^ 32 % 18446744073709551616)) ((z / 2 ^ 32) ||| (z * 2 ^ 32 % 18446744073709551616)) rfl (pe hs rfl rfl) (pe hs rfl rfl) (by decide) (u64_or_nat _ _ (by omega) (Nat.mod_lt _ (by omega)))) ?_
 refine q_v 2 (.int .u64 ((rev64 x : Nat) : Int)) (o_eq (o_assign rfl (pe hs rfl rfl)) (by rw [hzd, hyd]; rfl)) ?_
 refine x_nil (hK_4 _ _ ?_)
 refine w2_ret ?_
 refine ret1 rfl hd (pe hs rfl rfl) ?_
 exact ⟨rfl, rfl⟩
theorem low32_lt {xs : List Nat} (h : ∀ x ∈ xs, x < 256) (i : Nat) : lowN xs i 4 < 4294967296 := lowN_lt h i 4
theorem High32_any {A0 : Option Addr} {c0 q : Nat} {bs : List Nat} (i : Nat) (w : World) (h0 : Bs w A0 c0 bs) (hq : bs.length = q) (hi : i < 4611686018427387904) :
  Calls Tryz.prog 162 #[.slice A0 (q) (c0), .int .i64 ((i : Nat) : Int)] w fun e w' => e = .returned (.int .u32 ((rev32 (lowN bs i 4) : Nat) : Int)) ∧ w = w' := by
 refine x_enter 9 Tryz.func162 rfl rfl (fun a hs hd ha0 => ?_)
 have t0 : a.eval (.tmp 0) = .slice A0 (q) (c0) := ha0 0 _ rfl
 have t1 : a.eval (.tmp 1) = .int .i64 ((i : Nat) : Int) := ha0 1 _ rfl
 clear ha0
 refine w2_sr (fun K_1 hK_1 => ?_)
 refine q_as (.int .u32 ((0 : Nat) : Int)) rfl ?_
 refine x_nil (hK_1 _ _ ?_)
 refine w2_sr (fun K_2 hK_2 => ?_)
 refine q_mv ((pm rfl).trans t0) ?_
 refine q_mv ((pm rfl).trans t1) ?_
 refine q_ca (vs := #[.slice A0 (q) (c0), .int .i64 ((i : Nat) : Int)]) Tryz.func186 (args2 (pe hs rfl rfl) (pe hs rfl rfl)) (Low32_any _ h0 hq i (by omega)) (fun e_1 w_1 hR_1 => ?_)
 obtain ⟨rfl, rfl⟩ := hR_1
 refine ⟨_, rfl, ?_⟩
 refine q_ca (vs := #[.int .u32 ((lowN bs i 4 : Nat) : Int)]) Tryz.func128 (args1 (pe hs rfl rfl)) (Rev32_any (lowN bs i 4) _ (low32_lt h0.b8 _)) (fun e_2 w_2 hR_2 => ?_)
 obtain ⟨rfl, rfl⟩ := hR_2
 refine ⟨_, rfl, ?_⟩
 refine q_at (pe hs rfl rfl) ?_
 refine x_nil (hK_2 _ _ ?_)
 refine w2_ret ?_
 refine ret1 rfl hd (pe hs rfl rfl) ?_
 exact ⟨rfl, rfl⟩
theorem PutHigh32_any (x : Nat) (w : World) (hx : x < 4294967296) :
  Calls Tryz.prog 85 #[.int .u32 ((x : Nat) : Int)] w fun e w' => ∃ A c, e = .returned (.slice A 4 c) ∧ Own w' w.heap.size A c (putL (rev32 x) 4) ∧ Below w.heap.size w w' := by
 refine x_enter 6 Tryz.func85 rfl rfl (fun a hs hd ha0 => ?_)
 have t0 : a.eval (.tmp 0) = .int .u32 ((x : Nat) : Int) := ha0 0 _ rfl
 clear ha0
 refine w2_sr (fun K_1 hK_1 => ?_)
 refine q_as (.slice none (0) (0)) rfl ?_
 refine x_nil (hK_1 _ _ ?_)
 refine w2_sr (fun K_2 hK_2 => ?_)
 refine q_mv ((pm rfl).trans t0) ?_
 refine q_ca (vs := #[.int .u32 ((x : Nat) : Int)]) Tryz.func128 (args1 (pe hs rfl rfl)) (Rev32_any x _ hx) (fun e_1 w_1 hR_1 => ?_)
 obtain ⟨rfl, rfl⟩ := hR_1
 refine ⟨_, rfl, ?_⟩
 refine q_ca (vs := #[.int .u32 ((rev32 x : Nat) : Int)]) Tryz.func127 (args1 (pe hs rfl rfl)) (PutLow32_any (rev32 x) _ (rev32_lt _ hx)) (fun e_2 w_2 hR_2 => ?_)
 obtain ⟨A_1, c_1, rfl, ho_1, hb_2⟩ := hR_2
 refine ⟨_, rfl, ?_⟩
 refine q_at (pe hs rfl rfl) ?_
 refine x_nil (hK_2 _ _ ?_)
 refine w2_ret ?_
 refine ret1 rfl hd (pe hs rfl rfl) ?_
 exact ⟨_, _, rfl, ho_1, hb_2⟩
theorem PutHigh64_any (x : Nat) (w : World) (hx : x < 18446744073709551616) :
  Calls Tryz.prog 84 #[.int .u64 ((x : Nat) : Int)] w fun e w' => ∃ A c, e = .returned (.slice A 8 c) ∧ Own w' w.heap.size A c (putL (rev64 x) 8) ∧ Below w.heap.size w w' := by
 refine x_enter 6 Tryz.func84 rfl rfl (fun a hs hd ha0 => ?_)
 have t0 : a.eval (.tmp 0) = .int .u64 ((x : Nat) : Int) := ha0 0 _ rfl
 clear ha0
 refine w2_sr (fun K_1 hK_1 => ?_)
 refine q_as (.slice none (0) (0)) rfl ?_
 refine x_nil (hK_1 _ _ ?_)
 refine w2_sr (fun K_2 hK_2 => ?_)
 refine q_mv ((pm rfl).trans t0) ?_
 refine q_ca (vs := #[.int .u64 ((x : Nat) : Int)]) Tryz.func126 (args1 (pe hs rfl rfl)) (Rev64_any x _ hx) (fun e_1 w_1 hR_1 => ?_)
 obtain ⟨rfl, rfl⟩ := hR_1
 refine ⟨_, rfl, ?_⟩
 refine q_ca (vs := #[.int .u64 ((rev64 x : Nat) : Int)]) Tryz.func125 (args1 (pe hs rfl rfl)) (PutLow64_any (rev64 x) _ (rev64_lt _ hx)) (fun e_2 w_2 hR_2 => ?_)
 obtain ⟨A_1, c_1, rfl, ho_1, hb_2⟩ := hR_2
 refine ⟨_, rfl, ?_⟩
 refine q_at (pe hs rfl rfl) ?_
 refine x_nil (hK_2 _ _ ?_)
 refine w2_ret ?_
 refine ret1 rfl hd (pe hs rfl rfl) ?_
 exact ⟨_, _, rfl, ho_1, hb_2⟩
def beginS : List Nat := [1779033703, 3144134277, 1013904242, 2773480762, 1359893119, 2600822924, 528734635, 1541459225]
def tableS : List Nat := [1116352408, 1899447441, 3049323471, 3921009573, 961987163, 1508970993, 2453635748, 2870763221, 3624381080, 310598401, 607225278, 1426881987, 1925078388, 2162078206, 2614888103, 3248222580, 3835390401, 4022224774, 264347078, 604807628, 770255983, 1249150122, 1555081692, 1996064986, 2554220882, 2821834349, 2952996808, 3210313671, 3336571891, 3584528711, 113926993, 338241895, 666307205, 773529912, 1294757372, 1396182291, 1695183700, 1986661051, 2177026350, 2456956037, 2730485921, 2820302411, 3259730800, 3345764771, 3516065817, 3600352804, 4094571909, 275423344, 430227734, 506948616, 659060556, 883997877, 958139571, 1322822218, 1537002063, 1747873779, 1955562222, 2024104815, 2227730452, 2361852424, 2428436474, 2756734187, 3204031479, 3329325298]
def Ok32 (n : Nat) (xs : List Nat) : Prop := xs.length = n ∧ ∀ x ∈ xs, x < 4294967296
theorem Ok32.get {n : Nat} {xs : List Nat} (h : Ok32 n xs) (i : Nat) : xs.getD i 0 < 4294967296 := by
 rw [List.getD_eq_getElem?_getD]
 by_cases hi : i < xs.length
 ·rw [List.getElem?_eq_getElem hi]; exact h.2 _ (List.getElem_mem hi)
 ·rw [List.getElem?_eq_none (by omega)]; decide
theorem Ok32.set {n : Nat} {xs : List Nat} (h : Ok32 n xs) (i v : Nat) (hv : v < 4294967296) : Ok32 n (xs.set i v) := ⟨by rw [List.length_set]; exact h.1, fun x hx => (List.mem_or_eq_of_mem_set hx).elim (h.2 x) (fun e => e ▸ hv)⟩
theorem beginS_ok : Ok32 8 beginS := ⟨rfl, by decide⟩
theorem tableS_ok : Ok32 64 tableS := ⟨rfl, by decide⟩
/-- A block's words, K of them. -/
def schW (xs : List Nat) (K : Nat) : Nat := (((shiftN (xs.getD (K - 2) 0) 17 19 10 + xs.getD (K - 7) 0) % 4294967296 + shiftN (xs.getD (K - 15) 0) 7 18 3) % 4294967296 + xs.getD (K - 16) 0) % 4294967296
def schL (bs : List Nat) : Nat → List Nat
 | 0 => List.replicate 64 0
 | K + 1 => if K < 16 then (schL bs K).set K (rev32 (lowN bs (4 * K) 4)) else (schL bs K).set K (schW (schL bs K) K)
theorem schL_ok {bs : List Nat} (h : ∀ x ∈ bs, x < 256) : ∀ K, Ok32 64 (schL bs K)
 | 0 => ⟨by rw [schL, List.length_replicate], fun x hx => by rw [schL] at hx; rw [(List.mem_replicate.1 hx).2]; omega⟩
 | K + 1 => by
  have ih := schL_ok h K
  rw [schL]
  split
  ·exact ih.set _ _ (rev32_lt _ (low32_lt h _))
  ·exact ih.set _ _ (Nat.mod_lt _ (by omega))
def oneN (v k x : List Nat) (K : Nat) : Nat := ((((v.getD 7 0 + threeN (v.getD 4 0) 6 11 25) % 4294967296 + ((v.getD 4 0 &&& v.getD 5 0) ^^^ ((4294967295 ^^^ v.getD 4 0) &&& v.getD 6 0))) % 4294967296 + k.getD K 0) % 4294967296 + x.getD K 0) % 4294967296
def twoN (v : List Nat) : Nat := (threeN (v.getD 0 0) 2 13 22 + (((v.getD 0 0 &&& v.getD 1 0) ^^^ (v.getD 0 0 &&& v.getD 2 0)) ^^^ (v.getD 1 0 &&& v.getD 2 0))) % 4294967296
def rndL (v0 x : List Nat) : Nat → List Nat
 | 0 => v0
 | K + 1 => let v := rndL v0 x K; [(oneN v tableS x K + twoN v) % 4294967296, v.getD 0 0, v.getD 1 0, v.getD 2 0, (v.getD 3 0 + oneN v tableS x K) % 4294967296, v.getD 4 0, v.getD 5 0, v.getD 6 0]
theorem rndL_ok {v0 x : List Nat} (h : Ok32 8 v0) : ∀ K, Ok32 8 (rndL v0 x K)
 | 0 => h
 | K + 1 => by
  have ih := rndL_ok (x := x) h K
  refine ⟨rfl, fun y hy => ?_⟩
  simp only [rndL, List.mem_cons, List.not_mem_nil, or_false] at hy
  rcases hy with rfl | rfl | rfl | rfl | rfl | rfl | rfl | rfl <;> first | exact Nat.mod_lt _ (by omega) | exact ih.get _
def sumK (v0 v : List Nat) : Nat → List Nat
 | 0 => v0
 | K + 1 => (sumK v0 v K).set K (((sumK v0 v K).getD K 0 + v.getD K 0) % 4294967296)
theorem sumK_ok {v0 v : List Nat} (h : Ok32 8 v0) : ∀ K, Ok32 8 (sumK v0 v K)
 | 0 => h
 | K + 1 => (sumK_ok h K).set _ _ (Nat.mod_lt _ (by omega))
/-- A block, taken. -/
def takeL (v0 bs : List Nat) : List Nat := sumK v0 (rndL v0 (schL bs 64) 64) 8
theorem takeL_ok {v0 : List Nat} (h : Ok32 8 v0) (bs : List Nat) : Ok32 8 (takeL v0 bs) := sumK_ok h 8
theorem begin_sha (w : World) :
  Calls Tryz.prog 82 #[] w fun e w' => e = .returned (.agg (iws .u32 beginS).toArray) ∧ Below w.heap.size w w' := by
 refine x_enter 2 Tryz.func82 rfl rfl (fun a hs hd ha0 => ?_)
 clear ha0
 refine w2_sr (fun K_1 hK_1 => ?_)
 refine op_ex (d := 0) rfl rfl (o_alloc (zs := (iws .u32 (List.replicate 8 0)).toArray) rfl (fun _ => by kernel_rfl)) (fun v_1 w_1 hR_1 => ?_)
 obtain ⟨g_1, rfl, hle_1, hB_1, hb_1⟩ := hR_1
 have ge_1 : w.heap.size ≤ g_1 := hle_1
 refine x_nil (hK_1 _ _ ?_)
 refine w2_sr (fun K_2 hK_2 => ?_)
 refine q_v 1 (.agg (iws .u32 ([1779033703, 3144134277, 1013904242, 2773480762, 1359893119, 2600822924, 528734635, 1541459225])).toArray) (o_bld (vs := #[(0, .int .u32 ((1779033703 : Nat) : Int)), (1, .int .u32 ((3144134277 : Nat) : Int)), (2, .int .u32 ((1013904242 : Nat) : Int)), (3, .int .u32 ((2773480762 : Nat) : Int)), (4, .int .u32 ((1359893119 : Nat) : Int)), (5, .int .u32 ((2600822924 : Nat) : Int)), (6, .int .u32 ((528734635 : Nat) : Int)), (7, .int .u32 ((1541459225 : Nat) : Int))]) rfl (bldc (fun _ => rfl) _ _ rfl) (fun _ => by kernel_rfl)) ?_
 refine op_do rfl rfl (o_storeI rfl (pe hs rfl rfl) (pe hs rfl rfl) hB_1 ⟨by kernel_rfl, by kernel_rfl⟩ (by simp [iws])) (fun w_2 hR_2 => ?_)
 obtain ⟨hB_2, hX_1⟩ := hR_2
 have HB_1 := hX_1.below hb_1 hb_1.size (fun k hk => hk ▸ ge_1)
 clear hB_1
 replace hB_2 : Blk w_2 g_1 (iws .u32 ([1779033703, 3144134277, 1013904242, 2773480762, 1359893119, 2600822924, 528734635, 1541459225])).toArray _ := hB_2
 refine x_nil (hK_2 _ _ ?_)
 refine w2_ret ?_
 refine retC rfl hd (pe hs rfl rfl) (loadI hB_2 ⟨by kernel_rfl, by kernel_rfl⟩) ?_
 exact ⟨rfl, HB_1⟩
theorem table_sha (w : World) :
  Calls Tryz.prog 123 #[] w fun e w' => e = .returned (.agg (iws .u32 tableS).toArray) ∧ Below w.heap.size w w' := by
 refine x_enter 2 Tryz.func123 rfl rfl (fun a hs hd ha0 => ?_)
 clear ha0
 refine w2_sr (fun K_1 hK_1 => ?_)
 refine op_ex (d := 0) rfl rfl (o_alloc (zs := (iws .u32 (List.replicate 64 0)).toArray) rfl (fun _ => by kernel_rfl)) (fun v_1 w_1 hR_1 => ?_)
 obtain ⟨g_1, rfl, hle_1, hB_1, hb_1⟩ := hR_1
 have ge_1 : w.heap.size ≤ g_1 := hle_1
 refine x_nil (hK_1 _ _ ?_)
 refine w2_sr (fun K_2 hK_2 => ?_)
 refine q_v 1 (.agg (iws .u32 ([1116352408, 1899447441, 3049323471, 3921009573, 961987163, 1508970993, 2453635748, 2870763221, 3624381080, 310598401, 607225278, 1426881987, 1925078388, 2162078206, 2614888103, 3248222580, 3835390401, 4022224774, 264347078, 604807628, 770255983, 1249150122, 1555081692, 1996064986, 2554220882, 2821834349, 2952996808, 3210313671, 3336571891, 3584528711, 113926993, 338241895, 666307205, 773529912, 1294757372, 1396182291, 1695183700, 1986661051, 2177026350, 2456956037, 2730485921, 2820302411, 3259730800, 3345764771, 3516065817, 3600352804, 4094571909, 275423344, 430227734, 506948616, 659060556, 883997877, 958139571, 1322822218, 1537002063, 1747873779, 1955562222, 2024104815, 2227730452, 2361852424, 2428436474, 2756734187, 3204031479, 3329325298])).toArray) (o_bld (vs := #[(0, .int .u32 ((1116352408 : Nat) : Int)), (1, .int .u32 ((1899447441 : Nat) : Int)), (2, .int .u32 ((3049323471 : Nat) : Int)), (3, .int .u32 ((3921009573 : Nat) : Int)), (4, .int .u32 ((961987163 : Nat) : Int)), (5, .int .u32 ((1508970993 : Nat) : Int)), (6, .int .u32 ((2453635748 : Nat) : Int)), (7, .int .u32 ((2870763221 : Nat) : Int)), (8, .int .u32 ((3624381080 : Nat) : Int)), (9, .int .u32 ((310598401 : Nat) : Int)), (10, .int .u32 ((607225278 : Nat) : Int)), (11, .int .u32 ((1426881987 : Nat) : Int)), (12, .int .u32 ((1925078388 : Nat) : Int)), (13, .int .u32 ((2162078206 : Nat) : Int)), (14, .int .u32 ((2614888103 : Nat) : Int)), (15, .int .u32 ((3248222580 : Nat) : Int)), (16, .int .u32 ((3835390401 : Nat) : Int)), (17, .int .u32 ((4022224774 : Nat) : Int)), (18, .int .u32 ((264347078 : Nat) : Int)), (19, .int .u32 ((604807628 : Nat) : Int)), (20, .int .u32 ((770255983 : Nat) : Int)), (21, .int .u32 ((1249150122 : Nat) : Int)), (22, .int .u32 ((1555081692 : Nat) : Int)), (23, .int .u32 ((1996064986 : Nat) : Int)), (24, .int .u32 ((2554220882 : Nat) : Int)), (25, .int .u32 ((2821834349 : Nat) : Int)), (26, .int .u32 ((2952996808 : Nat) : Int)), (27, .int .u32 ((3210313671 : Nat) : Int)), (28, .int .u32 ((3336571891 : Nat) : Int)), (29, .int .u32 ((3584528711 : Nat) : Int)), (30, .int .u32 ((113926993 : Nat) : Int)), (31, .int .u32 ((338241895 : Nat) : Int)), (32, .int .u32 ((666307205 : Nat) : Int)), (33, .int .u32 ((773529912 : Nat) : Int)), (34, .int .u32 ((1294757372 : Nat) : Int)), (35, .int .u32 ((1396182291 : Nat) : Int)), (36, .int .u32 ((1695183700 : Nat) : Int)), (37, .int .u32 ((1986661051 : Nat) : Int)), (38, .int .u32 ((2177026350 : Nat) : Int)), (39, .int .u32 ((2456956037 : Nat) : Int)), (40, .int .u32 ((2730485921 : Nat) : Int)), (41, .int .u32 ((2820302411 : Nat) : Int)), (42, .int .u32 ((3259730800 : Nat) : Int)), (43, .int .u32 ((3345764771 : Nat) : Int)), (44, .int .u32 ((3516065817 : Nat) : Int)), (45, .int .u32 ((3600352804 : Nat) : Int)), (46, .int .u32 ((4094571909 : Nat) : Int)), (47, .int .u32 ((275423344 : Nat) : Int)), (48, .int .u32 ((430227734 : Nat) : Int)), (49, .int .u32 ((506948616 : Nat) : Int)), (50, .int .u32 ((659060556 : Nat) : Int)), (51, .int .u32 ((883997877 : Nat) : Int)), (52, .int .u32 ((958139571 : Nat) : Int)), (53, .int .u32 ((1322822218 : Nat) : Int)), (54, .int .u32 ((1537002063 : Nat) : Int)), (55, .int .u32 ((1747873779 : Nat) : Int)), (56, .int .u32 ((1955562222 : Nat) : Int)), (57, .int .u32 ((2024104815 : Nat) : Int)), (58, .int .u32 ((2227730452 : Nat) : Int)), (59, .int .u32 ((2361852424 : Nat) : Int)), (60, .int .u32 ((2428436474 : Nat) : Int)), (61, .int .u32 ((2756734187 : Nat) : Int)), (62, .int .u32 ((3204031479 : Nat) : Int)), (63, .int .u32 ((3329325298 : Nat) : Int))]) rfl (bldc (fun _ => rfl) _ _ rfl) (fun _ => by kernel_rfl)) ?_
 refine op_do rfl rfl (o_storeI rfl (pe hs rfl rfl) (pe hs rfl rfl) hB_1 ⟨by kernel_rfl, by kernel_rfl⟩ (by simp [iws])) (fun w_2 hR_2 => ?_)
 obtain ⟨hB_2, hX_1⟩ := hR_2
 have HB_1 := hX_1.below hb_1 hb_1.size (fun k hk => hk ▸ ge_1)
 clear hB_1
 replace hB_2 : Blk w_2 g_1 (iws .u32 ([1116352408, 1899447441, 3049323471, 3921009573, 961987163, 1508970993, 2453635748, 2870763221, 3624381080, 310598401, 607225278, 1426881987, 1925078388, 2162078206, 2614888103, 3248222580, 3835390401, 4022224774, 264347078, 604807628, 770255983, 1249150122, 1555081692, 1996064986, 2554220882, 2821834349, 2952996808, 3210313671, 3336571891, 3584528711, 113926993, 338241895, 666307205, 773529912, 1294757372, 1396182291, 1695183700, 1986661051, 2177026350, 2456956037, 2730485921, 2820302411, 3259730800, 3345764771, 3516065817, 3600352804, 4094571909, 275423344, 430227734, 506948616, 659060556, 883997877, 958139571, 1322822218, 1537002063, 1747873779, 1955562222, 2024104815, 2227730452, 2361852424, 2428436474, 2756734187, 3204031479, 3329325298])).toArray _ := hB_2
 refine x_nil (hK_2 _ _ ?_)
 refine w2_ret ?_
 refine retC rfl hd (pe hs rfl rfl) (loadI hB_2 ⟨by kernel_rfl, by kernel_rfl⟩) ?_
 exact ⟨rfl, HB_1⟩
set_option maxHeartbeats 1000000 in
theorem schedule_any {A0 : Option Addr} {c0 q : Nat} {bs : List Nat} (w : World) (h0 : Bs w A0 c0 bs) (hq : bs.length = q) :
  Calls Tryz.prog 122 #[.slice A0 (q) (c0)] w fun e w' => e = .returned (.agg (iws .u32 (schL bs 64)).toArray) ∧ Below w.heap.size w w' := by
 refine x_enter 41 Tryz.func122 rfl rfl (fun a hs hd ha0 => ?_)
 have t0 : a.eval (.tmp 0) = .slice A0 (q) (c0) := ha0 0 _ rfl
 clear ha0
 refine w2_sr (fun K_1 hK_1 => ?_)
 refine op_ex (d := 2) rfl rfl (o_alloc (zs := (iws .u32 (List.replicate 64 0)).toArray) rfl (fun _ => by kernel_rfl)) (fun v_1 w_1 hR_1 => ?_)
 obtain ⟨g_1, rfl, hle_1, hB_1, hb_1⟩ := hR_1
 have ge_1 : w.heap.size ≤ g_1 := hle_1
 refine x_nil (hK_1 _ _ ?_)
 refine w2_sr (fun K_2 hK_2 => ?_)
 refine op_ex (d := 3) rfl rfl (o_alloc (zs := (iws .u32 (List.replicate 64 0)).toArray) rfl (fun _ => by kernel_rfl)) (fun v_2 w_2 hR_2 => ?_)
 obtain ⟨g_2, rfl, hle_2, hB_2, hb_2⟩ := hR_2
 have ne_1 : g_1 ≠ g_2 := Nat.ne_of_lt (Nat.lt_of_lt_of_le hB_1.lt hle_2)
 have ge_2 : w.heap.size ≤ g_2 := Nat.le_trans hb_1.size hle_2
 replace hB_1 := hB_1.nx hb_2
 have HB_1 := below_from hb_1 hb_2
 refine x_nil (hK_2 _ _ ?_)
 refine w2_seq (fun K_3 hK_3 => ?_)
 refine w2_sr (fun K_4 hK_4 => ?_)
 refine q_v 5 (.int .i64 ((0 : Nat) : Int)) (o_move rfl rfl) ?_
 refine x_nil (hK_4 _ _ ?_)
 refine w2_block (fun K_5 hK_5 => ?_)
 refine x_loop (fun nn aa ww => ∃ (K : Nat), nn = 64 - K ∧ aa.tmps.size = 41 ∧ aa.defers = [] ∧ aa.eval (.tmp 0) = .slice A0 (q) (c0) ∧ aa.eval (.tmp 2) = .pointer (some ⟨g_1, 0, none⟩) ∧ aa.eval (.tmp 3) = .pointer (some ⟨g_2, 0, none⟩) ∧ aa.eval (.tmp 5) = .int .i64 ((K : Nat) : Int) ∧ K ≤ 64 ∧ Blk ww g_2 (iws .u32 (schL bs K)).toArray 189 ∧ Blk ww g_1 (iws .u32 (List.replicate 64 0)).toArray 189 ∧ Below w.heap.size w ww) (64 - 0) ?_ ?_
 ·exact ⟨0, rfl, (by rw [putsR_size]; exact hs), (by rw [putsR_defers]; exact hd), ((pm rfl).trans t0), (pe hs rfl rfl), (pe hs rfl rfl), (pe hs rfl rfl), Nat.zero_le _, hB_2, hB_1, HB_1⟩
 ·skip
  clear t0 hd hB_1 hB_2 HB_1
  rintro nna_1 a_1 w_3 ⟨K, hm_1, hs_1, hd_1, ta_1_0, ta_1_2, ta_1_3, ta_1_5, hK, hX, hR, HBL⟩ K_6 hK_6
  subst hm_1
  have hok := schL_ok h0.b8 K
  refine w2_sr (fun K_7 hK_7 => ?_)
  refine q_v 6 (.bool (decide (K < 64))) (o_lss (m := K) (n := 64) rfl ((pm rfl).trans ta_1_5) rfl) ?_
  refine x_nil (hK_7 _ _ ?_)
  refine w2_seq (fun K_8 hK_8 => ?_)
  refine w2_split (pe hs_1 rfl rfl) (fun h_1 => ?_) (fun h_1 => ?_)
  ·simp only [DD9] at h_1
   have hlt : K < 64 := h_1
   refine w2_skip ?_
   refine hK_8 _ _ ?_
   refine w2_seq (fun K_9 hK_9 => ?_)
   refine w2_block (fun K_10 hK_10 => ?_)
   refine w2_sr (fun K_11 hK_11 => ?_)
   refine q_mv ((pm rfl).trans ta_1_5) ?_
   refine q_at (pe hs_1 rfl rfl) ?_
   refine x_nil (hK_11 _ _ ?_)
   refine w2_seq (fun K_12 hK_12 => ?_)
   refine w2_sr (fun K_13 hK_13 => ?_)
   refine q_mv (pe hs_1 rfl rfl) ?_
   refine q_v 9 (.bool (decide (K < 16))) (o_lss (m := K) (n := 16) rfl (pe hs_1 rfl rfl) rfl) ?_
   refine x_nil (hK_13 _ _ ?_)
   refine w2_split (pe hs_1 rfl rfl) (fun h_2 => ?_) (fun h_2 => ?_)
   ·simp only [DD9] at h_2
    have hlt16 : K < 16 := h_2
    refine w2_sr (fun K_14 hK_14 => ?_)
    refine q_mv (pe hs_1 rfl rfl) ?_
    refine q_mv ((pm rfl).trans ta_1_0) ?_
    refine q_mv (pe hs_1 rfl rfl) ?_
    refine q_v 13 (.int .i64 ((4 * K : Nat) : Int)) (o_mul64 (m := 4) (n := K) rfl rfl (pe hs_1 rfl rfl) (by omega)) ?_
    refine q_ca (vs := #[.slice A0 (q) (c0), .int .i64 ((4 * K : Nat) : Int)]) Tryz.func162 (args2 (pe hs_1 rfl rfl) (pe hs_1 rfl rfl)) (High32_any (4 * K) _ (h0.below HBL) hq (by omega)) (fun e_1 w_4 hR_3 => ?_)
    obtain ⟨rfl, rfl⟩ := hR_3
    refine ⟨_, rfl, ?_⟩
    refine op_val (d := 15) (v := .pointer (some ⟨g_2, K, none⟩)) rfl rfl (zero_off (o_ixA (k := 0) (i := K) (n := 64) (e := 142) rfl ((pm rfl).trans ta_1_3) (pe hs_1 rfl rfl) (by omega) (fun _ => by kernel_rfl) (fun _ => by kernel_rfl))) ?_
    refine op_do rfl rfl (o_storeW rfl (pe hs_1 rfl rfl) (pe hs_1 rfl rfl) hX (by rw [hok.1]; omega) ⟨by kernel_rfl, by kernel_rfl⟩) (fun w_5 hR_4 => ?_)
    obtain ⟨hB_3, hX_1⟩ := hR_4
    replace hR := hX_1.blk hR ne_1
    have HB_2 := hX_1.below HBL HBL.size (fun k hk => hk ▸ ge_2)
    clear hX
    refine x_nil (hK_14 _ _ ?_)
    refine w2_exit ?_
    refine thn_exit ?_
    refine exb_hit ?_
    refine hK_10 _ _ ?_
    refine hK_9 _ _ ?_
    refine x_region (by kernel_rfl) ?_
    refine q_v 39 (.int .i64 ((K + 1 : Nat) : Int)) (o_add64 (m := K) (n := 1) rfl ((pm rfl).trans ta_1_5) rfl (by omega)) ?_
    refine q_mv (pe hs_1 rfl rfl) ?_
    refine x_nil ?_
    refine hK_6 _ _ _ ⟨K + 1, rfl, (by rw [putsR_size]; exact hs_1), (by rw [putsR_defers]; exact hd_1), ((pm rfl).trans ta_1_0), ((pm rfl).trans ta_1_2), ((pm rfl).trans ta_1_3), (pe hs_1 rfl rfl), (by omega), (by rw [schL, if_pos hlt16]; exact hB_3), hR, HB_2⟩ ?_
    omega
   ·simp only [DD9] at h_2
    have hge16 : 16 ≤ K := h_2
    refine w2_skip ?_
    refine hK_12 _ _ ?_
    refine x_drawn 22 [fun _ v => v = .int .i64 ((K : Nat) : Int), fun _ v => v = .int .i64 ((K : Nat) : Int), fun _ v => v = .int .i64 ((K - 2 : Nat) : Int), fun _ v => v = .pointer (some ⟨g_2, K - 2, none⟩), fun _ v => v = .int .u32 (((schL bs K).getD (K - 2) 0 : Nat) : Int), fun ww vv => vv = .int .u32 ((shiftN ((schL bs K).getD (K - 2) 0) 17 19 10 : Nat) : Int), fun _ v => v = .int .i64 ((K : Nat) : Int), fun _ v => v = .int .i64 ((K - 7 : Nat) : Int), fun _ v => v = .pointer (some ⟨g_2, K - 7, none⟩), fun _ v => v = .int .u32 (((schL bs K).getD (K - 7) 0 : Nat) : Int), fun _ v => v = .int .u32 ((((shiftN ((schL bs K).getD (K - 2) 0) 17 19 10) + ((schL bs K).getD (K - 7) 0)) % 4294967296 : Nat) : Int), fun _ v => v = .int .i64 ((K : Nat) : Int), fun _ v => v = .int .i64 ((K - 15 : Nat) : Int), fun _ v => v = .pointer (some ⟨g_2, K - 15, none⟩), fun _ v => v = .int .u32 (((schL bs K).getD (K - 15) 0 : Nat) : Int), fun ww vv => vv = .int .u32 ((shiftN ((schL bs K).getD (K - 15) 0) 7 18 3 : Nat) : Int), fun _ v => v = .int .u32 ((((((shiftN ((schL bs K).getD (K - 2) 0) 17 19 10) + ((schL bs K).getD (K - 7) 0)) % 4294967296) + (shiftN ((schL bs K).getD (K - 15) 0) 7 18 3)) % 4294967296 : Nat) : Int), fun _ v => v = .int .i64 ((K : Nat) : Int), fun _ v => v = .int .i64 ((K - 16 : Nat) : Int), fun _ v => v = .pointer (some ⟨g_2, K - 16, none⟩), fun _ v => v = .int .u32 (((schL bs K).getD (K - 16) 0 : Nat) : Int), fun _ v => v = .int .u32 ((((((((shiftN ((schL bs K).getD (K - 2) 0) 17 19 10) + ((schL bs K).getD (K - 7) 0)) % 4294967296) + (shiftN ((schL bs K).getD (K - 15) 0) 7 18 3)) % 4294967296) + ((schL bs K).getD (K - 16) 0)) % 4294967296 : Nat) : Int)] [16, 17, 18, 19, 20, 21, 22, 23, 24, 25, 26, 27, 28, 29, 30, 31, 32, 33, 34, 35, 36, 37] hs_1 hd_1 (by kernel_rfl) (by kernel_rfl) (by kernel_rfl) (by kernel_rfl) (by kernel_rfl) ⟨stLit, stLit, stLit, stLit, stLit, stLit, stLit, stLit, stLit, stLit, stLit, stLit, stLit, stLit, stLit, stLit, stLit, stLit, stLit, stLit, stLit, stLit, trivial⟩ ⟨(step_ok rfl (fun a' w' hb' hO hD => by
      have d_1 : a'.eval (.tmp 4) = .int .i64 ((K : Nat) : Int) := (hO 4 (by decide)).trans (pe hs_1 rfl rfl)
      exact .inl ⟨_, _, (o_move rfl d_1), rfl, Below.refl _ _⟩)),
(step_ok rfl (fun a' w' hb' hO hD => by
      have d_2 : a'.eval (.tmp 4) = .int .i64 ((K : Nat) : Int) := (hO 4 (by decide)).trans (pe hs_1 rfl rfl)
      exact .inl ⟨_, _, (o_move rfl d_2), rfl, Below.refl _ _⟩)),
(step_ok rfl (fun a' w' hb' hO hD => by
      have d_3 : a'.eval (.tmp 17) = .int .i64 ((K : Nat) : Int) := hD 1 17 (by kernel_rfl) rfl
      exact .inl ⟨_, _, (o_sub64 (m := K) (n := 2) rfl d_3 rfl (by omega) (by omega)), rfl, Below.refl _ _⟩)),
(step_ok rfl (fun a' w' hb' hO hD => by
      have d_4 := (hO 3 (by decide)).trans ((pm rfl).trans ta_1_3)
      have d_5 : a'.eval (.tmp 18) = .int .i64 ((K - 2 : Nat) : Int) := hD 2 18 (by kernel_rfl) rfl
      exact .inl ⟨_, _, (zero_off (o_ixA (k := 0) (i := K - 2) (n := 64) (e := 142) rfl d_4 d_5 (by omega) (fun _ => by kernel_rfl) (fun _ => by kernel_rfl))), rfl, Below.refl _ _⟩)),
(step_ok rfl (fun a' w' hb' hO hD => by
      have d_6 : a'.eval (.tmp 19) = .pointer (some ⟨g_2, K - 2, none⟩) := hD 3 19 (by kernel_rfl) rfl
      exact .inl ⟨_, _, (o_loadW rfl d_6 (hX.nx hb') (by rw [hok.1]; omega) rfl ⟨by kernel_rfl, by kernel_rfl⟩), rfl, Below.refl _ _⟩)),
(step_ok rfl (fun a' w' hb' hO hD => by
      have d_7 : a'.eval (.tmp 20) = .int .u32 (((schL bs K).getD (K - 2) 0 : Nat) : Int) := hD 4 20 (by kernel_rfl) rfl
      exact .inr ⟨_, #[.int .u32 (((schL bs K).getD (K - 2) 0 : Nat) : Int), .int .i64 ((17 : Nat) : Int), .int .i64 ((19 : Nat) : Int), .int .i64 ((10 : Nat) : Int)], (exec_call Tryz.func163 (by kernel_rfl) (by kernel_rfl) _ rfl _ _ (args4 d_7 rfl rfl rfl)), Calls.mono (shifted_any ((schL bs K).getD (K - 2) 0) 17 19 10 _ (hok.get _) (by decide) (by decide) (by decide) (by decide) (by decide) (by decide)) (fun e w'' hR => by obtain ⟨rfl, hb_4⟩ := hR; exact ⟨_, rfl, rfl, hb_4⟩)⟩)),
(step_ok rfl (fun a' w' hb' hO hD => by
      have d_8 : a'.eval (.tmp 4) = .int .i64 ((K : Nat) : Int) := (hO 4 (by decide)).trans (pe hs_1 rfl rfl)
      exact .inl ⟨_, _, (o_move rfl d_8), rfl, Below.refl _ _⟩)),
(step_ok rfl (fun a' w' hb' hO hD => by
      have d_9 : a'.eval (.tmp 22) = .int .i64 ((K : Nat) : Int) := hD 6 22 (by kernel_rfl) rfl
      exact .inl ⟨_, _, (o_sub64 (m := K) (n := 7) rfl d_9 rfl (by omega) (by omega)), rfl, Below.refl _ _⟩)),
(step_ok rfl (fun a' w' hb' hO hD => by
      have d_10 := (hO 3 (by decide)).trans ((pm rfl).trans ta_1_3)
      have d_11 : a'.eval (.tmp 23) = .int .i64 ((K - 7 : Nat) : Int) := hD 7 23 (by kernel_rfl) rfl
      exact .inl ⟨_, _, (zero_off (o_ixA (k := 0) (i := K - 7) (n := 64) (e := 142) rfl d_10 d_11 (by omega) (fun _ => by kernel_rfl) (fun _ => by kernel_rfl))), rfl, Below.refl _ _⟩)),
(step_ok rfl (fun a' w' hb' hO hD => by
      have d_12 : a'.eval (.tmp 24) = .pointer (some ⟨g_2, K - 7, none⟩) := hD 8 24 (by kernel_rfl) rfl
      exact .inl ⟨_, _, (o_loadW rfl d_12 (hX.nx hb') (by rw [hok.1]; omega) rfl ⟨by kernel_rfl, by kernel_rfl⟩), rfl, Below.refl _ _⟩)),
(step_ok rfl (fun a' w' hb' hO hD => by
      have d_13 : a'.eval (.tmp 21) = .int .u32 ((shiftN ((schL bs K).getD (K - 2) 0) 17 19 10 : Nat) : Int) := hD 5 21 (by kernel_rfl) rfl
      have d_14 : a'.eval (.tmp 25) = .int .u32 (((schL bs K).getD (K - 7) 0 : Nat) : Int) := hD 9 25 (by kernel_rfl) rfl
      exact .inl ⟨_, _, (o_addU (m := (shiftN ((schL bs K).getD (K - 2) 0) 17 19 10)) (n := ((schL bs K).getD (K - 7) 0)) (((shiftN ((schL bs K).getD (K - 2) 0) 17 19 10) + ((schL bs K).getD (K - 7) 0)) % 4294967296) rfl d_13 d_14 (by rw [IntKind.wrap_u32]; omega)), rfl, Below.refl _ _⟩)),
(step_ok rfl (fun a' w' hb' hO hD => by
      have d_15 : a'.eval (.tmp 4) = .int .i64 ((K : Nat) : Int) := (hO 4 (by decide)).trans (pe hs_1 rfl rfl)
      exact .inl ⟨_, _, (o_move rfl d_15), rfl, Below.refl _ _⟩)),
(step_ok rfl (fun a' w' hb' hO hD => by
      have d_16 : a'.eval (.tmp 27) = .int .i64 ((K : Nat) : Int) := hD 11 27 (by kernel_rfl) rfl
      exact .inl ⟨_, _, (o_sub64 (m := K) (n := 15) rfl d_16 rfl (by omega) (by omega)), rfl, Below.refl _ _⟩)),
(step_ok rfl (fun a' w' hb' hO hD => by
      have d_17 := (hO 3 (by decide)).trans ((pm rfl).trans ta_1_3)
      have d_18 : a'.eval (.tmp 28) = .int .i64 ((K - 15 : Nat) : Int) := hD 12 28 (by kernel_rfl) rfl
      exact .inl ⟨_, _, (zero_off (o_ixA (k := 0) (i := K - 15) (n := 64) (e := 142) rfl d_17 d_18 (by omega) (fun _ => by kernel_rfl) (fun _ => by kernel_rfl))), rfl, Below.refl _ _⟩)),
(step_ok rfl (fun a' w' hb' hO hD => by
      have d_19 : a'.eval (.tmp 29) = .pointer (some ⟨g_2, K - 15, none⟩) := hD 13 29 (by kernel_rfl) rfl
      exact .inl ⟨_, _, (o_loadW rfl d_19 (hX.nx hb') (by rw [hok.1]; omega) rfl ⟨by kernel_rfl, by kernel_rfl⟩), rfl, Below.refl _ _⟩)),
(step_ok rfl (fun a' w' hb' hO hD => by
      have d_20 : a'.eval (.tmp 30) = .int .u32 (((schL bs K).getD (K - 15) 0 : Nat) : Int) := hD 14 30 (by kernel_rfl) rfl
      exact .inr ⟨_, #[.int .u32 (((schL bs K).getD (K - 15) 0 : Nat) : Int), .int .i64 ((7 : Nat) : Int), .int .i64 ((18 : Nat) : Int), .int .i64 ((3 : Nat) : Int)], (exec_call Tryz.func163 (by kernel_rfl) (by kernel_rfl) _ rfl _ _ (args4 d_20 rfl rfl rfl)), Calls.mono (shifted_any ((schL bs K).getD (K - 15) 0) 7 18 3 _ (hok.get _) (by decide) (by decide) (by decide) (by decide) (by decide) (by decide)) (fun e w'' hR => by obtain ⟨rfl, hb_5⟩ := hR; exact ⟨_, rfl, rfl, hb_5⟩)⟩)),
(step_ok rfl (fun a' w' hb' hO hD => by
      have d_21 : a'.eval (.tmp 26) = .int .u32 ((((shiftN ((schL bs K).getD (K - 2) 0) 17 19 10) + ((schL bs K).getD (K - 7) 0)) % 4294967296 : Nat) : Int) := hD 10 26 (by kernel_rfl) rfl
      have d_22 : a'.eval (.tmp 31) = .int .u32 ((shiftN ((schL bs K).getD (K - 15) 0) 7 18 3 : Nat) : Int) := hD 15 31 (by kernel_rfl) rfl
      exact .inl ⟨_, _, (o_addU (m := (((shiftN ((schL bs K).getD (K - 2) 0) 17 19 10) + ((schL bs K).getD (K - 7) 0)) % 4294967296)) (n := (shiftN ((schL bs K).getD (K - 15) 0) 7 18 3)) (((((shiftN ((schL bs K).getD (K - 2) 0) 17 19 10) + ((schL bs K).getD (K - 7) 0)) % 4294967296) + (shiftN ((schL bs K).getD (K - 15) 0) 7 18 3)) % 4294967296) rfl d_21 d_22 (by rw [IntKind.wrap_u32]; omega)), rfl, Below.refl _ _⟩)),
(step_ok rfl (fun a' w' hb' hO hD => by
      have d_23 : a'.eval (.tmp 4) = .int .i64 ((K : Nat) : Int) := (hO 4 (by decide)).trans (pe hs_1 rfl rfl)
      exact .inl ⟨_, _, (o_move rfl d_23), rfl, Below.refl _ _⟩)),
(step_ok rfl (fun a' w' hb' hO hD => by
      have d_24 : a'.eval (.tmp 33) = .int .i64 ((K : Nat) : Int) := hD 17 33 (by kernel_rfl) rfl
      exact .inl ⟨_, _, (o_sub64 (m := K) (n := 16) rfl d_24 rfl (by omega) (by omega)), rfl, Below.refl _ _⟩)),
(step_ok rfl (fun a' w' hb' hO hD => by
      have d_25 := (hO 3 (by decide)).trans ((pm rfl).trans ta_1_3)
      have d_26 : a'.eval (.tmp 34) = .int .i64 ((K - 16 : Nat) : Int) := hD 18 34 (by kernel_rfl) rfl
      exact .inl ⟨_, _, (zero_off (o_ixA (k := 0) (i := K - 16) (n := 64) (e := 142) rfl d_25 d_26 (by omega) (fun _ => by kernel_rfl) (fun _ => by kernel_rfl))), rfl, Below.refl _ _⟩)),
(step_ok rfl (fun a' w' hb' hO hD => by
      have d_27 : a'.eval (.tmp 35) = .pointer (some ⟨g_2, K - 16, none⟩) := hD 19 35 (by kernel_rfl) rfl
      exact .inl ⟨_, _, (o_loadW rfl d_27 (hX.nx hb') (by rw [hok.1]; omega) rfl ⟨by kernel_rfl, by kernel_rfl⟩), rfl, Below.refl _ _⟩)),
(step_ok rfl (fun a' w' hb' hO hD => by
      have d_28 : a'.eval (.tmp 32) = .int .u32 ((((((shiftN ((schL bs K).getD (K - 2) 0) 17 19 10) + ((schL bs K).getD (K - 7) 0)) % 4294967296) + (shiftN ((schL bs K).getD (K - 15) 0) 7 18 3)) % 4294967296 : Nat) : Int) := hD 16 32 (by kernel_rfl) rfl
      have d_29 : a'.eval (.tmp 36) = .int .u32 (((schL bs K).getD (K - 16) 0 : Nat) : Int) := hD 20 36 (by kernel_rfl) rfl
      exact .inl ⟨_, _, (o_addU (m := (((((shiftN ((schL bs K).getD (K - 2) 0) 17 19 10) + ((schL bs K).getD (K - 7) 0)) % 4294967296) + (shiftN ((schL bs K).getD (K - 15) 0) 7 18 3)) % 4294967296)) (n := ((schL bs K).getD (K - 16) 0)) (((((((shiftN ((schL bs K).getD (K - 2) 0) 17 19 10) + ((schL bs K).getD (K - 7) 0)) % 4294967296) + (shiftN ((schL bs K).getD (K - 15) 0) 7 18 3)) % 4294967296) + ((schL bs K).getD (K - 16) 0)) % 4294967296) rfl d_28 d_29 (by rw [IntKind.wrap_u32]; omega)), rfl, Below.refl _ _⟩)), trivial⟩ (fun a_2 w_6 hs_2 hd_2 hb_6 hO_1 hV_1 => ?_)
    have ta_2_0 := (hO_1 0 (by decide)).trans ((pm rfl).trans ta_1_0)
    have ta_2_2 := (hO_1 2 (by decide)).trans ((pm rfl).trans ta_1_2)
    have ta_2_3 := (hO_1 3 (by decide)).trans ((pm rfl).trans ta_1_3)
    have ta_2_5 := (hO_1 5 (by decide)).trans ((pm rfl).trans ta_1_5)
    clear ta_1_0 ta_1_2 ta_1_3 ta_1_5 hd_1
    replace hX := hX.nx hb_6
    replace hR := hR.nx hb_6
    have HB_3 := below_from HBL hb_6
    have ta_2_16 : a_2.eval (.tmp 16) = .int .i64 ((K : Nat) : Int) := hV_1 0 16 rfl rfl
    have ta_2_37 : a_2.eval (.tmp 37) = .int .u32 ((((((((shiftN ((schL bs K).getD (K - 2) 0) 17 19 10) + ((schL bs K).getD (K - 7) 0)) % 4294967296) + (shiftN ((schL bs K).getD (K - 15) 0) 7 18 3)) % 4294967296) + ((schL bs K).getD (K - 16) 0)) % 4294967296 : Nat) : Int) := hV_1 21 37 rfl rfl
    clear hV_1 hO_1
    simp only [List.drop_succ_cons, List.drop_zero]
    refine op_val (d := 38) (v := .pointer (some ⟨g_2, K, none⟩)) rfl rfl (zero_off (o_ixA (k := 0) (i := K) (n := 64) (e := 142) rfl ((pm rfl).trans ta_2_3) ((pm rfl).trans ta_2_16) (by omega) (fun _ => by kernel_rfl) (fun _ => by kernel_rfl))) ?_
    refine op_do rfl rfl (o_storeW rfl (pe hs_2 rfl rfl) ((pm rfl).trans ta_2_37) hX (by rw [hok.1]; omega) ⟨by kernel_rfl, by kernel_rfl⟩) (fun w_7 hR_5 => ?_)
    obtain ⟨hB_4, hX_2⟩ := hR_5
    replace hR := hX_2.blk hR ne_1
    have HB_4 := hX_2.below HB_3 HB_3.size (fun k hk => hk ▸ ge_2)
    clear hX
    refine x_nil (hK_10 _ _ ?_)
    refine hK_9 _ _ ?_
    refine x_region (by kernel_rfl) ?_
    refine q_v 39 (.int .i64 ((K + 1 : Nat) : Int)) (o_add64 (m := K) (n := 1) rfl ((pm rfl).trans ta_2_5) rfl (by omega)) ?_
    refine q_mv (pe hs_2 rfl rfl) ?_
    refine x_nil ?_
    refine hK_6 _ _ _ ⟨K + 1, rfl, (by rw [putsR_size]; exact hs_2), (by rw [putsR_defers]; exact hd_2), ((pm rfl).trans ta_2_0), ((pm rfl).trans ta_2_2), ((pm rfl).trans ta_2_3), (pe hs_2 rfl rfl), (by omega), (by rw [schL, if_neg (by omega)]; exact hB_4), hR, HB_4⟩ ?_
    omega
  ·simp only [DD9] at h_1
   obtain rfl : K = 64 := by omega
   refine w2_exit ?_
   refine thn_exit ?_
   refine thn_exit ?_
   refine exb_hit ?_
   refine hK_5 _ _ ?_
   refine hK_3 _ _ ?_
   refine w2_sr (fun K_15 hK_15 => ?_)
   refine q_v 40 (.agg (iws .u32 (schL bs 64)).toArray) (o_loadI rfl ((pm rfl).trans ta_1_3) hX (by rw [hok.1]; exact ⟨by kernel_rfl, by kernel_rfl⟩)) ?_
   refine op_do rfl rfl (o_storeI rfl ((pm rfl).trans ta_1_2) (pe hs_1 rfl rfl) hR (by rw [hok.1]; exact ⟨by kernel_rfl, by kernel_rfl⟩) (by rw [hok.1]; simp [iws])) (fun w_8 hR_6 => ?_)
   obtain ⟨hB_5, hX_3⟩ := hR_6
   replace hX := hX_3.blk hX (Ne.symm ne_1)
   have HB_5 := hX_3.below HBL HBL.size (fun k hk => hk ▸ ge_1)
   clear hR
   refine x_nil (hK_15 _ _ ?_)
   refine w2_ret ?_
   refine retC rfl hd_1 ((pm rfl).trans ta_1_2) (loadI hB_5 (by rw [hok.1]; exact ⟨by kernel_rfl, by kernel_rfl⟩)) ?_
   exact ⟨rfl, HB_5⟩
end Go.Proofs.YtodhdajelnfhpaaGreat
/-
 WALK: sha: a block.
-/
namespace Go.Proofs.YtodhdajelnfhpaaGreat
open Go.RowKit
set_option linter.unusedVariables false
set_option linter.unusedSimpArgs false
set_option maxRecDepth 100000
attribute [local irreducible] wpList wpListIn putsR

set_option maxHeartbeats 1000000 in
theorem take_sha {A0 : Option Addr} {c0 q : Nat} {bs v0 : List Nat} (w : World) (h0 : Bs w A0 c0 bs) (hq : bs.length = q) (hv : Ok32 8 v0) :
  Calls Tryz.prog 83 #[.agg (iws .u32 (v0)).toArray, .slice A0 (q) (c0)] w fun e w' => e = .returned (.agg (iws .u32 (takeL v0 bs)).toArray) ∧ Below w.heap.size w w' := by
 refine x_enter 99 Tryz.func83 rfl rfl (fun a hs hd ha0 => ?_)
 have t0 : a.eval (.tmp 0) = .agg (iws .u32 (v0)).toArray := ha0 0 _ rfl
 have t1 : a.eval (.tmp 1) = .slice A0 (q) (c0) := ha0 1 _ rfl
 clear ha0
 refine w2_sr (fun K_1 hK_1 => ?_)
 refine op_ex (d := 2) rfl rfl (o_boxI rfl ((pm rfl).trans t0)) (fun v_1 w_1 hR_1 => ?_)
 obtain ⟨g_1, rfl, hle_1, hB_1, hb_1⟩ := hR_1
 have ge_1 : w.heap.size ≤ g_1 := hle_1
 refine op_ex (d := 4) rfl rfl (o_alloc (zs := (iws .u32 (List.replicate 8 0)).toArray) rfl (fun _ => by kernel_rfl)) (fun v_2 w_2 hR_2 => ?_)
 obtain ⟨g_2, rfl, hle_2, hB_2, hb_2⟩ := hR_2
 have ne_1 : g_1 ≠ g_2 := Nat.ne_of_lt (Nat.lt_of_lt_of_le hB_1.lt hle_2)
 have ge_2 : w.heap.size ≤ g_2 := Nat.le_trans hb_1.size hle_2
 replace hB_1 := hB_1.nx hb_2
 have HB_1 := below_from hb_1 hb_2
 refine x_nil (hK_1 _ _ ?_)
 refine w2_seq (fun K_2 hK_2 => ?_)
 refine x_drawnA 9 [fun _ v => v = .slice A0 (q) (c0), fun _ v => v = .agg (iws .u32 (schL bs 64)).toArray, fun _ v => v = .agg (iws .u32 (tableS)).toArray, fun _ v => v = .agg (iws .u32 (v0)).toArray, fun _ _ => True, fun _ _ => True, fun _ _ => True, fun _ _ => True, fun _ _ => True] [⟨4, 7, (iws .u32 (List.replicate 64 0)).toArray, (iws .u32 (schL bs 64)).toArray, 189⟩, ⟨5, 8, (iws .u32 (List.replicate 64 0)).toArray, (iws .u32 (tableS)).toArray, 189⟩, ⟨6, 906, (iws .u32 (List.replicate 8 0)).toArray, (iws .u32 (List.replicate 8 0)).toArray, 144⟩] [14, 15, 16, 17, 5, 6, 7] hs hd (by kernel_rfl) (by kernel_rfl) (by kernel_rfl) (by kernel_rfl) (by kernel_rfl) (by intro e he; simp only [List.mem_cons, List.not_mem_nil, or_false] at he; rcases he with rfl | rfl | rfl <;> first | exact ⟨by dsimp only; omega, .inl (by dsimp only; omega)⟩ | exact ⟨by dsimp only; omega, .inr rfl⟩) (fun i w w' v h => AllLit.nth (l := [fun _ v => v = .slice A0 (q) (c0), fun _ v => v = .agg (iws .u32 (schL bs 64)).toArray, fun _ v => v = .agg (iws .u32 (tableS)).toArray, fun _ v => v = .agg (iws .u32 (v0)).toArray, fun _ _ => True, fun _ _ => True, fun _ _ => True, fun _ _ => True, fun _ _ => True]) ⟨litL, litL, litL, litL, litL, litL, litL, litL, litL, trivial⟩ i w w' v h) ⟨(by exact ⟨rfl, .inl ⟨fun a' w' hb' hO hD => by
   have d_1 := (hO 1 (by decide)).trans ((pm rfl).trans t1)
   exact .inl ⟨_, _, (o_move rfl d_1), rfl, Below.refl _ _⟩, (by intro e he; simp only [List.mem_cons, List.not_mem_nil, or_false] at he; rcases he with rfl | rfl | rfl <;> exact ⟨by dsimp only; omega, by dsimp only; omega⟩), rfl⟩⟩),
(by exact ⟨rfl, .inl ⟨fun a' w' hb' hO hD => by
   have d_2 : a'.eval (.tmp 14) = .slice A0 (q) (c0) := hD 0 14 (by kernel_rfl) rfl
   exact .inr ⟨_, #[.slice A0 (q) (c0)], (exec_call Tryz.func122 (by kernel_rfl) (by kernel_rfl) _ rfl _ _ (args1 d_2)), Calls.mono (schedule_any _ (h0.below (below_from HB_1 hb')) hq) (fun e w'' hR => by obtain ⟨rfl, hb_3⟩ := hR; exact ⟨_, rfl, rfl, hb_3⟩)⟩, (by intro e he; simp only [List.mem_cons, List.not_mem_nil, or_false] at he; rcases he with rfl | rfl | rfl <;> exact ⟨by dsimp only; omega, by dsimp only; omega⟩), rfl⟩⟩),
(by exact ⟨rfl, .inl ⟨fun a' w' hb' hO hD => by
   exact .inr ⟨_, #[], (exec_call Tryz.func123 (by kernel_rfl) (by kernel_rfl) _ rfl _ _ (args0)), Calls.mono (table_sha _) (fun e w'' hR => by obtain ⟨rfl, hb_4⟩ := hR; exact ⟨_, rfl, rfl, hb_4⟩)⟩, (by intro e he; simp only [List.mem_cons, List.not_mem_nil, or_false] at he; rcases he with rfl | rfl | rfl <;> exact ⟨by dsimp only; omega, by dsimp only; omega⟩), rfl⟩⟩),
(by exact ⟨rfl, .inl ⟨fun a' w' hb' hO hD => by
   have d_3 : a'.eval (.tmp 2) = .pointer (some ⟨g_1, 0, none⟩) := (hO 2 (by decide)).trans (pe hs rfl rfl)
   exact .inl ⟨_, _, (o_loadI rfl d_3 (hB_1.nx hb') (by rw [hv.1]; exact ⟨by kernel_rfl, by kernel_rfl⟩)), rfl, Below.refl _ _⟩, (by intro e he; simp only [List.mem_cons, List.not_mem_nil, or_false] at he; rcases he with rfl | rfl | rfl <;> exact ⟨by dsimp only; omega, by dsimp only; omega⟩), rfl⟩⟩),
(by exact ⟨rfl, .inr (.inl ⟨_, (.head _), rfl, rfl, fun _ _ => trivial, (by intro e he; simp only [List.mem_cons, List.not_mem_nil, or_false] at he; rcases he with rfl | rfl | rfl <;> exact ⟨by dsimp only; omega, fun h => by first | (exfalso; dsimp only at h; omega) | rfl⟩), fun a' w' hb' => o_alloc (zs := (iws .u32 (List.replicate 64 0)).toArray) rfl (fun _ => by kernel_rfl)⟩)⟩),
(by exact ⟨rfl, .inr (.inl ⟨_, (.tail _ (.head _)), rfl, rfl, fun _ _ => trivial, (by intro e he; simp only [List.mem_cons, List.not_mem_nil, or_false] at he; rcases he with rfl | rfl | rfl <;> exact ⟨by dsimp only; omega, fun h => by first | (exfalso; dsimp only at h; omega) | rfl⟩), fun a' w' hb' => o_alloc (zs := (iws .u32 (List.replicate 64 0)).toArray) rfl (fun _ => by kernel_rfl)⟩)⟩),
(by exact ⟨rfl, .inr (.inl ⟨_, (.tail _ (.tail _ (.head _))), rfl, rfl, fun _ _ => trivial, (by intro e he; simp only [List.mem_cons, List.not_mem_nil, or_false] at he; rcases he with rfl | rfl | rfl <;> exact ⟨by dsimp only; omega, fun h => by first | (exfalso; dsimp only at h; omega) | rfl⟩), fun a' w' hb' => o_alloc (zs := (iws .u32 (List.replicate 8 0)).toArray) rfl (fun _ => by kernel_rfl)⟩)⟩),
(by exact ⟨rfl, .inr (.inr ⟨_, (.head _), rfl, rfl, rfl, by kernel_rfl, ⟨_, rfl⟩, (by intro e he; simp only [List.mem_cons, List.not_mem_nil, or_false] at he; rcases he with rfl | rfl | rfl <;> exact ⟨by dsimp only; omega, fun h => by first | (exfalso; dsimp only at h; omega) | rfl⟩), fun a' w' g hb' hO hD hp hBz => by
   have d_4 : a'.eval (.tmp 15) = .agg (iws .u32 (schL bs 64)).toArray := hD 1 15 (by kernel_rfl) rfl
   exact o_storeI rfl (hp _ rfl) d_4 hBz (by rw [(schL_ok h0.b8 64).1]; exact ⟨by kernel_rfl, by kernel_rfl⟩) (by simp only [iws_length, List.length_replicate]; rw [(schL_ok h0.b8 64).1])⟩)⟩),
(by exact ⟨rfl, .inr (.inr ⟨_, (.tail _ (.head _)), rfl, rfl, rfl, by kernel_rfl, ⟨_, rfl⟩, (by intro e he; simp only [List.mem_cons, List.not_mem_nil, or_false] at he; rcases he with rfl | rfl | rfl <;> exact ⟨by dsimp only; omega, fun h => by first | (exfalso; dsimp only at h; omega) | rfl⟩), fun a' w' g hb' hO hD hp hBz => by
   have d_5 : a'.eval (.tmp 16) = .agg (iws .u32 (tableS)).toArray := hD 2 16 (by kernel_rfl) rfl
   exact o_storeI rfl (hp _ rfl) d_5 hBz (by rw [tableS_ok.1]; exact ⟨by kernel_rfl, by kernel_rfl⟩) (by simp only [iws_length, List.length_replicate]; rw [tableS_ok.1])⟩)⟩), trivial⟩ (fun a_1 w_3 gf_1 hs_1 hd_1 hb_5 hO_1 hV_1 hN_1 hG_1 => ?_)
 have ta_1_0 := (hO_1 0 (by decide)).trans ((pm rfl).trans t0)
 have ta_1_1 := (hO_1 1 (by decide)).trans ((pm rfl).trans t1)
 have ta_1_2 : a_1.eval (.tmp 2) = .pointer (some ⟨g_1, 0, none⟩) := (hO_1 2 (by decide)).trans (pe hs rfl rfl)
 have ta_1_4 : a_1.eval (.tmp 4) = .pointer (some ⟨g_2, 0, none⟩) := (hO_1 4 (by decide)).trans (pe hs rfl rfl)
 clear t0 t1 hd
 obtain ⟨ta_1_5, hle_3, hB_3⟩ := hN_1 0 _ rfl _ rfl
 obtain ⟨ta_1_6, hle_4, hB_4⟩ := hN_1 1 _ rfl _ rfl
 obtain ⟨ta_1_7, hle_5, hB_5⟩ := hN_1 2 _ rfl _ rfl
 have ne_3 : gf_1 4 ≠ gf_1 6 := hG_1 0 2 _ _ rfl rfl (by dsimp only; omega)
 have ne_4 : gf_1 5 ≠ gf_1 6 := hG_1 1 2 _ _ rfl rfl (by dsimp only; omega)
 clear hN_1 hG_1
 dsimp only at ta_1_5 hle_3 hB_3 ta_1_6 hle_4 hB_4 ta_1_7 hle_5 hB_5
 generalize gf_1 4 = g_3 at *
 generalize gf_1 5 = g_4 at *
 generalize gf_1 6 = g_5 at *
 have ne_9 : g_1 ≠ g_5 := Nat.ne_of_lt (Nat.lt_of_lt_of_le hB_1.lt hle_5)
 have ne_10 : g_2 ≠ g_5 := Nat.ne_of_lt (Nat.lt_of_lt_of_le hB_2.lt hle_5)
 have ge_5 : w.heap.size ≤ g_5 := Nat.le_trans HB_1.size hle_5
 replace hB_1 := hB_1.nx hb_5
 replace hB_2 := hB_2.nx hb_5
 have HB_2 := below_from HB_1 hb_5
 have ta_1_14 : a_1.eval (.tmp 14) = .slice A0 (q) (c0) := hV_1 0 14 rfl rfl
 have ta_1_15 : a_1.eval (.tmp 15) = .agg (iws .u32 (schL bs 64)).toArray := hV_1 1 15 rfl rfl
 have ta_1_16 : a_1.eval (.tmp 16) = .agg (iws .u32 (tableS)).toArray := hV_1 2 16 rfl rfl
 have ta_1_17 : a_1.eval (.tmp 17) = .agg (iws .u32 (v0)).toArray := hV_1 3 17 rfl rfl
 clear hV_1 hO_1
 simp only [List.drop_succ_cons, List.drop_zero]
 refine op_do rfl rfl (o_storeI rfl ((pm rfl).trans ta_1_7) ((pm rfl).trans ta_1_17) hB_5 (by rw [hv.1]; exact ⟨by kernel_rfl, by kernel_rfl⟩) (by rw [hv.1]; simp [iws])) (fun w_4 hR_3 => ?_)
 obtain ⟨hB_6, hX_1⟩ := hR_3
 replace hB_1 := hX_1.blk hB_1 ne_9
 replace hB_2 := hX_1.blk hB_2 ne_10
 replace hB_3 := hX_1.blk hB_3 ne_3
 replace hB_4 := hX_1.blk hB_4 ne_4
 have HB_3 := hX_1.below HB_2 HB_2.size (fun k hk => hk ▸ ge_5)
 clear hB_5
 refine x_nil (hK_2 _ _ ?_)
 refine w2_seq (fun K_3 hK_3 => ?_)
 refine w2_sr (fun K_4 hK_4 => ?_)
 refine q_v 18 (.int .i64 ((0 : Nat) : Int)) (o_move rfl rfl) ?_
 refine x_nil (hK_4 _ _ ?_)
 refine w2_block (fun K_5 hK_5 => ?_)
 refine x_loop (fun nn aa ww => ∃ (K : Nat) (sv : List Nat), nn = 64 - K ∧ aa.tmps.size = 99 ∧ aa.defers = [] ∧ aa.eval (.tmp 0) = .agg (iws .u32 (v0)).toArray ∧ aa.eval (.tmp 1) = .slice A0 (q) (c0) ∧ aa.eval (.tmp 2) = .pointer (some ⟨g_1, 0, none⟩) ∧ aa.eval (.tmp 4) = .pointer (some ⟨g_2, 0, none⟩) ∧ aa.eval (.tmp 5) = .pointer (some ⟨g_3, 0, none⟩) ∧ aa.eval (.tmp 6) = .pointer (some ⟨g_4, 0, none⟩) ∧ aa.eval (.tmp 7) = .pointer (some ⟨g_5, 0, none⟩) ∧ aa.eval (.tmp 14) = .slice A0 (q) (c0) ∧ aa.eval (.tmp 15) = .agg (iws .u32 (schL bs 64)).toArray ∧ aa.eval (.tmp 16) = .agg (iws .u32 (tableS)).toArray ∧ aa.eval (.tmp 17) = .agg (iws .u32 (v0)).toArray ∧ aa.eval (.tmp 18) = .int .i64 ((K : Nat) : Int) ∧ K ≤ 64 ∧ sv = rndL v0 (schL bs 64) K ∧ Ok32 8 sv ∧ Below w.heap.size w ww ∧ Blk ww g_1 (iws .u32 (v0)).toArray 144 ∧ Blk ww g_2 (iws .u32 (List.replicate 8 0)).toArray 144 ∧ Blk ww g_3 (iws .u32 (schL bs 64)).toArray 189 ∧ Blk ww g_4 (iws .u32 (tableS)).toArray 189 ∧ Blk ww g_5 (iws .u32 (sv)).toArray 144) (64 - 0) ?_ ?_
 ·exact ⟨0, v0, rfl, (by rw [putsR_size]; exact hs_1), (by rw [putsR_defers]; exact hd_1), ((pm rfl).trans ta_1_0), ((pm rfl).trans ta_1_1), ((pm rfl).trans ta_1_2), ((pm rfl).trans ta_1_4), ((pm rfl).trans ta_1_5), ((pm rfl).trans ta_1_6), ((pm rfl).trans ta_1_7), ((pm rfl).trans ta_1_14), ((pm rfl).trans ta_1_15), ((pm rfl).trans ta_1_16), ((pm rfl).trans ta_1_17), (pe hs_1 rfl rfl), Nat.zero_le _, rfl, hv, HB_3, hB_1, hB_2, hB_3, hB_4, hB_6⟩
 ·skip
  clear ta_1_0 ta_1_1 ta_1_2 ta_1_4 ta_1_5 ta_1_6 ta_1_7 ta_1_14 ta_1_15 ta_1_16 ta_1_17 hd_1 hB_1 hB_2 hB_3 hB_4 hB_6 HB_3
  rintro nna_2 a_2 w_5 ⟨K, sv, hm_1, hs_2, hd_2, ta_2_0, ta_2_1, ta_2_2, ta_2_4, ta_2_5, ta_2_6, ta_2_7, ta_2_14, ta_2_15, ta_2_16, ta_2_17, ta_2_18, hK, hvd, hok, HBL, hFs, hFr, hFx, hFk, hFv⟩ K_6 hK_6
  subst hm_1
  refine w2_sr (fun K_7 hK_7 => ?_)
  refine q_v 19 (.bool (decide (K < 64))) (o_lss (m := K) (n := 64) rfl ((pm rfl).trans ta_2_18) rfl) ?_
  refine x_nil (hK_7 _ _ ?_)
  refine w2_seq (fun K_8 hK_8 => ?_)
  refine w2_split (pe hs_2 rfl rfl) (fun h_1 => ?_) (fun h_1 => ?_)
  ·simp only [DD9] at h_1
   have hlt : K < 64 := h_1
   refine w2_skip ?_
   refine hK_8 _ _ ?_
   refine w2_seq (fun K_9 hK_9 => ?_)
   refine w2_block (fun K_10 hK_10 => ?_)
   refine w2_sr (fun K_11 hK_11 => ?_)
   refine q_mv ((pm rfl).trans ta_2_18) ?_
   refine q_at (pe hs_2 rfl rfl) ?_
   refine x_nil (hK_11 _ _ ?_)
   refine w2_seq (fun K_12 hK_12 => ?_)
   refine x_drawn2 5 [fun _ v => v = .pointer (some ⟨g_5, 0, none⟩), fun _ v => v = .int .u32 ((sv.getD (0) 0 : Nat) : Int), fun _ v => v = .pointer (some ⟨g_5, 4, none⟩), fun _ v => v = .int .u32 ((sv.getD (4) 0 : Nat) : Int), fun _ v => v = .int .u32 ((sv.getD (0) 0 : Nat) : Int)] [21, 22, 23, 24, 9] hs_2 hd_2 (by kernel_rfl) (by kernel_rfl) (by kernel_rfl) (by kernel_rfl) (by kernel_rfl) ⟨stLit, stLit, stLit, stLit, stLit, trivial⟩ ⟨(step_ok rfl (fun a' w' hb' hO hD => by
     have d_6 := (hO 7 (by decide)).trans ((pm rfl).trans ta_2_7)
     exact .inl ⟨_, _, (zero_off (o_ixA (k := 0) (i := 0) (n := 8) (e := 142) rfl d_6 rfl (by omega) (fun _ => by kernel_rfl) (fun _ => by kernel_rfl))), rfl, Below.refl _ _⟩)),
(step_ok rfl (fun a' w' hb' hO hD => by
     have d_7 : a'.eval (.tmp 21) = .pointer (some ⟨g_5, 0, none⟩) := hD 0 21 (by kernel_rfl) rfl
     exact .inl ⟨_, _, (o_loadW rfl d_7 (hFv.nx hb') (by rw [hok.1]; omega) rfl ⟨by kernel_rfl, by kernel_rfl⟩), rfl, Below.refl _ _⟩)),
(step_ok rfl (fun a' w' hb' hO hD => by
     have d_8 := (hO 7 (by decide)).trans ((pm rfl).trans ta_2_7)
     exact .inl ⟨_, _, (zero_off (o_ixA (k := 0) (i := 4) (n := 8) (e := 142) rfl d_8 rfl (by omega) (fun _ => by kernel_rfl) (fun _ => by kernel_rfl))), rfl, Below.refl _ _⟩)),
(step_ok rfl (fun a' w' hb' hO hD => by
     have d_9 : a'.eval (.tmp 23) = .pointer (some ⟨g_5, 4, none⟩) := hD 2 23 (by kernel_rfl) rfl
     exact .inl ⟨_, _, (o_loadW rfl d_9 (hFv.nx hb') (by rw [hok.1]; omega) rfl ⟨by kernel_rfl, by kernel_rfl⟩), rfl, Below.refl _ _⟩)),
(step_ok rfl (fun a' w' hb' hO hD => by
     have d_10 : a'.eval (.tmp 22) = .int .u32 ((sv.getD (0) 0 : Nat) : Int) := hD 1 22 (by kernel_rfl) rfl
     exact .inl ⟨_, _, (o_assign rfl d_10), rfl, Below.refl _ _⟩)), trivial⟩ (fun a_3 w_6 hs_3 hd_3 hb_6 hO_2 hV_2 => ?_)
   have ta_3_0 := (hO_2 0 (by decide)).trans ((pm rfl).trans ta_2_0)
   have ta_3_1 := (hO_2 1 (by decide)).trans ((pm rfl).trans ta_2_1)
   have ta_3_2 := (hO_2 2 (by decide)).trans ((pm rfl).trans ta_2_2)
   have ta_3_4 := (hO_2 4 (by decide)).trans ((pm rfl).trans ta_2_4)
   have ta_3_5 := (hO_2 5 (by decide)).trans ((pm rfl).trans ta_2_5)
   have ta_3_6 := (hO_2 6 (by decide)).trans ((pm rfl).trans ta_2_6)
   have ta_3_7 := (hO_2 7 (by decide)).trans ((pm rfl).trans ta_2_7)
   have ta_3_14 := (hO_2 14 (by decide)).trans ((pm rfl).trans ta_2_14)
   have ta_3_15 := (hO_2 15 (by decide)).trans ((pm rfl).trans ta_2_15)
   have ta_3_16 := (hO_2 16 (by decide)).trans ((pm rfl).trans ta_2_16)
   have ta_3_17 := (hO_2 17 (by decide)).trans ((pm rfl).trans ta_2_17)
   have ta_3_18 := (hO_2 18 (by decide)).trans ((pm rfl).trans ta_2_18)
   have ta_3_19 : a_3.eval (.tmp 19) = .bool (decide (K < 64)) := (hO_2 19 (by decide)).trans (pe hs_2 rfl rfl)
   have ta_3_20 : a_3.eval (.tmp 20) = .int .i64 ((K : Nat) : Int) := (hO_2 20 (by decide)).trans (pe hs_2 rfl rfl)
   have ta_3_8 : a_3.eval (.tmp 8) = .int .i64 ((K : Nat) : Int) := (hO_2 8 (by decide)).trans (pe hs_2 rfl rfl)
   clear ta_2_0 ta_2_1 ta_2_2 ta_2_4 ta_2_5 ta_2_6 ta_2_7 ta_2_14 ta_2_15 ta_2_16 ta_2_17 ta_2_18 hd_2
   replace hFs := hFs.nx hb_6
   replace hFr := hFr.nx hb_6
   replace hFx := hFx.nx hb_6
   replace hFk := hFk.nx hb_6
   replace hFv := hFv.nx hb_6
   have HB_4 := below_from HBL hb_6
   have ta_3_21 : a_3.eval (.tmp 21) = .pointer (some ⟨g_5, 0, none⟩) := hV_2 0 21 rfl rfl
   have ta_3_22 : a_3.eval (.tmp 22) = .int .u32 ((sv.getD (0) 0 : Nat) : Int) := hV_2 1 22 rfl rfl
   have ta_3_23 : a_3.eval (.tmp 23) = .pointer (some ⟨g_5, 4, none⟩) := hV_2 2 23 rfl rfl
   have ta_3_24 : a_3.eval (.tmp 24) = .int .u32 ((sv.getD (4) 0 : Nat) : Int) := hV_2 3 24 rfl rfl
   have ta_3_9 : a_3.eval (.tmp 9) = .int .u32 ((sv.getD (0) 0 : Nat) : Int) := hV_2 4 9 rfl rfl
   clear hV_2 hO_2
   simp only [List.drop_succ_cons, List.drop_zero]
   refine q_at ((pm rfl).trans ta_3_24) ?_
   refine x_nil (hK_12 _ _ ?_)
   refine w2_seq (fun K_13 hK_13 => ?_)
   refine x_drawn 23 [fun _ v => v = .pointer (some ⟨g_5, 7, none⟩), fun _ v => v = .int .u32 ((sv.getD (7) 0 : Nat) : Int), fun _ v => v = .int .u32 ((sv.getD (4) 0 : Nat) : Int), fun ww vv => vv = .int .u32 ((threeN (sv.getD (4) 0) 6 11 25 : Nat) : Int), fun _ v => v = .int .u32 ((((sv.getD (7) 0) + (threeN (sv.getD (4) 0) 6 11 25)) % 4294967296 : Nat) : Int), fun _ v => v = .int .u32 ((sv.getD (4) 0 : Nat) : Int), fun _ v => v = .pointer (some ⟨g_5, 5, none⟩), fun _ v => v = .int .u32 ((sv.getD (5) 0 : Nat) : Int), fun _ v => v = .int .u32 (((sv.getD (4) 0) &&& (sv.getD (5) 0) : Nat) : Int), fun _ v => v = .int .u32 ((sv.getD (4) 0 : Nat) : Int), fun _ v => v = .int .u32 ((4294967295 ^^^ (sv.getD (4) 0) : Nat) : Int), fun _ v => v = .pointer (some ⟨g_5, 6, none⟩), fun _ v => v = .int .u32 ((sv.getD (6) 0 : Nat) : Int), fun _ v => v = .int .u32 (((4294967295 ^^^ (sv.getD (4) 0)) &&& (sv.getD (6) 0) : Nat) : Int), fun _ v => v = .int .u32 ((((sv.getD (4) 0) &&& (sv.getD (5) 0)) ^^^ ((4294967295 ^^^ (sv.getD (4) 0)) &&& (sv.getD (6) 0)) : Nat) : Int), fun _ v => v = .int .u32 ((((((sv.getD (7) 0) + (threeN (sv.getD (4) 0) 6 11 25)) % 4294967296) + (((sv.getD (4) 0) &&& (sv.getD (5) 0)) ^^^ ((4294967295 ^^^ (sv.getD (4) 0)) &&& (sv.getD (6) 0)))) % 4294967296 : Nat) : Int), fun _ v => v = .int .i64 ((K : Nat) : Int), fun _ v => v = .pointer (some ⟨g_4, K, none⟩), fun _ v => v = .int .u32 ((tableS.getD (K) 0 : Nat) : Int), fun _ v => v = .int .u32 ((((((((sv.getD (7) 0) + (threeN (sv.getD (4) 0) 6 11 25)) % 4294967296) + (((sv.getD (4) 0) &&& (sv.getD (5) 0)) ^^^ ((4294967295 ^^^ (sv.getD (4) 0)) &&& (sv.getD (6) 0)))) % 4294967296) + (tableS.getD (K) 0)) % 4294967296 : Nat) : Int), fun _ v => v = .int .i64 ((K : Nat) : Int), fun _ v => v = .pointer (some ⟨g_3, K, none⟩), fun _ v => v = .int .u32 (((schL bs 64).getD (K) 0 : Nat) : Int)] [25, 26, 27, 28, 29, 30, 31, 32, 33, 34, 35, 36, 37, 38, 39, 40, 41, 42, 43, 44, 45, 46, 47] hs_3 hd_3 (by kernel_rfl) (by kernel_rfl) (by kernel_rfl) (by kernel_rfl) (by kernel_rfl) ⟨stLit, stLit, stLit, stLit, stLit, stLit, stLit, stLit, stLit, stLit, stLit, stLit, stLit, stLit, stLit, stLit, stLit, stLit, stLit, stLit, stLit, stLit, stLit, trivial⟩ ⟨(step_ok rfl (fun a' w' hb' hO hD => by
     have d_11 := (hO 7 (by decide)).trans ((pm rfl).trans ta_3_7)
     exact .inl ⟨_, _, (zero_off (o_ixA (k := 0) (i := 7) (n := 8) (e := 142) rfl d_11 rfl (by omega) (fun _ => by kernel_rfl) (fun _ => by kernel_rfl))), rfl, Below.refl _ _⟩)),
(step_ok rfl (fun a' w' hb' hO hD => by
     have d_12 : a'.eval (.tmp 25) = .pointer (some ⟨g_5, 7, none⟩) := hD 0 25 (by kernel_rfl) rfl
     exact .inl ⟨_, _, (o_loadW rfl d_12 (hFv.nx hb') (by rw [hok.1]; omega) rfl ⟨by kernel_rfl, by kernel_rfl⟩), rfl, Below.refl _ _⟩)),
(step_ok rfl (fun a' w' hb' hO hD => by
     have d_13 : a'.eval (.tmp 10) = .int .u32 ((sv.getD (4) 0 : Nat) : Int) := (hO 10 (by decide)).trans (pe hs_3 rfl rfl)
     exact .inl ⟨_, _, (o_move rfl d_13), rfl, Below.refl _ _⟩)),
(step_ok rfl (fun a' w' hb' hO hD => by
     have d_14 : a'.eval (.tmp 27) = .int .u32 ((sv.getD (4) 0 : Nat) : Int) := hD 2 27 (by kernel_rfl) rfl
     exact .inr ⟨_, #[.int .u32 ((sv.getD (4) 0 : Nat) : Int), .int .i64 ((6 : Nat) : Int), .int .i64 ((11 : Nat) : Int), .int .i64 ((25 : Nat) : Int)], (exec_call Tryz.func124 (by kernel_rfl) (by kernel_rfl) _ rfl _ _ (args4 d_14 rfl rfl rfl)), Calls.mono (three_any (sv.getD (4) 0) 6 11 25 _ (hok.get _) (by decide) (by decide) (by decide) (by decide) (by decide) (by decide)) (fun e w'' hR => by obtain ⟨rfl, hb_7⟩ := hR; exact ⟨_, rfl, rfl, hb_7⟩)⟩)),
(step_ok rfl (fun a' w' hb' hO hD => by
     have d_15 : a'.eval (.tmp 26) = .int .u32 ((sv.getD (7) 0 : Nat) : Int) := hD 1 26 (by kernel_rfl) rfl
     have d_16 : a'.eval (.tmp 28) = .int .u32 ((threeN (sv.getD (4) 0) 6 11 25 : Nat) : Int) := hD 3 28 (by kernel_rfl) rfl
     exact .inl ⟨_, _, (o_addU (m := (sv.getD (7) 0)) (n := (threeN (sv.getD (4) 0) 6 11 25)) (((sv.getD (7) 0) + (threeN (sv.getD (4) 0) 6 11 25)) % 4294967296) rfl d_15 d_16 (by rw [IntKind.wrap_u32]; omega)), rfl, Below.refl _ _⟩)),
(step_ok rfl (fun a' w' hb' hO hD => by
     have d_17 : a'.eval (.tmp 10) = .int .u32 ((sv.getD (4) 0 : Nat) : Int) := (hO 10 (by decide)).trans (pe hs_3 rfl rfl)
     exact .inl ⟨_, _, (o_move rfl d_17), rfl, Below.refl _ _⟩)),
(step_ok rfl (fun a' w' hb' hO hD => by
     have d_18 := (hO 7 (by decide)).trans ((pm rfl).trans ta_3_7)
     exact .inl ⟨_, _, (zero_off (o_ixA (k := 0) (i := 5) (n := 8) (e := 142) rfl d_18 rfl (by omega) (fun _ => by kernel_rfl) (fun _ => by kernel_rfl))), rfl, Below.refl _ _⟩)),
(step_ok rfl (fun a' w' hb' hO hD => by
     have d_19 : a'.eval (.tmp 31) = .pointer (some ⟨g_5, 5, none⟩) := hD 6 31 (by kernel_rfl) rfl
     exact .inl ⟨_, _, (o_loadW rfl d_19 (hFv.nx hb') (by rw [hok.1]; omega) rfl ⟨by kernel_rfl, by kernel_rfl⟩), rfl, Below.refl _ _⟩)),
(step_ok rfl (fun a' w' hb' hO hD => by
     have d_20 : a'.eval (.tmp 30) = .int .u32 ((sv.getD (4) 0 : Nat) : Int) := hD 5 30 (by kernel_rfl) rfl
     have d_21 : a'.eval (.tmp 32) = .int .u32 ((sv.getD (5) 0 : Nat) : Int) := hD 7 32 (by kernel_rfl) rfl
     exact .inl ⟨_, _, (o_bits (m := (sv.getD (4) 0)) (n := (sv.getD (5) 0)) ((sv.getD (4) 0) &&& (sv.getD (5) 0)) rfl d_20 d_21 (by decide) (u32_and_nat _ _ (hok.get _) (hok.get _))), rfl, Below.refl _ _⟩)),
(step_ok rfl (fun a' w' hb' hO hD => by
     have d_22 : a'.eval (.tmp 10) = .int .u32 ((sv.getD (4) 0 : Nat) : Int) := (hO 10 (by decide)).trans (pe hs_3 rfl rfl)
     exact .inl ⟨_, _, (o_move rfl d_22), rfl, Below.refl _ _⟩)),
(step_ok rfl (fun a' w' hb' hO hD => by
     have d_24 : a'.eval (.tmp 34) = .int .u32 ((sv.getD (4) 0 : Nat) : Int) := hD 9 34 (by kernel_rfl) rfl
     exact .inl ⟨_, _, (o_not32 (m := (sv.getD (4) 0)) rfl d_24 (hok.get _)), rfl, Below.refl _ _⟩)),
(step_ok rfl (fun a' w' hb' hO hD => by
     have d_25 := (hO 7 (by decide)).trans ((pm rfl).trans ta_3_7)
     exact .inl ⟨_, _, (zero_off (o_ixA (k := 0) (i := 6) (n := 8) (e := 142) rfl d_25 rfl (by omega) (fun _ => by kernel_rfl) (fun _ => by kernel_rfl))), rfl, Below.refl _ _⟩)),
(step_ok rfl (fun a' w' hb' hO hD => by
     have d_26 : a'.eval (.tmp 36) = .pointer (some ⟨g_5, 6, none⟩) := hD 11 36 (by kernel_rfl) rfl
     exact .inl ⟨_, _, (o_loadW rfl d_26 (hFv.nx hb') (by rw [hok.1]; omega) rfl ⟨by kernel_rfl, by kernel_rfl⟩), rfl, Below.refl _ _⟩)),
(step_ok rfl (fun a' w' hb' hO hD => by
     have d_27 : a'.eval (.tmp 35) = .int .u32 ((4294967295 ^^^ (sv.getD (4) 0) : Nat) : Int) := hD 10 35 (by kernel_rfl) rfl
     have d_28 : a'.eval (.tmp 37) = .int .u32 ((sv.getD (6) 0 : Nat) : Int) := hD 12 37 (by kernel_rfl) rfl
     exact .inl ⟨_, _, (o_bits (m := (4294967295 ^^^ (sv.getD (4) 0))) (n := (sv.getD (6) 0)) ((4294967295 ^^^ (sv.getD (4) 0)) &&& (sv.getD (6) 0)) rfl d_27 d_28 (by decide) (u32_and_nat _ _ (xor_lt32 (by decide) (hok.get _)) (hok.get _))), rfl, Below.refl _ _⟩)),
(step_ok rfl (fun a' w' hb' hO hD => by
     have d_29 : a'.eval (.tmp 33) = .int .u32 (((sv.getD (4) 0) &&& (sv.getD (5) 0) : Nat) : Int) := hD 8 33 (by kernel_rfl) rfl
     have d_30 : a'.eval (.tmp 38) = .int .u32 (((4294967295 ^^^ (sv.getD (4) 0)) &&& (sv.getD (6) 0) : Nat) : Int) := hD 13 38 (by kernel_rfl) rfl
     exact .inl ⟨_, _, (o_bits (m := ((sv.getD (4) 0) &&& (sv.getD (5) 0))) (n := ((4294967295 ^^^ (sv.getD (4) 0)) &&& (sv.getD (6) 0))) (((sv.getD (4) 0) &&& (sv.getD (5) 0)) ^^^ ((4294967295 ^^^ (sv.getD (4) 0)) &&& (sv.getD (6) 0))) rfl d_29 d_30 (by decide) (u32_xor_nat _ _ (and_lt32 (hok.get _)) (and_lt32 (xor_lt32 (by decide) (hok.get _))))), rfl, Below.refl _ _⟩)),
(step_ok rfl (fun a' w' hb' hO hD => by
     have d_31 : a'.eval (.tmp 29) = .int .u32 ((((sv.getD (7) 0) + (threeN (sv.getD (4) 0) 6 11 25)) % 4294967296 : Nat) : Int) := hD 4 29 (by kernel_rfl) rfl
     have d_32 : a'.eval (.tmp 39) = .int .u32 ((((sv.getD (4) 0) &&& (sv.getD (5) 0)) ^^^ ((4294967295 ^^^ (sv.getD (4) 0)) &&& (sv.getD (6) 0)) : Nat) : Int) := hD 14 39 (by kernel_rfl) rfl
     exact .inl ⟨_, _, (o_addU (m := (((sv.getD (7) 0) + (threeN (sv.getD (4) 0) 6 11 25)) % 4294967296)) (n := (((sv.getD (4) 0) &&& (sv.getD (5) 0)) ^^^ ((4294967295 ^^^ (sv.getD (4) 0)) &&& (sv.getD (6) 0)))) (((((sv.getD (7) 0) + (threeN (sv.getD (4) 0) 6 11 25)) % 4294967296) + (((sv.getD (4) 0) &&& (sv.getD (5) 0)) ^^^ ((4294967295 ^^^ (sv.getD (4) 0)) &&& (sv.getD (6) 0)))) % 4294967296) rfl d_31 d_32 (by rw [IntKind.wrap_u32]; omega)), rfl, Below.refl _ _⟩)),
(step_ok rfl (fun a' w' hb' hO hD => by
     have d_33 := (hO 8 (by decide)).trans ((pm rfl).trans ta_3_8)
     exact .inl ⟨_, _, (o_move rfl d_33), rfl, Below.refl _ _⟩)),
(step_ok rfl (fun a' w' hb' hO hD => by
     have d_34 := (hO 6 (by decide)).trans ((pm rfl).trans ta_3_6)
     have d_35 : a'.eval (.tmp 41) = .int .i64 ((K : Nat) : Int) := hD 16 41 (by kernel_rfl) rfl
     exact .inl ⟨_, _, (zero_off (o_ixA (k := 0) (i := K) (n := 64) (e := 142) rfl d_34 d_35 (by omega) (fun _ => by kernel_rfl) (fun _ => by kernel_rfl))), rfl, Below.refl _ _⟩)),
(step_ok rfl (fun a' w' hb' hO hD => by
     have d_36 : a'.eval (.tmp 42) = .pointer (some ⟨g_4, K, none⟩) := hD 17 42 (by kernel_rfl) rfl
     exact .inl ⟨_, _, (o_loadW rfl d_36 (hFk.nx hb') (by rw [tableS_ok.1]; omega) rfl ⟨by kernel_rfl, by kernel_rfl⟩), rfl, Below.refl _ _⟩)),
(step_ok rfl (fun a' w' hb' hO hD => by
     have d_37 : a'.eval (.tmp 40) = .int .u32 ((((((sv.getD (7) 0) + (threeN (sv.getD (4) 0) 6 11 25)) % 4294967296) + (((sv.getD (4) 0) &&& (sv.getD (5) 0)) ^^^ ((4294967295 ^^^ (sv.getD (4) 0)) &&& (sv.getD (6) 0)))) % 4294967296 : Nat) : Int) := hD 15 40 (by kernel_rfl) rfl
     have d_38 : a'.eval (.tmp 43) = .int .u32 ((tableS.getD (K) 0 : Nat) : Int) := hD 18 43 (by kernel_rfl) rfl
     exact .inl ⟨_, _, (o_addU (m := (((((sv.getD (7) 0) + (threeN (sv.getD (4) 0) 6 11 25)) % 4294967296) + (((sv.getD (4) 0) &&& (sv.getD (5) 0)) ^^^ ((4294967295 ^^^ (sv.getD (4) 0)) &&& (sv.getD (6) 0)))) % 4294967296)) (n := (tableS.getD (K) 0)) (((((((sv.getD (7) 0) + (threeN (sv.getD (4) 0) 6 11 25)) % 4294967296) + (((sv.getD (4) 0) &&& (sv.getD (5) 0)) ^^^ ((4294967295 ^^^ (sv.getD (4) 0)) &&& (sv.getD (6) 0)))) % 4294967296) + (tableS.getD (K) 0)) % 4294967296) rfl d_37 d_38 (by rw [IntKind.wrap_u32]; omega)), rfl, Below.refl _ _⟩)),
(step_ok rfl (fun a' w' hb' hO hD => by
     have d_39 := (hO 8 (by decide)).trans ((pm rfl).trans ta_3_8)
     exact .inl ⟨_, _, (o_move rfl d_39), rfl, Below.refl _ _⟩)),
(step_ok rfl (fun a' w' hb' hO hD => by
     have d_40 := (hO 5 (by decide)).trans ((pm rfl).trans ta_3_5)
     have d_41 : a'.eval (.tmp 45) = .int .i64 ((K : Nat) : Int) := hD 20 45 (by kernel_rfl) rfl
     exact .inl ⟨_, _, (zero_off (o_ixA (k := 0) (i := K) (n := 64) (e := 142) rfl d_40 d_41 (by omega) (fun _ => by kernel_rfl) (fun _ => by kernel_rfl))), rfl, Below.refl _ _⟩)),
(step_ok rfl (fun a' w' hb' hO hD => by
     have d_42 : a'.eval (.tmp 46) = .pointer (some ⟨g_3, K, none⟩) := hD 21 46 (by kernel_rfl) rfl
     exact .inl ⟨_, _, (o_loadW rfl d_42 (hFx.nx hb') (by rw [(schL_ok h0.b8 64).1]; omega) rfl ⟨by kernel_rfl, by kernel_rfl⟩), rfl, Below.refl _ _⟩)), trivial⟩ (fun a_4 w_7 hs_4 hd_4 hb_8 hO_3 hV_3 => ?_)
   have ta_4_0 := (hO_3 0 (by decide)).trans ((pm rfl).trans ta_3_0)
   have ta_4_1 := (hO_3 1 (by decide)).trans ((pm rfl).trans ta_3_1)
   have ta_4_2 := (hO_3 2 (by decide)).trans ((pm rfl).trans ta_3_2)
   have ta_4_4 := (hO_3 4 (by decide)).trans ((pm rfl).trans ta_3_4)
   have ta_4_5 := (hO_3 5 (by decide)).trans ((pm rfl).trans ta_3_5)
   have ta_4_6 := (hO_3 6 (by decide)).trans ((pm rfl).trans ta_3_6)
   have ta_4_7 := (hO_3 7 (by decide)).trans ((pm rfl).trans ta_3_7)
   have ta_4_14 := (hO_3 14 (by decide)).trans ((pm rfl).trans ta_3_14)
   have ta_4_15 := (hO_3 15 (by decide)).trans ((pm rfl).trans ta_3_15)
   have ta_4_16 := (hO_3 16 (by decide)).trans ((pm rfl).trans ta_3_16)
   have ta_4_17 := (hO_3 17 (by decide)).trans ((pm rfl).trans ta_3_17)
   have ta_4_18 := (hO_3 18 (by decide)).trans ((pm rfl).trans ta_3_18)
   have ta_4_19 := (hO_3 19 (by decide)).trans ((pm rfl).trans ta_3_19)
   have ta_4_20 := (hO_3 20 (by decide)).trans ((pm rfl).trans ta_3_20)
   have ta_4_8 := (hO_3 8 (by decide)).trans ((pm rfl).trans ta_3_8)
   have ta_4_21 := (hO_3 21 (by decide)).trans ((pm rfl).trans ta_3_21)
   have ta_4_22 := (hO_3 22 (by decide)).trans ((pm rfl).trans ta_3_22)
   have ta_4_23 := (hO_3 23 (by decide)).trans ((pm rfl).trans ta_3_23)
   have ta_4_24 := (hO_3 24 (by decide)).trans ((pm rfl).trans ta_3_24)
   have ta_4_9 := (hO_3 9 (by decide)).trans ((pm rfl).trans ta_3_9)
   have ta_4_10 : a_4.eval (.tmp 10) = .int .u32 ((sv.getD (4) 0 : Nat) : Int) := (hO_3 10 (by decide)).trans (pe hs_3 rfl rfl)
   clear ta_3_0 ta_3_1 ta_3_2 ta_3_4 ta_3_5 ta_3_6 ta_3_7 ta_3_14 ta_3_15 ta_3_16 ta_3_17 ta_3_18 ta_3_19 ta_3_20 ta_3_8 ta_3_21 ta_3_22 ta_3_23 ta_3_24 ta_3_9 hd_3
   replace hFs := hFs.nx hb_8
   replace hFr := hFr.nx hb_8
   replace hFx := hFx.nx hb_8
   replace hFk := hFk.nx hb_8
   replace hFv := hFv.nx hb_8
   have HB_5 := below_from HB_4 hb_8
   have ta_4_25 : a_4.eval (.tmp 25) = .pointer (some ⟨g_5, 7, none⟩) := hV_3 0 25 rfl rfl
   have ta_4_26 : a_4.eval (.tmp 26) = .int .u32 ((sv.getD (7) 0 : Nat) : Int) := hV_3 1 26 rfl rfl
   have ta_4_27 : a_4.eval (.tmp 27) = .int .u32 ((sv.getD (4) 0 : Nat) : Int) := hV_3 2 27 rfl rfl
   have ta_4_28 : a_4.eval (.tmp 28) = .int .u32 ((threeN (sv.getD (4) 0) 6 11 25 : Nat) : Int) := hV_3 3 28 rfl rfl
   have ta_4_29 : a_4.eval (.tmp 29) = .int .u32 ((((sv.getD (7) 0) + (threeN (sv.getD (4) 0) 6 11 25)) % 4294967296 : Nat) : Int) := hV_3 4 29 rfl rfl
   have ta_4_30 : a_4.eval (.tmp 30) = .int .u32 ((sv.getD (4) 0 : Nat) : Int) := hV_3 5 30 rfl rfl
   have ta_4_31 : a_4.eval (.tmp 31) = .pointer (some ⟨g_5, 5, none⟩) := hV_3 6 31 rfl rfl
   have ta_4_32 : a_4.eval (.tmp 32) = .int .u32 ((sv.getD (5) 0 : Nat) : Int) := hV_3 7 32 rfl rfl
   have ta_4_33 : a_4.eval (.tmp 33) = .int .u32 (((sv.getD (4) 0) &&& (sv.getD (5) 0) : Nat) : Int) := hV_3 8 33 rfl rfl
   have ta_4_34 : a_4.eval (.tmp 34) = .int .u32 ((sv.getD (4) 0 : Nat) : Int) := hV_3 9 34 rfl rfl
   have ta_4_35 : a_4.eval (.tmp 35) = .int .u32 ((4294967295 ^^^ (sv.getD (4) 0) : Nat) : Int) := hV_3 10 35 rfl rfl
   have ta_4_36 : a_4.eval (.tmp 36) = .pointer (some ⟨g_5, 6, none⟩) := hV_3 11 36 rfl rfl
   have ta_4_37 : a_4.eval (.tmp 37) = .int .u32 ((sv.getD (6) 0 : Nat) : Int) := hV_3 12 37 rfl rfl
   have ta_4_38 : a_4.eval (.tmp 38) = .int .u32 (((4294967295 ^^^ (sv.getD (4) 0)) &&& (sv.getD (6) 0) : Nat) : Int) := hV_3 13 38 rfl rfl
   have ta_4_39 : a_4.eval (.tmp 39) = .int .u32 ((((sv.getD (4) 0) &&& (sv.getD (5) 0)) ^^^ ((4294967295 ^^^ (sv.getD (4) 0)) &&& (sv.getD (6) 0)) : Nat) : Int) := hV_3 14 39 rfl rfl
   have ta_4_40 : a_4.eval (.tmp 40) = .int .u32 ((((((sv.getD (7) 0) + (threeN (sv.getD (4) 0) 6 11 25)) % 4294967296) + (((sv.getD (4) 0) &&& (sv.getD (5) 0)) ^^^ ((4294967295 ^^^ (sv.getD (4) 0)) &&& (sv.getD (6) 0)))) % 4294967296 : Nat) : Int) := hV_3 15 40 rfl rfl
   have ta_4_41 : a_4.eval (.tmp 41) = .int .i64 ((K : Nat) : Int) := hV_3 16 41 rfl rfl
   have ta_4_42 : a_4.eval (.tmp 42) = .pointer (some ⟨g_4, K, none⟩) := hV_3 17 42 rfl rfl
   have ta_4_43 : a_4.eval (.tmp 43) = .int .u32 ((tableS.getD (K) 0 : Nat) : Int) := hV_3 18 43 rfl rfl
   have ta_4_44 : a_4.eval (.tmp 44) = .int .u32 ((((((((sv.getD (7) 0) + (threeN (sv.getD (4) 0) 6 11 25)) % 4294967296) + (((sv.getD (4) 0) &&& (sv.getD (5) 0)) ^^^ ((4294967295 ^^^ (sv.getD (4) 0)) &&& (sv.getD (6) 0)))) % 4294967296) + (tableS.getD (K) 0)) % 4294967296 : Nat) : Int) := hV_3 19 44 rfl rfl
   have ta_4_45 : a_4.eval (.tmp 45) = .int .i64 ((K : Nat) : Int) := hV_3 20 45 rfl rfl
   have ta_4_46 : a_4.eval (.tmp 46) = .pointer (some ⟨g_3, K, none⟩) := hV_3 21 46 rfl rfl
   have ta_4_47 : a_4.eval (.tmp 47) = .int .u32 (((schL bs 64).getD (K) 0 : Nat) : Int) := hV_3 22 47 rfl rfl
   clear hV_3 hO_3
   simp only [List.drop_succ_cons, List.drop_zero]
   refine q_v 48 (.int .u32 ((oneN sv tableS (schL bs 64) K : Nat) : Int)) (o_eq (o_addU (m := (((((((sv.getD (7) 0) + (threeN (sv.getD (4) 0) 6 11 25)) % 4294967296) + (((sv.getD (4) 0) &&& (sv.getD (5) 0)) ^^^ ((4294967295 ^^^ (sv.getD (4) 0)) &&& (sv.getD (6) 0)))) % 4294967296) + (tableS.getD (K) 0)) % 4294967296)) (n := ((schL bs 64).getD (K) 0)) (((((((((sv.getD (7) 0) + (threeN (sv.getD (4) 0) 6 11 25)) % 4294967296) + (((sv.getD (4) 0) &&& (sv.getD (5) 0)) ^^^ ((4294967295 ^^^ (sv.getD (4) 0)) &&& (sv.getD (6) 0)))) % 4294967296) + (tableS.getD (K) 0)) % 4294967296) + ((schL bs 64).getD (K) 0)) % 4294967296) rfl ((pm rfl).trans ta_4_44) ((pm rfl).trans ta_4_47) (by rw [IntKind.wrap_u32]; omega)) rfl) ?_
   refine q_at (pe hs_4 rfl rfl) ?_
   refine x_nil (hK_13 _ _ ?_)
   refine w2_seq (fun K_14 hK_14 => ?_)
   refine x_drawn 17 [fun _ v => v = .int .u32 ((sv.getD (0) 0 : Nat) : Int), fun ww vv => vv = .int .u32 ((threeN (sv.getD (0) 0) 2 13 22 : Nat) : Int), fun _ v => v = .int .u32 ((sv.getD (0) 0 : Nat) : Int), fun _ v => v = .pointer (some ⟨g_5, 1, none⟩), fun _ v => v = .int .u32 ((sv.getD (1) 0 : Nat) : Int), fun _ v => v = .int .u32 (((sv.getD (0) 0) &&& (sv.getD (1) 0) : Nat) : Int), fun _ v => v = .int .u32 ((sv.getD (0) 0 : Nat) : Int), fun _ v => v = .pointer (some ⟨g_5, 2, none⟩), fun _ v => v = .int .u32 ((sv.getD (2) 0 : Nat) : Int), fun _ v => v = .int .u32 (((sv.getD (0) 0) &&& (sv.getD (2) 0) : Nat) : Int), fun _ v => v = .int .u32 ((((sv.getD (0) 0) &&& (sv.getD (1) 0)) ^^^ ((sv.getD (0) 0) &&& (sv.getD (2) 0)) : Nat) : Int), fun _ v => v = .pointer (some ⟨g_5, 1, none⟩), fun _ v => v = .int .u32 ((sv.getD (1) 0 : Nat) : Int), fun _ v => v = .pointer (some ⟨g_5, 2, none⟩), fun _ v => v = .int .u32 ((sv.getD (2) 0 : Nat) : Int), fun _ v => v = .int .u32 (((sv.getD (1) 0) &&& (sv.getD (2) 0) : Nat) : Int), fun _ v => v = .int .u32 (((((sv.getD (0) 0) &&& (sv.getD (1) 0)) ^^^ ((sv.getD (0) 0) &&& (sv.getD (2) 0))) ^^^ ((sv.getD (1) 0) &&& (sv.getD (2) 0)) : Nat) : Int)] [49, 50, 51, 52, 53, 54, 55, 56, 57, 58, 59, 60, 61, 62, 63, 64, 65] hs_4 hd_4 (by kernel_rfl) (by kernel_rfl) (by kernel_rfl) (by kernel_rfl) (by kernel_rfl) ⟨stLit, stLit, stLit, stLit, stLit, stLit, stLit, stLit, stLit, stLit, stLit, stLit, stLit, stLit, stLit, stLit, stLit, trivial⟩ ⟨(step_ok rfl (fun a' w' hb' hO hD => by
     have d_43 := (hO 9 (by decide)).trans ((pm rfl).trans ta_4_9)
     exact .inl ⟨_, _, (o_move rfl d_43), rfl, Below.refl _ _⟩)),
(step_ok rfl (fun a' w' hb' hO hD => by
     have d_44 : a'.eval (.tmp 49) = .int .u32 ((sv.getD (0) 0 : Nat) : Int) := hD 0 49 (by kernel_rfl) rfl
     exact .inr ⟨_, #[.int .u32 ((sv.getD (0) 0 : Nat) : Int), .int .i64 ((2 : Nat) : Int), .int .i64 ((13 : Nat) : Int), .int .i64 ((22 : Nat) : Int)], (exec_call Tryz.func124 (by kernel_rfl) (by kernel_rfl) _ rfl _ _ (args4 d_44 rfl rfl rfl)), Calls.mono (three_any (sv.getD (0) 0) 2 13 22 _ (hok.get _) (by decide) (by decide) (by decide) (by decide) (by decide) (by decide)) (fun e w'' hR => by obtain ⟨rfl, hb_9⟩ := hR; exact ⟨_, rfl, rfl, hb_9⟩)⟩)),
(step_ok rfl (fun a' w' hb' hO hD => by
     have d_45 := (hO 9 (by decide)).trans ((pm rfl).trans ta_4_9)
     exact .inl ⟨_, _, (o_move rfl d_45), rfl, Below.refl _ _⟩)),
(step_ok rfl (fun a' w' hb' hO hD => by
     have d_46 := (hO 7 (by decide)).trans ((pm rfl).trans ta_4_7)
     exact .inl ⟨_, _, (zero_off (o_ixA (k := 0) (i := 1) (n := 8) (e := 142) rfl d_46 rfl (by omega) (fun _ => by kernel_rfl) (fun _ => by kernel_rfl))), rfl, Below.refl _ _⟩)),
(step_ok rfl (fun a' w' hb' hO hD => by
     have d_47 : a'.eval (.tmp 52) = .pointer (some ⟨g_5, 1, none⟩) := hD 3 52 (by kernel_rfl) rfl
     exact .inl ⟨_, _, (o_loadW rfl d_47 (hFv.nx hb') (by rw [hok.1]; omega) rfl ⟨by kernel_rfl, by kernel_rfl⟩), rfl, Below.refl _ _⟩)),
(step_ok rfl (fun a' w' hb' hO hD => by
     have d_48 : a'.eval (.tmp 51) = .int .u32 ((sv.getD (0) 0 : Nat) : Int) := hD 2 51 (by kernel_rfl) rfl
     have d_49 : a'.eval (.tmp 53) = .int .u32 ((sv.getD (1) 0 : Nat) : Int) := hD 4 53 (by kernel_rfl) rfl
     exact .inl ⟨_, _, (o_bits (m := (sv.getD (0) 0)) (n := (sv.getD (1) 0)) ((sv.getD (0) 0) &&& (sv.getD (1) 0)) rfl d_48 d_49 (by decide) (u32_and_nat _ _ (hok.get _) (hok.get _))), rfl, Below.refl _ _⟩)),
(step_ok rfl (fun a' w' hb' hO hD => by
     have d_50 := (hO 9 (by decide)).trans ((pm rfl).trans ta_4_9)
     exact .inl ⟨_, _, (o_move rfl d_50), rfl, Below.refl _ _⟩)),
(step_ok rfl (fun a' w' hb' hO hD => by
     have d_51 := (hO 7 (by decide)).trans ((pm rfl).trans ta_4_7)
     exact .inl ⟨_, _, (zero_off (o_ixA (k := 0) (i := 2) (n := 8) (e := 142) rfl d_51 rfl (by omega) (fun _ => by kernel_rfl) (fun _ => by kernel_rfl))), rfl, Below.refl _ _⟩)),
(step_ok rfl (fun a' w' hb' hO hD => by
     have d_52 : a'.eval (.tmp 56) = .pointer (some ⟨g_5, 2, none⟩) := hD 7 56 (by kernel_rfl) rfl
     exact .inl ⟨_, _, (o_loadW rfl d_52 (hFv.nx hb') (by rw [hok.1]; omega) rfl ⟨by kernel_rfl, by kernel_rfl⟩), rfl, Below.refl _ _⟩)),
(step_ok rfl (fun a' w' hb' hO hD => by
     have d_53 : a'.eval (.tmp 55) = .int .u32 ((sv.getD (0) 0 : Nat) : Int) := hD 6 55 (by kernel_rfl) rfl
     have d_54 : a'.eval (.tmp 57) = .int .u32 ((sv.getD (2) 0 : Nat) : Int) := hD 8 57 (by kernel_rfl) rfl
     exact .inl ⟨_, _, (o_bits (m := (sv.getD (0) 0)) (n := (sv.getD (2) 0)) ((sv.getD (0) 0) &&& (sv.getD (2) 0)) rfl d_53 d_54 (by decide) (u32_and_nat _ _ (hok.get _) (hok.get _))), rfl, Below.refl _ _⟩)),
(step_ok rfl (fun a' w' hb' hO hD => by
     have d_55 : a'.eval (.tmp 54) = .int .u32 (((sv.getD (0) 0) &&& (sv.getD (1) 0) : Nat) : Int) := hD 5 54 (by kernel_rfl) rfl
     have d_56 : a'.eval (.tmp 58) = .int .u32 (((sv.getD (0) 0) &&& (sv.getD (2) 0) : Nat) : Int) := hD 9 58 (by kernel_rfl) rfl
     exact .inl ⟨_, _, (o_bits (m := ((sv.getD (0) 0) &&& (sv.getD (1) 0))) (n := ((sv.getD (0) 0) &&& (sv.getD (2) 0))) (((sv.getD (0) 0) &&& (sv.getD (1) 0)) ^^^ ((sv.getD (0) 0) &&& (sv.getD (2) 0))) rfl d_55 d_56 (by decide) (u32_xor_nat _ _ (and_lt32 (hok.get _)) (and_lt32 (hok.get _)))), rfl, Below.refl _ _⟩)),
(step_ok rfl (fun a' w' hb' hO hD => by
     have d_57 := (hO 7 (by decide)).trans ((pm rfl).trans ta_4_7)
     exact .inl ⟨_, _, (zero_off (o_ixA (k := 0) (i := 1) (n := 8) (e := 142) rfl d_57 rfl (by omega) (fun _ => by kernel_rfl) (fun _ => by kernel_rfl))), rfl, Below.refl _ _⟩)),
(step_ok rfl (fun a' w' hb' hO hD => by
     have d_58 : a'.eval (.tmp 60) = .pointer (some ⟨g_5, 1, none⟩) := hD 11 60 (by kernel_rfl) rfl
     exact .inl ⟨_, _, (o_loadW rfl d_58 (hFv.nx hb') (by rw [hok.1]; omega) rfl ⟨by kernel_rfl, by kernel_rfl⟩), rfl, Below.refl _ _⟩)),
(step_ok rfl (fun a' w' hb' hO hD => by
     have d_59 := (hO 7 (by decide)).trans ((pm rfl).trans ta_4_7)
     exact .inl ⟨_, _, (zero_off (o_ixA (k := 0) (i := 2) (n := 8) (e := 142) rfl d_59 rfl (by omega) (fun _ => by kernel_rfl) (fun _ => by kernel_rfl))), rfl, Below.refl _ _⟩)),
(step_ok rfl (fun a' w' hb' hO hD => by
     have d_60 : a'.eval (.tmp 62) = .pointer (some ⟨g_5, 2, none⟩) := hD 13 62 (by kernel_rfl) rfl
     exact .inl ⟨_, _, (o_loadW rfl d_60 (hFv.nx hb') (by rw [hok.1]; omega) rfl ⟨by kernel_rfl, by kernel_rfl⟩), rfl, Below.refl _ _⟩)),
(step_ok rfl (fun a' w' hb' hO hD => by
     have d_61 : a'.eval (.tmp 61) = .int .u32 ((sv.getD (1) 0 : Nat) : Int) := hD 12 61 (by kernel_rfl) rfl
     have d_62 : a'.eval (.tmp 63) = .int .u32 ((sv.getD (2) 0 : Nat) : Int) := hD 14 63 (by kernel_rfl) rfl
     exact .inl ⟨_, _, (o_bits (m := (sv.getD (1) 0)) (n := (sv.getD (2) 0)) ((sv.getD (1) 0) &&& (sv.getD (2) 0)) rfl d_61 d_62 (by decide) (u32_and_nat _ _ (hok.get _) (hok.get _))), rfl, Below.refl _ _⟩)),
(step_ok rfl (fun a' w' hb' hO hD => by
     have d_63 : a'.eval (.tmp 59) = .int .u32 ((((sv.getD (0) 0) &&& (sv.getD (1) 0)) ^^^ ((sv.getD (0) 0) &&& (sv.getD (2) 0)) : Nat) : Int) := hD 10 59 (by kernel_rfl) rfl
     have d_64 : a'.eval (.tmp 64) = .int .u32 (((sv.getD (1) 0) &&& (sv.getD (2) 0) : Nat) : Int) := hD 15 64 (by kernel_rfl) rfl
     exact .inl ⟨_, _, (o_bits (m := (((sv.getD (0) 0) &&& (sv.getD (1) 0)) ^^^ ((sv.getD (0) 0) &&& (sv.getD (2) 0)))) (n := ((sv.getD (1) 0) &&& (sv.getD (2) 0))) ((((sv.getD (0) 0) &&& (sv.getD (1) 0)) ^^^ ((sv.getD (0) 0) &&& (sv.getD (2) 0))) ^^^ ((sv.getD (1) 0) &&& (sv.getD (2) 0))) rfl d_63 d_64 (by decide) (u32_xor_nat _ _ (xor_lt32 (and_lt32 (hok.get _)) (and_lt32 (hok.get _))) (and_lt32 (hok.get _)))), rfl, Below.refl _ _⟩)), trivial⟩ (fun a_5 w_8 hs_5 hd_5 hb_10 hO_4 hV_4 => ?_)
   have ta_5_0 := (hO_4 0 (by decide)).trans ((pm rfl).trans ta_4_0)
   have ta_5_1 := (hO_4 1 (by decide)).trans ((pm rfl).trans ta_4_1)
   have ta_5_2 := (hO_4 2 (by decide)).trans ((pm rfl).trans ta_4_2)
   have ta_5_4 := (hO_4 4 (by decide)).trans ((pm rfl).trans ta_4_4)
   have ta_5_5 := (hO_4 5 (by decide)).trans ((pm rfl).trans ta_4_5)
   have ta_5_6 := (hO_4 6 (by decide)).trans ((pm rfl).trans ta_4_6)
   have ta_5_7 := (hO_4 7 (by decide)).trans ((pm rfl).trans ta_4_7)
   have ta_5_14 := (hO_4 14 (by decide)).trans ((pm rfl).trans ta_4_14)
   have ta_5_15 := (hO_4 15 (by decide)).trans ((pm rfl).trans ta_4_15)
   have ta_5_16 := (hO_4 16 (by decide)).trans ((pm rfl).trans ta_4_16)
   have ta_5_17 := (hO_4 17 (by decide)).trans ((pm rfl).trans ta_4_17)
   have ta_5_18 := (hO_4 18 (by decide)).trans ((pm rfl).trans ta_4_18)
   have ta_5_9 := (hO_4 9 (by decide)).trans ((pm rfl).trans ta_4_9)
   have ta_5_10 := (hO_4 10 (by decide)).trans ((pm rfl).trans ta_4_10)
   have ta_5_11 : a_5.eval (.tmp 11) = .int .u32 ((oneN sv tableS (schL bs 64) K : Nat) : Int) := (hO_4 11 (by decide)).trans (pe hs_4 rfl rfl)
   clear ta_4_0 ta_4_1 ta_4_2 ta_4_4 ta_4_5 ta_4_6 ta_4_7 ta_4_14 ta_4_15 ta_4_16 ta_4_17 ta_4_18 ta_4_19 ta_4_20 ta_4_8 ta_4_21 ta_4_22 ta_4_23 ta_4_24 ta_4_9 ta_4_10 ta_4_25 ta_4_26 ta_4_27 ta_4_28 ta_4_29 ta_4_30 ta_4_31 ta_4_32 ta_4_33 ta_4_34 ta_4_35 ta_4_36 ta_4_37 ta_4_38 ta_4_39 ta_4_40 ta_4_41 ta_4_42 ta_4_43 ta_4_44 ta_4_45 ta_4_46 ta_4_47 hd_4
   replace hFs := hFs.nx hb_10
   replace hFr := hFr.nx hb_10
   replace hFx := hFx.nx hb_10
   replace hFk := hFk.nx hb_10
   replace hFv := hFv.nx hb_10
   have HB_6 := below_from HB_5 hb_10
   have ta_5_50 : a_5.eval (.tmp 50) = .int .u32 ((threeN (sv.getD (0) 0) 2 13 22 : Nat) : Int) := hV_4 1 50 rfl rfl
   have ta_5_65 : a_5.eval (.tmp 65) = .int .u32 (((((sv.getD (0) 0) &&& (sv.getD (1) 0)) ^^^ ((sv.getD (0) 0) &&& (sv.getD (2) 0))) ^^^ ((sv.getD (1) 0) &&& (sv.getD (2) 0)) : Nat) : Int) := hV_4 16 65 rfl rfl
   clear hV_4 hO_4
   simp only [List.drop_succ_cons, List.drop_zero]
   refine q_v 66 (.int .u32 ((twoN sv : Nat) : Int)) (o_eq (o_addU (m := (threeN (sv.getD (0) 0) 2 13 22)) (n := ((((sv.getD (0) 0) &&& (sv.getD (1) 0)) ^^^ ((sv.getD (0) 0) &&& (sv.getD (2) 0))) ^^^ ((sv.getD (1) 0) &&& (sv.getD (2) 0)))) (((threeN (sv.getD (0) 0) 2 13 22) + ((((sv.getD (0) 0) &&& (sv.getD (1) 0)) ^^^ ((sv.getD (0) 0) &&& (sv.getD (2) 0))) ^^^ ((sv.getD (1) 0) &&& (sv.getD (2) 0)))) % 4294967296) rfl ((pm rfl).trans ta_5_50) ((pm rfl).trans ta_5_65) (by rw [IntKind.wrap_u32]; omega)) rfl) ?_
   refine q_at (pe hs_5 rfl rfl) ?_
   refine x_nil (hK_14 _ _ ?_)
   refine x_region (by kernel_rfl) ?_
   refine q_mv ((pm rfl).trans ta_5_11) ?_
   refine q_mv (pe hs_5 rfl rfl) ?_
   refine q_v 69 (.int .u32 ((((oneN sv tableS (schL bs 64) K) + (twoN sv)) % 4294967296 : Nat) : Int)) (o_addU (m := (oneN sv tableS (schL bs 64) K)) (n := (twoN sv)) (((oneN sv tableS (schL bs 64) K) + (twoN sv)) % 4294967296) rfl (pe hs_5 rfl rfl) (pe hs_5 rfl rfl) (by rw [IntKind.wrap_u32]; omega)) ?_
   refine q_mv ((pm rfl).trans ta_5_9) ?_
   refine op_val (d := 71) (v := .pointer (some ⟨g_5, 1, none⟩)) rfl rfl (zero_off (o_ixA (k := 0) (i := 1) (n := 8) (e := 142) rfl ((pm rfl).trans ta_5_7) rfl (by omega) (fun _ => by kernel_rfl) (fun _ => by kernel_rfl))) ?_
   refine q_v 72 (.int .u32 ((sv.getD (1) 0 : Nat) : Int)) (o_loadW rfl (pe hs_5 rfl rfl) hFv (by rw [hok.1]; omega) rfl ⟨by kernel_rfl, by kernel_rfl⟩) ?_
   refine op_val (d := 73) (v := .pointer (some ⟨g_5, 2, none⟩)) rfl rfl (zero_off (o_ixA (k := 0) (i := 2) (n := 8) (e := 142) rfl ((pm rfl).trans ta_5_7) rfl (by omega) (fun _ => by kernel_rfl) (fun _ => by kernel_rfl))) ?_
   refine q_v 74 (.int .u32 ((sv.getD (2) 0 : Nat) : Int)) (o_loadW rfl (pe hs_5 rfl rfl) hFv (by rw [hok.1]; omega) rfl ⟨by kernel_rfl, by kernel_rfl⟩) ?_
   refine op_val (d := 75) (v := .pointer (some ⟨g_5, 3, none⟩)) rfl rfl (zero_off (o_ixA (k := 0) (i := 3) (n := 8) (e := 142) rfl ((pm rfl).trans ta_5_7) rfl (by omega) (fun _ => by kernel_rfl) (fun _ => by kernel_rfl))) ?_
   refine q_v 76 (.int .u32 ((sv.getD (3) 0 : Nat) : Int)) (o_loadW rfl (pe hs_5 rfl rfl) hFv (by rw [hok.1]; omega) rfl ⟨by kernel_rfl, by kernel_rfl⟩) ?_
   refine q_mv ((pm rfl).trans ta_5_11) ?_
   refine q_v 78 (.int .u32 ((((sv.getD (3) 0) + (oneN sv tableS (schL bs 64) K)) % 4294967296 : Nat) : Int)) (o_addU (m := (sv.getD (3) 0)) (n := (oneN sv tableS (schL bs 64) K)) (((sv.getD (3) 0) + (oneN sv tableS (schL bs 64) K)) % 4294967296) rfl (pe hs_5 rfl rfl) (pe hs_5 rfl rfl) (by rw [IntKind.wrap_u32]; omega)) ?_
   refine q_mv ((pm rfl).trans ta_5_10) ?_
   refine op_val (d := 80) (v := .pointer (some ⟨g_5, 5, none⟩)) rfl rfl (zero_off (o_ixA (k := 0) (i := 5) (n := 8) (e := 142) rfl ((pm rfl).trans ta_5_7) rfl (by omega) (fun _ => by kernel_rfl) (fun _ => by kernel_rfl))) ?_
   refine q_v 81 (.int .u32 ((sv.getD (5) 0 : Nat) : Int)) (o_loadW rfl (pe hs_5 rfl rfl) hFv (by rw [hok.1]; omega) rfl ⟨by kernel_rfl, by kernel_rfl⟩) ?_
   refine op_val (d := 82) (v := .pointer (some ⟨g_5, 6, none⟩)) rfl rfl (zero_off (o_ixA (k := 0) (i := 6) (n := 8) (e := 142) rfl ((pm rfl).trans ta_5_7) rfl (by omega) (fun _ => by kernel_rfl) (fun _ => by kernel_rfl))) ?_
   refine q_v 83 (.int .u32 ((sv.getD (6) 0 : Nat) : Int)) (o_loadW rfl (pe hs_5 rfl rfl) hFv (by rw [hok.1]; omega) rfl ⟨by kernel_rfl, by kernel_rfl⟩) ?_
   refine q_v 84 (.agg (iws .u32 ([((oneN sv tableS (schL bs 64) K) + (twoN sv)) % 4294967296, sv.getD (0) 0, sv.getD (1) 0, sv.getD (2) 0, ((sv.getD (3) 0) + (oneN sv tableS (schL bs 64) K)) % 4294967296, sv.getD (4) 0, sv.getD (5) 0, sv.getD (6) 0])).toArray) (o_bld (vs := #[(0, .int .u32 ((((oneN sv tableS (schL bs 64) K) + (twoN sv)) % 4294967296 : Nat) : Int)), (1, .int .u32 ((sv.getD (0) 0 : Nat) : Int)), (2, .int .u32 ((sv.getD (1) 0 : Nat) : Int)), (3, .int .u32 ((sv.getD (2) 0 : Nat) : Int)), (4, .int .u32 ((((sv.getD (3) 0) + (oneN sv tableS (schL bs 64) K)) % 4294967296 : Nat) : Int)), (5, .int .u32 ((sv.getD (4) 0 : Nat) : Int)), (6, .int .u32 ((sv.getD (5) 0 : Nat) : Int)), (7, .int .u32 ((sv.getD (6) 0 : Nat) : Int))]) rfl (bld8 (pe hs_5 rfl rfl) (pe hs_5 rfl rfl) (pe hs_5 rfl rfl) (pe hs_5 rfl rfl) (pe hs_5 rfl rfl) (pe hs_5 rfl rfl) (pe hs_5 rfl rfl) (pe hs_5 rfl rfl)) (fun _ => by kernel_rfl)) ?_
   refine op_do rfl rfl (o_storeI rfl ((pm rfl).trans ta_5_7) (pe hs_5 rfl rfl) hFv ⟨by kernel_rfl, by kernel_rfl⟩ (by simp [iws, hok.1])) (fun w_9 hR_4 => ?_)
   obtain ⟨hB_7, hX_2⟩ := hR_4
   replace hFs := hX_2.blk hFs ne_9
   replace hFr := hX_2.blk hFr ne_10
   replace hFx := hX_2.blk hFx ne_3
   replace hFk := hX_2.blk hFk ne_4
   have HB_7 := hX_2.below HB_6 HB_6.size (fun k hk => hk ▸ ge_5)
   clear hFv
   replace hB_7 : Blk w_9 g_5 (iws .u32 ([((oneN sv tableS (schL bs 64) K) + (twoN sv)) % 4294967296, sv.getD (0) 0, sv.getD (1) 0, sv.getD (2) 0, ((sv.getD (3) 0) + (oneN sv tableS (schL bs 64) K)) % 4294967296, sv.getD (4) 0, sv.getD (5) 0, sv.getD (6) 0])).toArray _ := hB_7
   refine x_nil (hK_10 _ _ ?_)
   refine hK_9 _ _ ?_
   refine x_region (by kernel_rfl) ?_
   refine q_v 85 (.int .i64 ((K + 1 : Nat) : Int)) (o_add64 (m := K) (n := 1) rfl ((pm rfl).trans ta_5_18) rfl (by omega)) ?_
   refine q_mv (pe hs_5 rfl rfl) ?_
   refine x_nil ?_
   refine hK_6 _ _ _ ⟨K + 1, rndL v0 (schL bs 64) (K + 1), rfl, (by rw [putsR_size]; exact hs_5), (by rw [putsR_defers]; exact hd_5), ((pm rfl).trans ta_5_0), ((pm rfl).trans ta_5_1), ((pm rfl).trans ta_5_2), ((pm rfl).trans ta_5_4), ((pm rfl).trans ta_5_5), ((pm rfl).trans ta_5_6), ((pm rfl).trans ta_5_7), ((pm rfl).trans ta_5_14), ((pm rfl).trans ta_5_15), ((pm rfl).trans ta_5_16), ((pm rfl).trans ta_5_17), (pe hs_5 rfl rfl), (by omega), rfl, (rndL_ok hv (K + 1)), HB_7, hFs, hFr, hFx, hFk, (by rw [hvd] at hB_7; exact hB_7)⟩ ?_
   omega
  ·simp only [DD9] at h_1
   obtain rfl : K = 64 := by omega
   refine w2_exit ?_
   refine thn_exit ?_
   refine thn_exit ?_
   refine exb_hit ?_
   refine hK_5 _ _ ?_
   refine hK_3 _ _ ?_
   refine w2_seq (fun K_15 hK_15 => ?_)
   refine w2_sr (fun K_16 hK_16 => ?_)
   refine q_v 86 (.int .i64 ((0 : Nat) : Int)) (o_move rfl rfl) ?_
   refine x_nil (hK_16 _ _ ?_)
   refine w2_block (fun K_17 hK_17 => ?_)
   refine x_loop (fun nn aa ww => ∃ (J : Nat) (z : List Nat), nn = 8 - J ∧ aa.tmps.size = 99 ∧ aa.defers = [] ∧ aa.eval (.tmp 0) = .agg (iws .u32 (v0)).toArray ∧ aa.eval (.tmp 1) = .slice A0 (q) (c0) ∧ aa.eval (.tmp 2) = .pointer (some ⟨g_1, 0, none⟩) ∧ aa.eval (.tmp 4) = .pointer (some ⟨g_2, 0, none⟩) ∧ aa.eval (.tmp 5) = .pointer (some ⟨g_3, 0, none⟩) ∧ aa.eval (.tmp 6) = .pointer (some ⟨g_4, 0, none⟩) ∧ aa.eval (.tmp 7) = .pointer (some ⟨g_5, 0, none⟩) ∧ aa.eval (.tmp 14) = .slice A0 (q) (c0) ∧ aa.eval (.tmp 15) = .agg (iws .u32 (schL bs 64)).toArray ∧ aa.eval (.tmp 16) = .agg (iws .u32 (tableS)).toArray ∧ aa.eval (.tmp 17) = .agg (iws .u32 (v0)).toArray ∧ aa.eval (.tmp 18) = .int .i64 ((64 : Nat) : Int) ∧ aa.eval (.tmp 19) = .bool (decide (64 < 64)) ∧ aa.eval (.tmp 86) = .int .i64 ((J : Nat) : Int) ∧ J ≤ 8 ∧ z = sumK v0 sv J ∧ Ok32 8 z ∧ Below w.heap.size w ww ∧ Blk ww g_1 (iws .u32 (z)).toArray 144 ∧ Blk ww g_2 (iws .u32 (List.replicate 8 0)).toArray 144 ∧ Blk ww g_5 (iws .u32 (sv)).toArray 144) (8 - 0) ?_ ?_
   ·exact ⟨0, v0, rfl, (by rw [putsR_size]; exact hs_2), (by rw [putsR_defers]; exact hd_2), ((pm rfl).trans ta_2_0), ((pm rfl).trans ta_2_1), ((pm rfl).trans ta_2_2), ((pm rfl).trans ta_2_4), ((pm rfl).trans ta_2_5), ((pm rfl).trans ta_2_6), ((pm rfl).trans ta_2_7), ((pm rfl).trans ta_2_14), ((pm rfl).trans ta_2_15), ((pm rfl).trans ta_2_16), ((pm rfl).trans ta_2_17), ((pm rfl).trans ta_2_18), (pe hs_2 rfl rfl), (pe hs_2 rfl rfl), Nat.zero_le _, rfl, hv, HBL, hFs, hFr, hFv⟩
   ·skip
    clear ta_2_0 ta_2_1 ta_2_2 ta_2_4 ta_2_5 ta_2_6 ta_2_7 ta_2_14 ta_2_15 ta_2_16 ta_2_17 ta_2_18 hd_2 hFs hFr hFx hFk hFv HBL
    rintro nna_6 a_6 w_10 ⟨J, z, hm_2, hs_6, hd_6, ta_6_0, ta_6_1, ta_6_2, ta_6_4, ta_6_5, ta_6_6, ta_6_7, ta_6_14, ta_6_15, ta_6_16, ta_6_17, ta_6_18, ta_6_19, ta_6_86, hJ, hz, hoz, HBM, hGs, hGr, hGv⟩ K_18 hK_18
    subst hm_2
    refine w2_sr (fun K_19 hK_19 => ?_)
    refine q_v 87 (.bool (decide (J < 8))) (o_lss (m := J) (n := 8) rfl ((pm rfl).trans ta_6_86) rfl) ?_
    refine x_nil (hK_19 _ _ ?_)
    refine w2_seq (fun K_20 hK_20 => ?_)
    refine w2_split (pe hs_6 rfl rfl) (fun h_2 => ?_) (fun h_2 => ?_)
    ·simp only [DD9] at h_2
     have hlt : J < 8 := h_2
     refine w2_skip ?_
     refine hK_20 _ _ ?_
     refine w2_seq (fun K_21 hK_21 => ?_)
     refine w2_block (fun K_22 hK_22 => ?_)
     refine w2_sr (fun K_23 hK_23 => ?_)
     refine q_mv ((pm rfl).trans ta_6_86) ?_
     refine q_at (pe hs_6 rfl rfl) ?_
     refine x_nil (hK_23 _ _ ?_)
     refine x_drawn 6 [fun _ v => v = .int .i64 ((J : Nat) : Int), fun _ v => v = .pointer (some ⟨g_1, J, none⟩), fun _ v => v = .int .u32 ((z.getD (J) 0 : Nat) : Int), fun _ v => v = .int .i64 ((J : Nat) : Int), fun _ v => v = .pointer (some ⟨g_5, J, none⟩), fun _ v => v = .int .u32 ((sv.getD (J) 0 : Nat) : Int)] [89, 90, 91, 92, 93, 94] hs_6 hd_6 (by kernel_rfl) (by kernel_rfl) (by kernel_rfl) (by kernel_rfl) (by kernel_rfl) ⟨stLit, stLit, stLit, stLit, stLit, stLit, trivial⟩ ⟨(step_ok rfl (fun a' w' hb' hO hD => by
       have d_65 : a'.eval (.tmp 13) = .int .i64 ((J : Nat) : Int) := (hO 13 (by decide)).trans (pe hs_6 rfl rfl)
       exact .inl ⟨_, _, (o_move rfl d_65), rfl, Below.refl _ _⟩)),
(step_ok rfl (fun a' w' hb' hO hD => by
       have d_66 := (hO 2 (by decide)).trans ((pm rfl).trans ta_6_2)
       have d_67 : a'.eval (.tmp 89) = .int .i64 ((J : Nat) : Int) := hD 0 89 (by kernel_rfl) rfl
       exact .inl ⟨_, _, (zero_off (o_ixA (k := 0) (i := J) (n := 8) (e := 142) rfl d_66 d_67 (by omega) (fun _ => by kernel_rfl) (fun _ => by kernel_rfl))), rfl, Below.refl _ _⟩)),
(step_ok rfl (fun a' w' hb' hO hD => by
       have d_68 : a'.eval (.tmp 90) = .pointer (some ⟨g_1, J, none⟩) := hD 1 90 (by kernel_rfl) rfl
       exact .inl ⟨_, _, (o_loadW rfl d_68 (hGs.nx hb') (by rw [hoz.1]; omega) rfl ⟨by kernel_rfl, by kernel_rfl⟩), rfl, Below.refl _ _⟩)),
(step_ok rfl (fun a' w' hb' hO hD => by
       have d_69 : a'.eval (.tmp 13) = .int .i64 ((J : Nat) : Int) := (hO 13 (by decide)).trans (pe hs_6 rfl rfl)
       exact .inl ⟨_, _, (o_move rfl d_69), rfl, Below.refl _ _⟩)),
(step_ok rfl (fun a' w' hb' hO hD => by
       have d_70 := (hO 7 (by decide)).trans ((pm rfl).trans ta_6_7)
       have d_71 : a'.eval (.tmp 92) = .int .i64 ((J : Nat) : Int) := hD 3 92 (by kernel_rfl) rfl
       exact .inl ⟨_, _, (zero_off (o_ixA (k := 0) (i := J) (n := 8) (e := 142) rfl d_70 d_71 (by omega) (fun _ => by kernel_rfl) (fun _ => by kernel_rfl))), rfl, Below.refl _ _⟩)),
(step_ok rfl (fun a' w' hb' hO hD => by
       have d_72 : a'.eval (.tmp 93) = .pointer (some ⟨g_5, J, none⟩) := hD 4 93 (by kernel_rfl) rfl
       exact .inl ⟨_, _, (o_loadW rfl d_72 (hGv.nx hb') (by rw [hok.1]; omega) rfl ⟨by kernel_rfl, by kernel_rfl⟩), rfl, Below.refl _ _⟩)), trivial⟩ (fun a_7 w_11 hs_7 hd_7 hb_11 hO_5 hV_5 => ?_)
     have ta_7_0 := (hO_5 0 (by decide)).trans ((pm rfl).trans ta_6_0)
     have ta_7_1 := (hO_5 1 (by decide)).trans ((pm rfl).trans ta_6_1)
     have ta_7_2 := (hO_5 2 (by decide)).trans ((pm rfl).trans ta_6_2)
     have ta_7_4 := (hO_5 4 (by decide)).trans ((pm rfl).trans ta_6_4)
     have ta_7_5 := (hO_5 5 (by decide)).trans ((pm rfl).trans ta_6_5)
     have ta_7_6 := (hO_5 6 (by decide)).trans ((pm rfl).trans ta_6_6)
     have ta_7_7 := (hO_5 7 (by decide)).trans ((pm rfl).trans ta_6_7)
     have ta_7_14 := (hO_5 14 (by decide)).trans ((pm rfl).trans ta_6_14)
     have ta_7_15 := (hO_5 15 (by decide)).trans ((pm rfl).trans ta_6_15)
     have ta_7_16 := (hO_5 16 (by decide)).trans ((pm rfl).trans ta_6_16)
     have ta_7_17 := (hO_5 17 (by decide)).trans ((pm rfl).trans ta_6_17)
     have ta_7_18 := (hO_5 18 (by decide)).trans ((pm rfl).trans ta_6_18)
     have ta_7_19 := (hO_5 19 (by decide)).trans ((pm rfl).trans ta_6_19)
     have ta_7_86 := (hO_5 86 (by decide)).trans ((pm rfl).trans ta_6_86)
     clear ta_6_0 ta_6_1 ta_6_2 ta_6_4 ta_6_5 ta_6_6 ta_6_7 ta_6_14 ta_6_15 ta_6_16 ta_6_17 ta_6_18 ta_6_19 ta_6_86 hd_6
     replace hGs := hGs.nx hb_11
     replace hGr := hGr.nx hb_11
     replace hGv := hGv.nx hb_11
     have HB_8 := below_from HBM hb_11
     have ta_7_89 : a_7.eval (.tmp 89) = .int .i64 ((J : Nat) : Int) := hV_5 0 89 rfl rfl
     have ta_7_91 : a_7.eval (.tmp 91) = .int .u32 ((z.getD (J) 0 : Nat) : Int) := hV_5 2 91 rfl rfl
     have ta_7_94 : a_7.eval (.tmp 94) = .int .u32 ((sv.getD (J) 0 : Nat) : Int) := hV_5 5 94 rfl rfl
     clear hV_5 hO_5
     simp only [List.drop_succ_cons, List.drop_zero]
     refine q_v 95 (.int .u32 ((((z.getD (J) 0) + (sv.getD (J) 0)) % 4294967296 : Nat) : Int)) (o_addU (m := (z.getD (J) 0)) (n := (sv.getD (J) 0)) (((z.getD (J) 0) + (sv.getD (J) 0)) % 4294967296) rfl ((pm rfl).trans ta_7_91) ((pm rfl).trans ta_7_94) (by rw [IntKind.wrap_u32]; omega)) ?_
     refine op_val (d := 96) (v := .pointer (some ⟨g_1, J, none⟩)) rfl rfl (zero_off (o_ixA (k := 0) (i := J) (n := 8) (e := 142) rfl ((pm rfl).trans ta_7_2) ((pm rfl).trans ta_7_89) (by omega) (fun _ => by kernel_rfl) (fun _ => by kernel_rfl))) ?_
     refine op_do rfl rfl (o_storeW rfl (pe hs_7 rfl rfl) (pe hs_7 rfl rfl) hGs (by rw [hoz.1]; omega) ⟨by kernel_rfl, by kernel_rfl⟩) (fun w_12 hR_5 => ?_)
     obtain ⟨hB_8, hX_3⟩ := hR_5
     replace hGr := hX_3.blk hGr (Ne.symm ne_1)
     replace hGv := hX_3.blk hGv (Ne.symm ne_9)
     have HB_9 := hX_3.below HB_8 HB_8.size (fun k hk => hk ▸ ge_1)
     clear hGs
     refine x_nil (hK_22 _ _ ?_)
     refine hK_21 _ _ ?_
     refine x_region (by kernel_rfl) ?_
     refine q_v 97 (.int .i64 ((J + 1 : Nat) : Int)) (o_add64 (m := J) (n := 1) rfl ((pm rfl).trans ta_7_86) rfl (by omega)) ?_
     refine q_mv (pe hs_7 rfl rfl) ?_
     refine x_nil ?_
     refine hK_18 _ _ _ ⟨J + 1, sumK v0 sv (J + 1), rfl, (by rw [putsR_size]; exact hs_7), (by rw [putsR_defers]; exact hd_7), ((pm rfl).trans ta_7_0), ((pm rfl).trans ta_7_1), ((pm rfl).trans ta_7_2), ((pm rfl).trans ta_7_4), ((pm rfl).trans ta_7_5), ((pm rfl).trans ta_7_6), ((pm rfl).trans ta_7_7), ((pm rfl).trans ta_7_14), ((pm rfl).trans ta_7_15), ((pm rfl).trans ta_7_16), ((pm rfl).trans ta_7_17), ((pm rfl).trans ta_7_18), ((pm rfl).trans ta_7_19), (pe hs_7 rfl rfl), (by omega), rfl, (sumK_ok hv (J + 1)), HB_9, (by rw [hz] at hB_8; exact hB_8), hGr, hGv⟩ ?_
     omega
    ·simp only [DD9] at h_2
     obtain rfl : J = 8 := by omega
     refine w2_exit ?_
     refine thn_exit ?_
     refine thn_exit ?_
     refine exb_hit ?_
     refine hK_17 _ _ ?_
     refine hK_15 _ _ ?_
     refine w2_sr (fun K_24 hK_24 => ?_)
     refine q_v 98 (.agg (iws .u32 (z)).toArray) (o_loadI rfl ((pm rfl).trans ta_6_2) hGs (by rw [hoz.1]; exact ⟨by kernel_rfl, by kernel_rfl⟩)) ?_
     refine op_do rfl rfl (o_storeI rfl ((pm rfl).trans ta_6_4) (pe hs_6 rfl rfl) hGr (by rw [hoz.1]; exact ⟨by kernel_rfl, by kernel_rfl⟩) (by rw [hoz.1]; simp [iws])) (fun w_13 hR_6 => ?_)
     obtain ⟨hB_9, hX_4⟩ := hR_6
     replace hGs := hX_4.blk hGs ne_1
     replace hGv := hX_4.blk hGv (Ne.symm ne_10)
     have HB_10 := hX_4.below HBM HBM.size (fun k hk => hk ▸ ge_2)
     clear hGr
     refine x_nil (hK_24 _ _ ?_)
     refine w2_ret ?_
     refine retC rfl hd_6 ((pm rfl).trans ta_6_4) (loadI hB_9 (by rw [hoz.1]; exact ⟨by kernel_rfl, by kernel_rfl⟩)) ?_
     exact ⟨by rw [hz, hvd]; rfl, HB_10⟩
end Go.Proofs.YtodhdajelnfhpaaGreat
