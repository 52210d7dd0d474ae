/-
 WALKS: the reference's numbers: AddNum, SubNum, MulNum.
-/
import Derived.Test.YtikjcikedbcfmaaRefA
import Derived.Test.YtikjcikedbcfmaaRefMath
namespace Go.Proofs.Ytikjcikedbcfmaa
open Go.RowKit
set_option linter.unusedVariables false
set_option linter.unusedSimpArgs false
set_option maxRecDepth 100000
attribute [local irreducible] wpList wpListIn putsR

set_option maxHeartbeats 1000000 in
theorem AddNum_any {x y : F} (w : World) :
  Calls Try.prog 13 #[.agg (iws .u64 (dg x)).toArray, .agg (iws .u64 (dg y)).toArray] w fun e w' => e = .returned (.agg (iws .u64 (dg (x + y))).toArray) ∧ Below w.heap.size w w' := by
 refine x_enter 20 Try.func13 rfl rfl (fun a hs hd ha0 => ?_)
 have t0 : a.eval (.tmp 0) = .agg (iws .u64 (dg x)).toArray := ha0 0 _ rfl
 have t1 : a.eval (.tmp 1) = .agg (iws .u64 (dg y)).toArray := ha0 1 _ rfl
 clear ha0
 refine w2_sr (fun K_1 hK_1 => ?_)
 refine op_ex (d := 2) rfl rfl (o_boxI rfl ((pm rfl).trans t0)) (fun v_1 w_1 hR_1 => ?_)
 obtain ⟨g_1, rfl, hle_1, hB_1, hb_1⟩ := hR_1
 have ge_1 : w.heap.size ≤ g_1 := hle_1
 refine op_ex (d := 3) rfl rfl (o_boxI rfl ((pm rfl).trans t1)) (fun v_2 w_2 hR_2 => ?_)
 obtain ⟨g_2, rfl, hle_2, hB_2, hb_2⟩ := hR_2
 have ne_1 : g_1 ≠ g_2 := Nat.ne_of_lt (Nat.lt_of_lt_of_le hB_1.lt hle_2)
 replace hB_1 := hB_1.nx hb_2
 have HB_1 := below_from hb_1 hb_2
 refine op_ex (d := 4) rfl rfl (o_alloc (zs := (iws .u64 (List.replicate 16 0)).toArray) rfl (fun _ => by kernel_rfl)) (fun v_3 w_3 hR_3 => ?_)
 obtain ⟨g_3, rfl, hle_3, hB_3, hb_3⟩ := hR_3
 have ne_2 : g_1 ≠ g_3 := Nat.ne_of_lt (Nat.lt_of_lt_of_le hB_1.lt hle_3)
 have ne_3 : g_2 ≠ g_3 := Nat.ne_of_lt (Nat.lt_of_lt_of_le hB_2.lt hle_3)
 have ge_3 : w.heap.size ≤ g_3 := Nat.le_trans HB_1.size hle_3
 replace hB_1 := hB_1.nx hb_3
 replace hB_2 := hB_2.nx hb_3
 have HB_2 := below_from HB_1 hb_3
 refine x_nil (hK_1 _ _ ?_)
 refine w2_seq (fun K_2 hK_2 => ?_)
 refine w2_sr (fun K_3 hK_3 => ?_)
 refine q_v 6 (.int .i64 ((0 : Nat) : Int)) (o_move rfl rfl) ?_
 refine x_nil (hK_3 _ _ ?_)
 refine w2_block (fun K_4 hK_4 => ?_)
 refine x_loop (fun nn aa ww => ∃ (K : Nat), nn = 16 - K ∧ aa.tmps.size = 20 ∧ aa.defers = [] ∧ aa.eval (.tmp 0) = .agg (iws .u64 (dg x)).toArray ∧ aa.eval (.tmp 1) = .agg (iws .u64 (dg y)).toArray ∧ aa.eval (.tmp 2) = .pointer (some ⟨g_1, 0, none⟩) ∧ aa.eval (.tmp 3) = .pointer (some ⟨g_2, 0, none⟩) ∧ aa.eval (.tmp 4) = .pointer (some ⟨g_3, 0, none⟩) ∧ aa.eval (.tmp 6) = .int .i64 ((K : Nat) : Int) ∧ K ≤ 16 ∧ Blk ww g_1 (iws .u64 (addA (dg x) (dg y) K)).toArray 32 ∧ Blk ww g_2 (iws .u64 (dg y)).toArray 32 ∧ Blk ww g_3 (iws .u64 (List.replicate 16 0)).toArray 32 ∧ Below w.heap.size w ww) (16) ?_ ?_
 ·exact ⟨0, rfl, (by rw [putsR_size]; exact hs), (by rw [putsR_defers]; exact hd), ((pm rfl).trans t0), ((pm rfl).trans t1), (pe hs rfl rfl), (pe hs rfl rfl), (pe hs rfl rfl), (pe hs rfl rfl), by omega, hB_1, hB_2, hB_3, HB_2⟩
 ·skip
  clear t0 t1 hd hB_1 hB_2 hB_3 HB_2
  rintro nna_1 a_1 w_4 ⟨K, hm_1, hs_1, hd_1, ta_1_0, ta_1_1, ta_1_2, ta_1_3, ta_1_4, ta_1_6, hK, BA, BB, BR, HBL⟩ K_5 hK_5
  subst hm_1
  have hal : (addA (dg x) (dg y) K).length = 16 := (addA_length _ _ K).trans (dg_length _)
  have ha1 := addA_above (dg x) (dg y) K K (Nat.le_refl _)
  have ha2 := dg_le x K
  have ha3 := dg_le y K
  refine w2_sr (fun K_6 hK_6 => ?_)
  refine q_v 7 (.bool (decide (K < 16))) (o_lss (m := K) (n := 16) rfl ((pm rfl).trans ta_1_6) rfl) ?_
  refine x_nil (hK_6 _ _ ?_)
  refine w2_seq (fun K_7 hK_7 => ?_)
  refine w2_split (pe hs_1 rfl rfl) (fun h_1 => ?_) (fun h_1 => ?_)
  ·simp only [DD9] at h_1
   refine w2_skip ?_
   refine hK_7 _ _ ?_
   refine w2_seq (fun K_8 hK_8 => ?_)
   refine w2_block (fun K_9 hK_9 => ?_)
   refine w2_sr (fun K_10 hK_10 => ?_)
   refine q_mv ((pm rfl).trans ta_1_6) ?_
   refine q_at (pe hs_1 rfl rfl) ?_
   refine x_nil (hK_10 _ _ ?_)
   refine x_drawn 6 [fun _ v => v = .int .i64 ((K : Nat) : Int), fun _ v => v = .pointer (some ⟨g_1, K, none⟩), fun _ v => v = .int .u64 (((addA (dg x) (dg y) K).getD (K) 0 : Nat) : Int), fun _ v => v = .int .i64 ((K : Nat) : Int), fun _ v => v = .pointer (some ⟨g_2, K, none⟩), fun _ v => v = .int .u64 (((dg y).getD (K) 0 : Nat) : Int)] [9, 10, 11, 12, 13, 14] hs_1 hd_1 (by kernel_rfl) (by kernel_rfl) (by kernel_rfl) (by kernel_rfl) (by kernel_rfl) ⟨stLit, stLit, stLit, stLit, stLit, stLit, trivial⟩ ⟨(step_ok rfl (fun a' w' hb' hO hD => by
     have d_1 : a'.eval (.tmp 5) = .int .i64 ((K : Nat) : Int) := (hO 5 (by decide)).trans (pe hs_1 rfl rfl)
     exact .inl ⟨_, _, (o_move rfl d_1), rfl, Below.refl _ _⟩)),
(step_ok rfl (fun a' w' hb' hO hD => by
     have d_2 := (hO 2 (by decide)).trans ((pm rfl).trans ta_1_2)
     have d_3 : a'.eval (.tmp 9) = .int .i64 ((K : Nat) : Int) := hD 0 9 (by kernel_rfl) rfl
     exact .inl ⟨_, _, (zero_off (o_ixA (k := 0) (i := K) (n := 16) (e := 23) rfl d_2 d_3 (by omega) (fun _ => by kernel_rfl) (fun _ => by kernel_rfl))), rfl, Below.refl _ _⟩)),
(step_ok rfl (fun a' w' hb' hO hD => by
     have d_4 : a'.eval (.tmp 10) = .pointer (some ⟨g_1, K, none⟩) := hD 1 10 (by kernel_rfl) rfl
     exact .inl ⟨_, _, (o_loadW rfl d_4 (BA.nx hb') (by rw [hal]; omega) rfl ⟨by kernel_rfl, by kernel_rfl⟩), rfl, Below.refl _ _⟩)),
(step_ok rfl (fun a' w' hb' hO hD => by
     have d_5 : a'.eval (.tmp 5) = .int .i64 ((K : Nat) : Int) := (hO 5 (by decide)).trans (pe hs_1 rfl rfl)
     exact .inl ⟨_, _, (o_move rfl d_5), rfl, Below.refl _ _⟩)),
(step_ok rfl (fun a' w' hb' hO hD => by
     have d_6 := (hO 3 (by decide)).trans ((pm rfl).trans ta_1_3)
     have d_7 : a'.eval (.tmp 12) = .int .i64 ((K : Nat) : Int) := hD 3 12 (by kernel_rfl) rfl
     exact .inl ⟨_, _, (zero_off (o_ixA (k := 0) (i := K) (n := 16) (e := 23) rfl d_6 d_7 (by omega) (fun _ => by kernel_rfl) (fun _ => by kernel_rfl))), rfl, Below.refl _ _⟩)),
(step_ok rfl (fun a' w' hb' hO hD => by
     have d_8 : a'.eval (.tmp 13) = .pointer (some ⟨g_2, K, none⟩) := hD 4 13 (by kernel_rfl) rfl
     exact .inl ⟨_, _, (o_loadW rfl d_8 (BB.nx hb') (by rw [(dg_length _)]; omega) rfl ⟨by kernel_rfl, by kernel_rfl⟩), rfl, Below.refl _ _⟩)), trivial⟩ (fun a_2 w_5 hs_2 hd_2 hb_4 hO_1 hV_1 => ?_)
   have ta_2_0 := (hO_1 0 (by decide)).trans ((pm rfl).trans ta_1_0)
   have ta_2_1 := (hO_1 1 (by decide)).trans ((pm rfl).trans ta_1_1)
   have ta_2_2 := (hO_1 2 (by decide)).trans ((pm rfl).trans ta_1_2)
   have ta_2_3 := (hO_1 3 (by decide)).trans ((pm rfl).trans ta_1_3)
   have ta_2_4 := (hO_1 4 (by decide)).trans ((pm rfl).trans ta_1_4)
   have ta_2_6 := (hO_1 6 (by decide)).trans ((pm rfl).trans ta_1_6)
   clear ta_1_0 ta_1_1 ta_1_2 ta_1_3 ta_1_4 ta_1_6 hd_1
   replace BA := BA.nx hb_4
   replace BB := BB.nx hb_4
   replace BR := BR.nx hb_4
   have HB_3 := below_from HBL hb_4
   have ta_2_9 : a_2.eval (.tmp 9) = .int .i64 ((K : Nat) : Int) := hV_1 0 9 rfl rfl
   have ta_2_11 : a_2.eval (.tmp 11) = .int .u64 (((addA (dg x) (dg y) K).getD (K) 0 : Nat) : Int) := hV_1 2 11 rfl rfl
   have ta_2_14 : a_2.eval (.tmp 14) = .int .u64 (((dg y).getD (K) 0 : Nat) : Int) := hV_1 5 14 rfl rfl
   clear hV_1 hO_1
   simp only [List.drop_succ_cons, List.drop_zero]
   refine q_v 15 (.int .u64 ((((addA (dg x) (dg y) K).getD (K) 0) + ((dg y).getD (K) 0) : Nat) : Int)) (o_addU (m := ((addA (dg x) (dg y) K).getD (K) 0)) (n := ((dg y).getD (K) 0)) (((addA (dg x) (dg y) K).getD (K) 0) + ((dg y).getD (K) 0)) rfl ((pm rfl).trans ta_2_11) ((pm rfl).trans ta_2_14) (by rw [IntKind.wrap_u64]; omega)) ?_
   refine op_val (d := 16) (v := .pointer (some ⟨g_1, K, none⟩)) rfl rfl (zero_off (o_ixA (k := 0) (i := K) (n := 16) (e := 23) rfl ((pm rfl).trans ta_2_2) ((pm rfl).trans ta_2_9) (by omega) (fun _ => by kernel_rfl) (fun _ => by kernel_rfl))) ?_
   refine op_do rfl rfl (o_storeW rfl (pe hs_2 rfl rfl) (pe hs_2 rfl rfl) BA (by rw [hal]; omega) ⟨by kernel_rfl, by kernel_rfl⟩) (fun w_6 hR_4 => ?_)
   obtain ⟨hB_4, hX_1⟩ := hR_4
   replace BB := hX_1.blk BB (Ne.symm ne_1)
   replace BR := hX_1.blk BR (Ne.symm ne_2)
   have HB_4 := hX_1.below HB_3 HB_3.size (fun k hk => hk ▸ ge_1)
   clear BA
   refine x_nil (hK_9 _ _ ?_)
   refine hK_8 _ _ ?_
   refine x_region (by kernel_rfl) ?_
   refine q_v 17 (.int .i64 ((K + 1 : Nat) : Int)) (o_add64 (m := K) (n := 1) rfl ((pm rfl).trans ta_2_6) rfl (by omega)) ?_
   refine q_mv (pe hs_2 rfl rfl) ?_
   refine x_nil ?_
   refine hK_5 _ _ _ ⟨K + 1, rfl, (by rw [putsR_size]; exact hs_2), (by rw [putsR_defers]; exact hd_2), ((pm rfl).trans ta_2_0), ((pm rfl).trans ta_2_1), ((pm rfl).trans ta_2_2), ((pm rfl).trans ta_2_3), ((pm rfl).trans ta_2_4), (pe hs_2 rfl rfl), (by omega), hB_4, BB, BR, HB_4⟩ ?_
   omega
  ·simp only [DD9] at h_1
   obtain rfl : K = 16 := by omega
   refine w2_exit ?_
   refine thn_exit ?_
   refine thn_exit ?_
   refine exb_hit ?_
   refine hK_4 _ _ ?_
   refine hK_2 _ _ ?_
   refine w2_seq (fun K_11 hK_11 => ?_)
   have hl9 : (addA (dg x) (dg y) 16).length = 16 := hal
   have hM9 : ∀ j, (addA (dg x) (dg y) 16).getD j 0 ≤ 65535 * 17592186044416 := fun j => Nat.le_trans (addA_le (dg_le x) (dg_le y) 16 j) (by decide)
   refine x_region (by kernel_rfl) ?_
   refine q_v 18 (.agg (iws .u64 (addA (dg x) (dg y) 16)).toArray) (o_loadI rfl ((pm rfl).trans ta_1_2) BA (by rw [hl9]; exact ⟨by kernel_rfl, by kernel_rfl⟩)) ?_
   refine q_ca (vs := #[.agg (iws .u64 (addA (dg x) (dg y) 16)).toArray]) Try.func33 (args1 (pe hs_1 rfl rfl)) (least_any _ hl9 hM9) (fun e_1 w_7 hR_5 => ?_)
   obtain ⟨rfl, hb_6⟩ := hR_5
   replace BA := BA.nx hb_6
   replace BB := BB.nx hb_6
   replace BR := BR.nx hb_6
   have HB_5 := below_from HBL hb_6
   refine ⟨_, rfl, ?_⟩
   refine op_do rfl rfl (o_storeI rfl ((pm rfl).trans ta_1_4) (pe hs_1 rfl rfl) BR (by rw [(digN_length _)]; exact ⟨by kernel_rfl, by kernel_rfl⟩) (by rw [digN_length]; simp [iws])) (fun w_8 hR_6 => ?_)
   obtain ⟨hB_5, hX_2⟩ := hR_6
   replace BA := hX_2.blk BA ne_2
   replace BB := hX_2.blk BB ne_3
   have HB_6 := hX_2.below HB_5 HB_5.size (fun k hk => hk ▸ ge_3)
   clear BR
   refine x_nil (hK_11 _ _ ?_)
   refine w2_ret ?_
   refine retC rfl hd_1 ((pm rfl).trans ta_1_4) (loadI hB_5 (by rw [(digN_length _)]; exact ⟨by kernel_rfl, by kernel_rfl⟩)) ?_
   exact ⟨by rw [add_dg], HB_6⟩
set_option maxHeartbeats 1000000 in
theorem SubNum_any {x y : F} (w : World) :
  Calls Try.prog 15 #[.agg (iws .u64 (dg x)).toArray, .agg (iws .u64 (dg y)).toArray] w fun e w' => e = .returned (.agg (iws .u64 (dg (x - y))).toArray) ∧ Below w.heap.size w w' := by
 refine x_enter 47 Try.func15 rfl rfl (fun a hs hd ha0 => ?_)
 have t0 : a.eval (.tmp 0) = .agg (iws .u64 (dg x)).toArray := ha0 0 _ rfl
 have t1 : a.eval (.tmp 1) = .agg (iws .u64 (dg y)).toArray := ha0 1 _ rfl
 clear ha0
 refine w2_sr (fun K_1 hK_1 => ?_)
 refine op_ex (d := 2) rfl rfl (o_boxI rfl ((pm rfl).trans t0)) (fun v_1 w_1 hR_1 => ?_)
 obtain ⟨g_1, rfl, hle_1, hB_1, hb_1⟩ := hR_1
 have ge_1 : w.heap.size ≤ g_1 := hle_1
 refine op_ex (d := 3) rfl rfl (o_boxI rfl ((pm rfl).trans t1)) (fun v_2 w_2 hR_2 => ?_)
 obtain ⟨g_2, rfl, hle_2, hB_2, hb_2⟩ := hR_2
 have ne_1 : g_1 ≠ g_2 := Nat.ne_of_lt (Nat.lt_of_lt_of_le hB_1.lt hle_2)
 replace hB_1 := hB_1.nx hb_2
 have HB_1 := below_from hb_1 hb_2
 refine op_ex (d := 4) rfl rfl (o_alloc (zs := (iws .u64 (List.replicate 16 0)).toArray) rfl (fun _ => by kernel_rfl)) (fun v_3 w_3 hR_3 => ?_)
 obtain ⟨g_3, rfl, hle_3, hB_3, hb_3⟩ := hR_3
 have ne_2 : g_1 ≠ g_3 := Nat.ne_of_lt (Nat.lt_of_lt_of_le hB_1.lt hle_3)
 have ne_3 : g_2 ≠ g_3 := Nat.ne_of_lt (Nat.lt_of_lt_of_le hB_2.lt hle_3)
 have ge_3 : w.heap.size ≤ g_3 := Nat.le_trans HB_1.size hle_3
 replace hB_1 := hB_1.nx hb_3
 replace hB_2 := hB_2.nx hb_3
 have HB_2 := below_from HB_1 hb_3
 refine x_nil (hK_1 _ _ ?_)
 refine w2_sr (fun K_2 hK_2 => ?_)
 refine q_ca (vs := #[]) Try.func35 (args0) (prime_any _) (fun e_1 w_4 hR_4 => ?_)
 obtain ⟨rfl, hb_5⟩ := hR_4
 replace hB_1 := hB_1.nx hb_5
 replace hB_2 := hB_2.nx hb_5
 replace hB_3 := hB_3.nx hb_5
 have HB_3 := below_from HB_2 hb_5
 refine ⟨_, rfl, ?_⟩
 refine op_ex (d := 5) rfl rfl (o_alloc (zs := (iws .u64 (List.replicate 16 0)).toArray) rfl (fun _ => by kernel_rfl)) (fun v_4 w_5 hR_5 => ?_)
 obtain ⟨g_4, rfl, hle_4, hB_4, hb_6⟩ := hR_5
 have ne_4 : g_1 ≠ g_4 := Nat.ne_of_lt (Nat.lt_of_lt_of_le hB_1.lt hle_4)
 have ne_5 : g_2 ≠ g_4 := Nat.ne_of_lt (Nat.lt_of_lt_of_le hB_2.lt hle_4)
 have ne_6 : g_3 ≠ g_4 := Nat.ne_of_lt (Nat.lt_of_lt_of_le hB_3.lt hle_4)
 have ge_4 : w.heap.size ≤ g_4 := Nat.le_trans HB_3.size hle_4
 replace hB_1 := hB_1.nx hb_6
 replace hB_2 := hB_2.nx hb_6
 replace hB_3 := hB_3.nx hb_6
 have HB_4 := below_from HB_3 hb_6
 refine op_do rfl rfl (o_storeI rfl (pe hs rfl rfl) (pe hs rfl rfl) hB_4 (by rw [(digN_length _)]; exact ⟨by kernel_rfl, by kernel_rfl⟩) (by rw [digN_length]; simp [iws])) (fun w_6 hR_6 => ?_)
 obtain ⟨hB_5, hX_1⟩ := hR_6
 replace hB_1 := hX_1.blk hB_1 ne_4
 replace hB_2 := hX_1.blk hB_2 ne_5
 replace hB_3 := hX_1.blk hB_3 ne_6
 have HB_5 := hX_1.below HB_4 HB_4.size (fun k hk => hk ▸ ge_4)
 clear hB_4
 refine x_nil (hK_2 _ _ ?_)
 refine w2_sr (fun K_3 hK_3 => ?_)
 refine q_as (.int .u64 ((0 : Nat) : Int)) rfl ?_
 refine x_nil (hK_3 _ _ ?_)
 refine w2_sr (fun K_4 hK_4 => ?_)
 refine q_as (.int .i64 ((0 : Nat) : Int)) rfl ?_
 refine x_nil (hK_4 _ _ ?_)
 refine w2_seq (fun K_5 hK_5 => ?_)
 refine w2_sr (fun K_6 hK_6 => ?_)
 refine q_v 10 (.int .i64 ((0 : Nat) : Int)) (o_move rfl rfl) ?_
 refine x_nil (hK_6 _ _ ?_)
 refine w2_block (fun K_7 hK_7 => ?_)
 refine x_loop (fun nn aa ww => ∃ (K : Nat), nn = 16 - K ∧ aa.tmps.size = 47 ∧ aa.defers = [] ∧ aa.eval (.tmp 0) = .agg (iws .u64 (dg x)).toArray ∧ aa.eval (.tmp 1) = .agg (iws .u64 (dg y)).toArray ∧ aa.eval (.tmp 2) = .pointer (some ⟨g_1, 0, none⟩) ∧ aa.eval (.tmp 3) = .pointer (some ⟨g_2, 0, none⟩) ∧ aa.eval (.tmp 4) = .pointer (some ⟨g_3, 0, none⟩) ∧ aa.eval (.tmp 5) = .pointer (some ⟨g_4, 0, none⟩) ∧ aa.eval (.tmp 6) = .int .u64 ((0 : Nat) : Int) ∧ aa.eval (.tmp 7) = .int .i64 ((zK (subF x y) (dg x) K).2) ∧ aa.eval (.tmp 9) = .agg (iws .u64 (digN P)).toArray ∧ aa.eval (.tmp 10) = .int .i64 ((K : Nat) : Int) ∧ K ≤ 16 ∧ Blk ww g_1 (iws .u64 ((zK (subF x y) (dg x) K).1)).toArray 32 ∧ Blk ww g_2 (iws .u64 (dg y)).toArray 32 ∧ Blk ww g_3 (iws .u64 (List.replicate 16 0)).toArray 32 ∧ Blk ww g_4 (iws .u64 (digN P)).toArray 32 ∧ Below w.heap.size w ww) (16) ?_ ?_
 ·exact ⟨0, rfl, (by rw [putsR_size]; exact hs), (by rw [putsR_defers]; exact hd), ((pm rfl).trans t0), ((pm rfl).trans t1), (pe hs rfl rfl), (pe hs rfl rfl), (pe hs rfl rfl), (pe hs rfl rfl), (pe hs rfl rfl), (pe hs rfl rfl), (pe hs rfl rfl), (pe hs rfl rfl), by omega, hB_1, hB_2, hB_3, hB_5, HB_5⟩
 ·skip
  clear t0 t1 hd hB_1 hB_2 hB_3 hB_5 HB_5
  rintro nna_1 a_1 w_7 ⟨K, hm_1, hs_1, hd_1, ta_1_0, ta_1_1, ta_1_2, ta_1_3, ta_1_4, ta_1_5, ta_1_6, ta_1_7, ta_1_9, ta_1_10, hK, BA, BB, BR, BP, HBL⟩ K_8 hK_8
  subst hm_1
  have hzl : (zK (subF x y) (dg x) K).1.length = 16 := (zK_length _ _ K).trans (dg_length _)
  have hza := zK_above (subF x y) (dg x) K K (Nat.le_refl _)
  have hzc := zK_c (dg x) (subF_le x y) K
  have hxl := dg_le x K
  have hyl := dg_le y K
  have hpl := digN_le P K
  have hsl := subF_le x y K
  refine w2_sr (fun K_9 hK_9 => ?_)
  refine q_v 11 (.bool (decide (K < 16))) (o_lss (m := K) (n := 16) rfl ((pm rfl).trans ta_1_10) rfl) ?_
  refine x_nil (hK_9 _ _ ?_)
  refine w2_seq (fun K_10 hK_10 => ?_)
  refine w2_split (pe hs_1 rfl rfl) (fun h_1 => ?_) (fun h_1 => ?_)
  ·simp only [DD9] at h_1
   refine w2_skip ?_
   refine hK_10 _ _ ?_
   refine w2_seq (fun K_11 hK_11 => ?_)
   refine w2_block (fun K_12 hK_12 => ?_)
   refine w2_sr (fun K_13 hK_13 => ?_)
   refine q_mv ((pm rfl).trans ta_1_10) ?_
   refine q_at (pe hs_1 rfl rfl) ?_
   refine x_nil (hK_13 _ _ ?_)
   refine w2_seq (fun K_14 hK_14 => ?_)
   refine x_drawn 15 [fun _ v => v = .int .i64 ((zK (subF x y) (dg x) K).2), fun _ v => v = .int .i64 ((K : Nat) : Int), fun _ v => v = .pointer (some ⟨g_1, K, none⟩), fun _ v => v = .int .u64 ((((zK (subF x y) (dg x) K).1).getD (K) 0 : Nat) : Int), fun _ v => v = .int .i64 ((((zK (subF x y) (dg x) K).1).getD (K) 0 : Nat) : Int), fun _ v => v = .int .i64 ((K : Nat) : Int), fun _ v => v = .pointer (some ⟨g_4, K, none⟩), fun _ v => v = .int .u64 (((digN P).getD (K) 0 : Nat) : Int), fun _ v => v = .int .i64 (((digN P).getD (K) 0 : Nat) : Int), fun _ v => v = .int .i64 (((((zK (subF x y) (dg x) K).1).getD (K) 0) + ((digN P).getD (K) 0) : Nat) : Int), fun _ v => v = .int .i64 ((K : Nat) : Int), fun _ v => v = .pointer (some ⟨g_2, K, none⟩), fun _ v => v = .int .u64 (((dg y).getD (K) 0 : Nat) : Int), fun _ v => v = .int .i64 (((dg y).getD (K) 0 : Nat) : Int), fun _ v => v = .int .i64 (((((((zK (subF x y) (dg x) K).1).getD (K) 0) + ((digN P).getD (K) 0)) : Nat) : Int) - ((((dg y).getD (K) 0) : Nat) : Int))] [13, 14, 15, 16, 17, 18, 19, 20, 21, 22, 23, 24, 25, 26, 27] hs_1 hd_1 (by kernel_rfl) (by kernel_rfl) (by kernel_rfl) (by kernel_rfl) (by kernel_rfl) ⟨stLit, stLit, stLit, stLit, stLit, stLit, stLit, stLit, stLit, stLit, stLit, stLit, stLit, stLit, stLit, trivial⟩ ⟨(step_ok rfl (fun a' w' hb' hO hD => by
     have d_1 := (hO 7 (by decide)).trans ((pm rfl).trans ta_1_7)
     exact .inl ⟨_, _, (o_move rfl d_1), rfl, Below.refl _ _⟩)),
(step_ok rfl (fun a' w' hb' hO hD => by
     have d_2 : a'.eval (.tmp 8) = .int .i64 ((K : Nat) : Int) := (hO 8 (by decide)).trans (pe hs_1 rfl rfl)
     exact .inl ⟨_, _, (o_move rfl d_2), rfl, Below.refl _ _⟩)),
(step_ok rfl (fun a' w' hb' hO hD => by
     have d_3 := (hO 2 (by decide)).trans ((pm rfl).trans ta_1_2)
     have d_4 : a'.eval (.tmp 14) = .int .i64 ((K : Nat) : Int) := hD 1 14 (by kernel_rfl) rfl
     exact .inl ⟨_, _, (zero_off (o_ixA (k := 0) (i := K) (n := 16) (e := 23) rfl d_3 d_4 (by omega) (fun _ => by kernel_rfl) (fun _ => by kernel_rfl))), rfl, Below.refl _ _⟩)),
(step_ok rfl (fun a' w' hb' hO hD => by
     have d_5 : a'.eval (.tmp 15) = .pointer (some ⟨g_1, K, none⟩) := hD 2 15 (by kernel_rfl) rfl
     exact .inl ⟨_, _, (o_loadW rfl d_5 (BA.nx hb') (by rw [hzl]; omega) rfl ⟨by kernel_rfl, by kernel_rfl⟩), rfl, Below.refl _ _⟩)),
(step_ok rfl (fun a' w' hb' hO hD => by
     have d_6 : a'.eval (.tmp 16) = .int .u64 ((((zK (subF x y) (dg x) K).1).getD (K) 0 : Nat) : Int) := hD 3 16 (by kernel_rfl) rfl
     exact .inl ⟨_, _, (o_conv (m := (((zK (subF x y) (dg x) K).1).getD (K) 0)) (r := ((zK (subF x y) (dg x) K).1).getD (K) 0) rfl d_6 ⟨.int .u64, fun _ => by kernel_rfl⟩ (fun _ => by kernel_rfl) (IntWalk.i64_in _ (by omega))), rfl, Below.refl _ _⟩)),
(step_ok rfl (fun a' w' hb' hO hD => by
     have d_7 : a'.eval (.tmp 8) = .int .i64 ((K : Nat) : Int) := (hO 8 (by decide)).trans (pe hs_1 rfl rfl)
     exact .inl ⟨_, _, (o_move rfl d_7), rfl, Below.refl _ _⟩)),
(step_ok rfl (fun a' w' hb' hO hD => by
     have d_8 := (hO 5 (by decide)).trans ((pm rfl).trans ta_1_5)
     have d_9 : a'.eval (.tmp 18) = .int .i64 ((K : Nat) : Int) := hD 5 18 (by kernel_rfl) rfl
     exact .inl ⟨_, _, (zero_off (o_ixA (k := 0) (i := K) (n := 16) (e := 23) rfl d_8 d_9 (by omega) (fun _ => by kernel_rfl) (fun _ => by kernel_rfl))), rfl, Below.refl _ _⟩)),
(step_ok rfl (fun a' w' hb' hO hD => by
     have d_10 : a'.eval (.tmp 19) = .pointer (some ⟨g_4, K, none⟩) := hD 6 19 (by kernel_rfl) rfl
     exact .inl ⟨_, _, (o_loadW rfl d_10 (BP.nx hb') (by rw [(digN_length _)]; omega) rfl ⟨by kernel_rfl, by kernel_rfl⟩), rfl, Below.refl _ _⟩)),
(step_ok rfl (fun a' w' hb' hO hD => by
     have d_11 : a'.eval (.tmp 20) = .int .u64 (((digN P).getD (K) 0 : Nat) : Int) := hD 7 20 (by kernel_rfl) rfl
     exact .inl ⟨_, _, (o_conv (m := ((digN P).getD (K) 0)) (r := (digN P).getD (K) 0) rfl d_11 ⟨.int .u64, fun _ => by kernel_rfl⟩ (fun _ => by kernel_rfl) (IntWalk.i64_in _ (by omega))), rfl, Below.refl _ _⟩)),
(step_ok rfl (fun a' w' hb' hO hD => by
     have d_12 : a'.eval (.tmp 17) = .int .i64 ((((zK (subF x y) (dg x) K).1).getD (K) 0 : Nat) : Int) := hD 4 17 (by kernel_rfl) rfl
     have d_13 : a'.eval (.tmp 21) = .int .i64 (((digN P).getD (K) 0 : Nat) : Int) := hD 8 21 (by kernel_rfl) rfl
     exact .inl ⟨_, _, (o_add64 (m := (((zK (subF x y) (dg x) K).1).getD (K) 0)) (n := ((digN P).getD (K) 0)) rfl d_12 d_13 (by omega)), rfl, Below.refl _ _⟩)),
(step_ok rfl (fun a' w' hb' hO hD => by
     have d_14 : a'.eval (.tmp 8) = .int .i64 ((K : Nat) : Int) := (hO 8 (by decide)).trans (pe hs_1 rfl rfl)
     exact .inl ⟨_, _, (o_move rfl d_14), rfl, Below.refl _ _⟩)),
(step_ok rfl (fun a' w' hb' hO hD => by
     have d_15 := (hO 3 (by decide)).trans ((pm rfl).trans ta_1_3)
     have d_16 : a'.eval (.tmp 23) = .int .i64 ((K : Nat) : Int) := hD 10 23 (by kernel_rfl) rfl
     exact .inl ⟨_, _, (zero_off (o_ixA (k := 0) (i := K) (n := 16) (e := 23) rfl d_15 d_16 (by omega) (fun _ => by kernel_rfl) (fun _ => by kernel_rfl))), rfl, Below.refl _ _⟩)),
(step_ok rfl (fun a' w' hb' hO hD => by
     have d_17 : a'.eval (.tmp 24) = .pointer (some ⟨g_2, K, none⟩) := hD 11 24 (by kernel_rfl) rfl
     exact .inl ⟨_, _, (o_loadW rfl d_17 (BB.nx hb') (by rw [(dg_length _)]; omega) rfl ⟨by kernel_rfl, by kernel_rfl⟩), rfl, Below.refl _ _⟩)),
(step_ok rfl (fun a' w' hb' hO hD => by
     have d_18 : a'.eval (.tmp 25) = .int .u64 (((dg y).getD (K) 0 : Nat) : Int) := hD 12 25 (by kernel_rfl) rfl
     exact .inl ⟨_, _, (o_conv (m := ((dg y).getD (K) 0)) (r := (dg y).getD (K) 0) rfl d_18 ⟨.int .u64, fun _ => by kernel_rfl⟩ (fun _ => by kernel_rfl) (IntWalk.i64_in _ (by omega))), rfl, Below.refl _ _⟩)),
(step_ok rfl (fun a' w' hb' hO hD => by
     have d_19 : a'.eval (.tmp 22) = .int .i64 (((((zK (subF x y) (dg x) K).1).getD (K) 0) + ((digN P).getD (K) 0) : Nat) : Int) := hD 9 22 (by kernel_rfl) rfl
     have d_20 : a'.eval (.tmp 26) = .int .i64 (((dg y).getD (K) 0 : Nat) : Int) := hD 13 26 (by kernel_rfl) rfl
     exact .inl ⟨_, _, (o_subZ (m := ((((zK (subF x y) (dg x) K).1).getD (K) 0) + ((digN P).getD (K) 0))) (n := ((dg y).getD (K) 0)) rfl d_19 d_20 (by omega) (by omega)), rfl, Below.refl _ _⟩)), trivial⟩ (fun a_2 w_8 hs_2 hd_2 hb_7 hO_1 hV_1 => ?_)
   have ta_2_0 := (hO_1 0 (by decide)).trans ((pm rfl).trans ta_1_0)
   have ta_2_1 := (hO_1 1 (by decide)).trans ((pm rfl).trans ta_1_1)
   have ta_2_2 := (hO_1 2 (by decide)).trans ((pm rfl).trans ta_1_2)
   have ta_2_3 := (hO_1 3 (by decide)).trans ((pm rfl).trans ta_1_3)
   have ta_2_4 := (hO_1 4 (by decide)).trans ((pm rfl).trans ta_1_4)
   have ta_2_9 := (hO_1 9 (by decide)).trans ((pm rfl).trans ta_1_9)
   have ta_2_5 := (hO_1 5 (by decide)).trans ((pm rfl).trans ta_1_5)
   have ta_2_6 := (hO_1 6 (by decide)).trans ((pm rfl).trans ta_1_6)
   have ta_2_10 := (hO_1 10 (by decide)).trans ((pm rfl).trans ta_1_10)
   have ta_2_8 : a_2.eval (.tmp 8) = .int .i64 ((K : Nat) : Int) := (hO_1 8 (by decide)).trans (pe hs_1 rfl rfl)
   clear ta_1_0 ta_1_1 ta_1_2 ta_1_3 ta_1_4 ta_1_9 ta_1_5 ta_1_6 ta_1_7 ta_1_10 hd_1
   replace BA := BA.nx hb_7
   replace BB := BB.nx hb_7
   replace BR := BR.nx hb_7
   replace BP := BP.nx hb_7
   have HB_6 := below_from HBL hb_7
   have ta_2_13 : a_2.eval (.tmp 13) = .int .i64 ((zK (subF x y) (dg x) K).2) := hV_1 0 13 rfl rfl
   have ta_2_27 : a_2.eval (.tmp 27) = .int .i64 (((((((zK (subF x y) (dg x) K).1).getD (K) 0) + ((digN P).getD (K) 0)) : Nat) : Int) - ((((dg y).getD (K) 0) : Nat) : Int)) := hV_1 14 27 rfl rfl
   clear hV_1 hO_1
   simp only [List.drop_succ_cons, List.drop_zero]
   refine q_v 28 (.int .i64 ((zK (subF x y) (dg x) K).2 + subF x y K)) (o_eq (o_addZZ (m := (zK (subF x y) (dg x) K).2) (n := ((((((zK (subF x y) (dg x) K).1).getD (K) 0) + ((digN P).getD (K) 0)) : Nat) : Int) - ((((dg y).getD (K) 0) : Nat) : Int)) rfl ((pm rfl).trans ta_2_13) ((pm rfl).trans ta_2_27) (by omega)) (congrArg (Value.int .i64) (by have h9 : subF x y K = (((dg x).getD K 0 : Nat) : Int) + (((digN P).getD K 0 : Nat) : Int) - (((dg y).getD K 0 : Nat) : Int) := rfl; omega))) ?_
   refine q_at (pe hs_2 rfl rfl) ?_
   refine x_nil (hK_14 _ _ ?_)
   refine w2_sr (fun K_15 hK_15 => ?_)
   refine q_mv ((pm rfl).trans ta_2_8) ?_
   refine q_mv (pe hs_2 rfl rfl) ?_
   refine q_v 31 (.int .i64 (((zK (subF x y) (dg x) K).2 + subF x y K) % 65536)) (o_andZ (m := (zK (subF x y) (dg x) K).2 + subF x y K) rfl (pe hs_2 rfl rfl) rfl) ?_
   refine q_v 32 (.int .u64 (((((zK (subF x y) (dg x) K).2 + subF x y K) % 65536).toNat : Nat) : Int)) (o_convZN (m := ((zK (subF x y) (dg x) K).2 + subF x y K) % 65536) rfl (pe hs_2 rfl rfl) ⟨.int .i64, fun _ => by kernel_rfl⟩ (fun _ => by kernel_rfl) (by omega) (by omega)) ?_
   refine op_val (d := 33) (v := .pointer (some ⟨g_1, K, none⟩)) rfl rfl (zero_off (o_ixA (k := 0) (i := K) (n := 16) (e := 23) rfl ((pm rfl).trans ta_2_2) (pe hs_2 rfl rfl) (by omega) (fun _ => by kernel_rfl) (fun _ => by kernel_rfl))) ?_
   refine op_do rfl rfl (o_storeW rfl (pe hs_2 rfl rfl) (pe hs_2 rfl rfl) BA (by rw [hzl]; omega) ⟨by kernel_rfl, by kernel_rfl⟩) (fun w_9 hR_7 => ?_)
   obtain ⟨hB_6, hX_2⟩ := hR_7
   replace BB := hX_2.blk BB (Ne.symm ne_1)
   replace BR := hX_2.blk BR (Ne.symm ne_2)
   replace BP := hX_2.blk BP (Ne.symm ne_4)
   have HB_7 := hX_2.below HB_6 HB_6.size (fun k hk => hk ▸ ge_1)
   clear BA
   refine x_nil (hK_15 _ _ ?_)
   refine x_region (by kernel_rfl) ?_
   refine q_mv (pe hs_2 rfl rfl) ?_
   refine q_v 35 (.int .i64 (((zK (subF x y) (dg x) K).2 + subF x y K) / 65536)) (o_shrZ (m := (zK (subF x y) (dg x) K).2 + subF x y K) rfl (pe hs_2 rfl rfl) rfl) ?_
   refine q_at (pe hs_2 rfl rfl) ?_
   refine x_nil (hK_12 _ _ ?_)
   refine hK_11 _ _ ?_
   refine x_region (by kernel_rfl) ?_
   refine q_v 36 (.int .i64 ((K + 1 : Nat) : Int)) (o_add64 (m := K) (n := 1) rfl ((pm rfl).trans ta_2_10) rfl (by omega)) ?_
   refine q_mv (pe hs_2 rfl rfl) ?_
   refine x_nil ?_
   refine hK_8 _ _ _ ⟨K + 1, rfl, (by rw [putsR_size]; exact hs_2), (by rw [putsR_defers]; exact hd_2), ((pm rfl).trans ta_2_0), ((pm rfl).trans ta_2_1), ((pm rfl).trans ta_2_2), ((pm rfl).trans ta_2_3), ((pm rfl).trans ta_2_4), ((pm rfl).trans ta_2_5), ((pm rfl).trans ta_2_6), (pe hs_2 rfl rfl), ((pm rfl).trans ta_2_9), (pe hs_2 rfl rfl), (by omega), hB_6, BB, BR, BP, HB_7⟩ ?_
   omega
  ·simp only [DD9] at h_1
   obtain rfl : K = 16 := by omega
   refine w2_exit ?_
   refine thn_exit ?_
   refine thn_exit ?_
   refine exb_hit ?_
   refine hK_7 _ _ ?_
   refine hK_5 _ _ ?_
   refine w2_seq (fun K_16 hK_16 => ?_)
   obtain ⟨hf1, hf2⟩ := subF_all x y
   rw [hf1] at BA
   refine x_region (by kernel_rfl) ?_
   refine q_v 37 (.int .i64 ((0 : Int))) (o_eq (o_move rfl ((pm rfl).trans ta_1_7)) (congrArg (Value.int .i64) hf2)) ?_
   refine q_v 38 (.int .u64 ((((0 : Int)).toNat : Nat) : Int)) (o_convZN (m := (0 : Int)) rfl (pe hs_1 rfl rfl) ⟨.int .i64, fun _ => by kernel_rfl⟩ (fun _ => by kernel_rfl) (by omega) (by omega)) ?_
   refine q_at (pe hs_1 rfl rfl) ?_
   refine x_nil (hK_16 _ _ ?_)
   refine w2_seq (fun K_17 hK_17 => ?_)
   have hd0 := digN_le (x.val + P - y.val) 0
   refine x_region (by kernel_rfl) ?_
   refine op_val (d := 39) (v := .pointer (some ⟨g_1, 0, none⟩)) rfl rfl (zero_off (o_ixA (k := 0) (i := 0) (n := 16) (e := 23) rfl ((pm rfl).trans ta_1_2) rfl (by omega) (fun _ => by kernel_rfl) (fun _ => by kernel_rfl))) ?_
   refine q_v 40 (.int .u64 (((digN (x.val + P - y.val)).getD (0) 0 : Nat) : Int)) (o_loadW rfl (pe hs_1 rfl rfl) BA (by rw [(digN_length _)]; omega) rfl ⟨by kernel_rfl, by kernel_rfl⟩) ?_
   refine q_mv (pe hs_1 rfl rfl) ?_
   refine q_v 42 (.int .u64 ((38 * ((0 : Int)).toNat : Nat) : Int)) (o_eq (o_mulU (m := 38) (n := (((0 : Int)).toNat)) (38 * (((0 : Int)).toNat) % 18446744073709551616) rfl rfl (pe hs_1 rfl rfl) (by rw [IntKind.wrap_u64]; simp)) (by rw [Nat.mod_eq_of_lt (by decide)])) ?_
   refine q_v 43 (.int .u64 ((((digN (x.val + P - y.val)).getD (0) 0) + (38 * ((0 : Int)).toNat) : Nat) : Int)) (o_addU (m := ((digN (x.val + P - y.val)).getD (0) 0)) (n := (38 * ((0 : Int)).toNat)) (((digN (x.val + P - y.val)).getD (0) 0) + (38 * ((0 : Int)).toNat)) rfl (pe hs_1 rfl rfl) (pe hs_1 rfl rfl) (by rw [IntKind.wrap_u64]; omega)) ?_
   refine op_val (d := 44) (v := .pointer (some ⟨g_1, 0, none⟩)) rfl rfl (zero_off (o_ixA (k := 0) (i := 0) (n := 16) (e := 23) rfl ((pm rfl).trans ta_1_2) rfl (by omega) (fun _ => by kernel_rfl) (fun _ => by kernel_rfl))) ?_
   refine op_do rfl rfl (o_storeW rfl (pe hs_1 rfl rfl) (pe hs_1 rfl rfl) BA (by rw [(digN_length _)]; omega) ⟨by kernel_rfl, by kernel_rfl⟩) (fun w_10 hR_8 => ?_)
   obtain ⟨hB_7, hX_3⟩ := hR_8
   replace BB := hX_3.blk BB (Ne.symm ne_1)
   replace BR := hX_3.blk BR (Ne.symm ne_2)
   replace BP := hX_3.blk BP (Ne.symm ne_4)
   have HB_8 := hX_3.below HBL HBL.size (fun k hk => hk ▸ ge_1)
   clear BA
   refine x_nil (hK_17 _ _ ?_)
   refine w2_seq (fun K_18 hK_18 => ?_)
   have hl9 : ((digN (x.val + P - y.val)).set (0) ((digN (x.val + P - y.val)).getD (0) 0 + 38 * ((0 : Int)).toNat)).length = 16 := by rw [List.length_set, digN_length]
   have hM9 : ∀ j, ((digN (x.val + P - y.val)).set (0) ((digN (x.val + P - y.val)).getD (0) 0 + 38 * ((0 : Int)).toNat)).getD j 0 ≤ 65535 * 17592186044416 := by intro j; by_cases e : 0 = j; (subst e; rw [getD_set_eq (by rw [digN_length]; decide)]; have h8 : (0 : Int).toNat = 0 := rfl; omega); (rw [getD_set_ne e]; exact Nat.le_trans (digN_le _ j) (by decide))
   refine x_region (by kernel_rfl) ?_
   refine q_v 45 (.agg (iws .u64 ((digN (x.val + P - y.val)).set (0) (((digN (x.val + P - y.val)).getD (0) 0) + (38 * ((0 : Int)).toNat)))).toArray) (o_loadI rfl ((pm rfl).trans ta_1_2) hB_7 (by rw [hl9]; exact ⟨by kernel_rfl, by kernel_rfl⟩)) ?_
   refine q_ca (vs := #[.agg (iws .u64 ((digN (x.val + P - y.val)).set (0) (((digN (x.val + P - y.val)).getD (0) 0) + (38 * ((0 : Int)).toNat)))).toArray]) Try.func33 (args1 (pe hs_1 rfl rfl)) (least_any _ hl9 hM9) (fun e_2 w_11 hR_9 => ?_)
   obtain ⟨rfl, hb_9⟩ := hR_9
   replace BB := BB.nx hb_9
   replace BR := BR.nx hb_9
   replace BP := BP.nx hb_9
   have HB_9 := below_from HB_8 hb_9
   refine ⟨_, rfl, ?_⟩
   refine op_do rfl rfl (o_storeI rfl ((pm rfl).trans ta_1_4) (pe hs_1 rfl rfl) BR (by rw [(digN_length _)]; exact ⟨by kernel_rfl, by kernel_rfl⟩) (by rw [digN_length]; simp [iws])) (fun w_12 hR_10 => ?_)
   obtain ⟨hB_8, hX_4⟩ := hR_10
   replace BB := hX_4.blk BB ne_3
   replace BP := hX_4.blk BP (Ne.symm ne_6)
   have HB_10 := hX_4.below HB_9 HB_9.size (fun k hk => hk ▸ ge_3)
   clear BR
   refine x_nil (hK_18 _ _ ?_)
   refine w2_ret ?_
   refine retC rfl hd_1 ((pm rfl).trans ta_1_4) (loadI hB_8 (by rw [(digN_length _)]; exact ⟨by kernel_rfl, by kernel_rfl⟩)) ?_
   exact ⟨by rw [sub_dg x y (c := (0 : Int).toNat) rfl], HB_10⟩
set_option maxHeartbeats 1000000 in
theorem MulNum_any {x y : F} (w : World) :
  Calls Try.prog 17 #[.agg (iws .u64 (dg x)).toArray, .agg (iws .u64 (dg y)).toArray] w fun e w' => e = .returned (.agg (iws .u64 (dg (x * y))).toArray) ∧ Below w.heap.size w w' := by
 refine x_enter 56 Try.func17 rfl rfl (fun a hs hd ha0 => ?_)
 have t0 : a.eval (.tmp 0) = .agg (iws .u64 (dg x)).toArray := ha0 0 _ rfl
 have t1 : a.eval (.tmp 1) = .agg (iws .u64 (dg y)).toArray := ha0 1 _ rfl
 clear ha0
 refine w2_sr (fun K_1 hK_1 => ?_)
 refine op_ex (d := 2) rfl rfl (o_boxI rfl ((pm rfl).trans t0)) (fun v_1 w_1 hR_1 => ?_)
 obtain ⟨g_1, rfl, hle_1, hB_1, hb_1⟩ := hR_1
 refine op_ex (d := 3) rfl rfl (o_boxI rfl ((pm rfl).trans t1)) (fun v_2 w_2 hR_2 => ?_)
 obtain ⟨g_2, rfl, hle_2, hB_2, hb_2⟩ := hR_2
 replace hB_1 := hB_1.nx hb_2
 have HB_1 := below_from hb_1 hb_2
 refine op_ex (d := 4) rfl rfl (o_alloc (zs := (iws .u64 (List.replicate 16 0)).toArray) rfl (fun _ => by kernel_rfl)) (fun v_3 w_3 hR_3 => ?_)
 obtain ⟨g_3, rfl, hle_3, hB_3, hb_3⟩ := hR_3
 have ne_2 : g_1 ≠ g_3 := Nat.ne_of_lt (Nat.lt_of_lt_of_le hB_1.lt hle_3)
 have ne_3 : g_2 ≠ g_3 := Nat.ne_of_lt (Nat.lt_of_lt_of_le hB_2.lt hle_3)
 have ge_3 : w.heap.size ≤ g_3 := Nat.le_trans HB_1.size hle_3
 replace hB_1 := hB_1.nx hb_3
 replace hB_2 := hB_2.nx hb_3
 have HB_2 := below_from HB_1 hb_3
 refine x_nil (hK_1 _ _ ?_)
 refine w2_sr (fun K_2 hK_2 => ?_)
 refine op_ex (d := 5) rfl rfl (o_alloc (zs := (iws .u64 (List.replicate 31 0)).toArray) rfl (fun _ => by kernel_rfl)) (fun v_4 w_4 hR_4 => ?_)
 obtain ⟨g_4, rfl, hle_4, hB_4, hb_4⟩ := hR_4
 have ne_4 : g_1 ≠ g_4 := Nat.ne_of_lt (Nat.lt_of_lt_of_le hB_1.lt hle_4)
 have ne_5 : g_2 ≠ g_4 := Nat.ne_of_lt (Nat.lt_of_lt_of_le hB_2.lt hle_4)
 have ne_6 : g_3 ≠ g_4 := Nat.ne_of_lt (Nat.lt_of_lt_of_le hB_3.lt hle_4)
 have ge_4 : w.heap.size ≤ g_4 := Nat.le_trans HB_2.size hle_4
 replace hB_1 := hB_1.nx hb_4
 replace hB_2 := hB_2.nx hb_4
 replace hB_3 := hB_3.nx hb_4
 have HB_3 := below_from HB_2 hb_4
 refine x_nil (hK_2 _ _ ?_)
 refine w2_seq (fun K_3 hK_3 => ?_)
 refine w2_sr (fun K_4 hK_4 => ?_)
 refine q_v 10 (.int .i64 ((0 : Nat) : Int)) (o_move rfl rfl) ?_
 refine x_nil (hK_4 _ _ ?_)
 refine w2_block (fun K_5 hK_5 => ?_)
 refine x_loop (fun nn aa ww => ∃ (I : Nat), nn = 16 - I ∧ aa.tmps.size = 56 ∧ aa.defers = [] ∧ aa.eval (.tmp 0) = .agg (iws .u64 (dg x)).toArray ∧ aa.eval (.tmp 1) = .agg (iws .u64 (dg y)).toArray ∧ aa.eval (.tmp 2) = .pointer (some ⟨g_1, 0, none⟩) ∧ aa.eval (.tmp 3) = .pointer (some ⟨g_2, 0, none⟩) ∧ aa.eval (.tmp 4) = .pointer (some ⟨g_3, 0, none⟩) ∧ aa.eval (.tmp 5) = .pointer (some ⟨g_4, 0, none⟩) ∧ aa.eval (.tmp 10) = .int .i64 ((I : Nat) : Int) ∧ I ≤ 16 ∧ Blk ww g_1 (iws .u64 (dg x)).toArray 32 ∧ Blk ww g_2 (iws .u64 (dg y)).toArray 32 ∧ Blk ww g_3 (iws .u64 (List.replicate 16 0)).toArray 32 ∧ Blk ww g_4 (iws .u64 ((mulI (dg x) (dg y) I))).toArray 60 ∧ Below w.heap.size w ww) (16) ?_ ?_
 ·exact ⟨0, rfl, (by rw [putsR_size]; exact hs), (by rw [putsR_defers]; exact hd), ((pm rfl).trans t0), ((pm rfl).trans t1), (pe hs rfl rfl), (pe hs rfl rfl), (pe hs rfl rfl), (pe hs rfl rfl), (pe hs rfl rfl), by omega, hB_1, hB_2, hB_3, hB_4, HB_3⟩
 ·skip
  clear t0 t1 hd hB_1 hB_2 hB_3 hB_4 HB_3
  rintro nna_1 a_1 w_5 ⟨I, hm_1, hs_1, hd_1, ta_1_0, ta_1_1, ta_1_2, ta_1_3, ta_1_4, ta_1_5, ta_1_10, hI, BA, BB, BR, BT, HBL⟩ K_6 hK_6
  subst hm_1
  have hml := mulI_length (dg x) (dg y) I
  have hmM := mulI_le (dg_le x) (dg_le y) I
  refine w2_sr (fun K_7 hK_7 => ?_)
  refine q_v 11 (.bool (decide (I < 16))) (o_lss (m := I) (n := 16) rfl ((pm rfl).trans ta_1_10) rfl) ?_
  refine x_nil (hK_7 _ _ ?_)
  refine w2_seq (fun K_8 hK_8 => ?_)
  refine w2_split (pe hs_1 rfl rfl) (fun h_1 => ?_) (fun h_1 => ?_)
  ·simp only [DD9] at h_1
   refine w2_skip ?_
   refine hK_8 _ _ ?_
   refine w2_seq (fun K_9 hK_9 => ?_)
   refine w2_block (fun K_10 hK_10 => ?_)
   refine w2_sr (fun K_11 hK_11 => ?_)
   refine q_mv ((pm rfl).trans ta_1_10) ?_
   refine q_at (pe hs_1 rfl rfl) ?_
   refine x_nil (hK_11 _ _ ?_)
   refine w2_sr (fun K_12 hK_12 => ?_)
   refine q_v 13 (.int .i64 ((0 : Nat) : Int)) (o_move rfl rfl) ?_
   refine x_nil (hK_12 _ _ ?_)
   refine w2_block (fun K_13 hK_13 => ?_)
   refine x_loop (fun nn aa ww => ∃ (J : Nat), nn = 16 - J ∧ aa.tmps.size = 56 ∧ aa.defers = [] ∧ aa.eval (.tmp 0) = .agg (iws .u64 (dg x)).toArray ∧ aa.eval (.tmp 1) = .agg (iws .u64 (dg y)).toArray ∧ aa.eval (.tmp 2) = .pointer (some ⟨g_1, 0, none⟩) ∧ aa.eval (.tmp 3) = .pointer (some ⟨g_2, 0, none⟩) ∧ aa.eval (.tmp 4) = .pointer (some ⟨g_3, 0, none⟩) ∧ aa.eval (.tmp 5) = .pointer (some ⟨g_4, 0, none⟩) ∧ aa.eval (.tmp 6) = .int .i64 ((I : Nat) : Int) ∧ aa.eval (.tmp 10) = .int .i64 ((I : Nat) : Int) ∧ aa.eval (.tmp 11) = .bool (decide (I < 16)) ∧ aa.eval (.tmp 12) = .int .i64 ((I : Nat) : Int) ∧ aa.eval (.tmp 13) = .int .i64 ((J : Nat) : Int) ∧ J ≤ 16 ∧ Blk ww g_1 (iws .u64 (dg x)).toArray 32 ∧ Blk ww g_2 (iws .u64 (dg y)).toArray 32 ∧ Blk ww g_3 (iws .u64 (List.replicate 16 0)).toArray 32 ∧ Blk ww g_4 (iws .u64 ((mulJ (mulI (dg x) (dg y) I) (dg y) ((dg x).getD I 0) I J))).toArray 60 ∧ Below w.heap.size w ww) (16) ?_ ?_
   ·exact ⟨0, rfl, (by rw [putsR_size]; exact hs_1), (by rw [putsR_defers]; exact hd_1), ((pm rfl).trans ta_1_0), ((pm rfl).trans ta_1_1), ((pm rfl).trans ta_1_2), ((pm rfl).trans ta_1_3), ((pm rfl).trans ta_1_4), ((pm rfl).trans ta_1_5), (pe hs_1 rfl rfl), ((pm rfl).trans ta_1_10), (pe hs_1 rfl rfl), (pe hs_1 rfl rfl), (pe hs_1 rfl rfl), by omega, BA, BB, BR, BT, HBL⟩
   ·skip
    clear ta_1_0 ta_1_1 ta_1_2 ta_1_3 ta_1_4 ta_1_5 ta_1_10 hd_1 BA BB BR BT HBL
    rintro nna_2 a_2 w_6 ⟨J, hm_2, hs_2, hd_2, ta_2_0, ta_2_1, ta_2_2, ta_2_3, ta_2_4, ta_2_5, ta_2_6, ta_2_10, ta_2_11, ta_2_12, ta_2_13, hJ, BA, BB, BR, BT, HBL⟩ K_14 hK_14
    subst hm_2
    have hjl : (mulJ (mulI (dg x) (dg y) I) (dg y) ((dg x).getD I 0) I J).length = 31 := (mulJ_length _ _ _ _ J).trans hml
    have hjM := mulJ_le (i := I) hmM (dg_le y) (dg_le x I) J (I + J)
    have hxl := dg_le x I
    have hyl := dg_le y J
    have hxy := Nat.mul_le_mul hxl hyl
    refine w2_sr (fun K_15 hK_15 => ?_)
    refine q_v 14 (.bool (decide (J < 16))) (o_lss (m := J) (n := 16) rfl ((pm rfl).trans ta_2_13) rfl) ?_
    refine x_nil (hK_15 _ _ ?_)
    refine w2_seq (fun K_16 hK_16 => ?_)
    refine w2_split (pe hs_2 rfl rfl) (fun h_2 => ?_) (fun h_2 => ?_)
    ·simp only [DD9] at h_2
     refine w2_skip ?_
     refine hK_16 _ _ ?_
     refine w2_seq (fun K_17 hK_17 => ?_)
     refine w2_block (fun K_18 hK_18 => ?_)
     refine w2_sr (fun K_19 hK_19 => ?_)
     refine q_mv ((pm rfl).trans ta_2_13) ?_
     refine q_at (pe hs_2 rfl rfl) ?_
     refine x_nil (hK_19 _ _ ?_)
     refine x_drawn 12 [fun _ v => v = .int .i64 ((I : Nat) : Int), fun _ v => v = .int .i64 ((J : Nat) : Int), fun _ v => v = .int .i64 ((I + J : Nat) : Int), fun _ v => v = .pointer (some ⟨g_4, I + J, none⟩), fun _ v => v = .int .u64 ((((mulJ (mulI (dg x) (dg y) I) (dg y) ((dg x).getD I 0) I J)).getD (I + J) 0 : Nat) : Int), fun _ v => v = .int .i64 ((I : Nat) : Int), fun _ v => v = .pointer (some ⟨g_1, I, none⟩), fun _ v => v = .int .u64 (((dg x).getD (I) 0 : Nat) : Int), fun _ v => v = .int .i64 ((J : Nat) : Int), fun _ v => v = .pointer (some ⟨g_2, J, none⟩), fun _ v => v = .int .u64 (((dg y).getD (J) 0 : Nat) : Int), fun _ v => v = .int .u64 (((dg x).getD (I) 0 * (dg y).getD (J) 0 : Nat) : Int)] [16, 17, 18, 19, 20, 21, 22, 23, 24, 25, 26, 27] hs_2 hd_2 (by kernel_rfl) (by kernel_rfl) (by kernel_rfl) (by kernel_rfl) (by kernel_rfl) ⟨stLit, stLit, stLit, stLit, stLit, stLit, stLit, stLit, stLit, stLit, stLit, stLit, trivial⟩ ⟨(step_ok rfl (fun a' w' hb' hO hD => by
       have d_1 := (hO 6 (by decide)).trans ((pm rfl).trans ta_2_6)
       exact .inl ⟨_, _, (o_move rfl d_1), rfl, Below.refl _ _⟩)),
(step_ok rfl (fun a' w' hb' hO hD => by
       have d_2 : a'.eval (.tmp 7) = .int .i64 ((J : Nat) : Int) := (hO 7 (by decide)).trans (pe hs_2 rfl rfl)
       exact .inl ⟨_, _, (o_move rfl d_2), rfl, Below.refl _ _⟩)),
(step_ok rfl (fun a' w' hb' hO hD => by
       have d_3 : a'.eval (.tmp 16) = .int .i64 ((I : Nat) : Int) := hD 0 16 (by kernel_rfl) rfl
       have d_4 : a'.eval (.tmp 17) = .int .i64 ((J : Nat) : Int) := hD 1 17 (by kernel_rfl) rfl
       exact .inl ⟨_, _, (o_add64 (m := I) (n := J) rfl d_3 d_4 (by omega)), rfl, Below.refl _ _⟩)),
(step_ok rfl (fun a' w' hb' hO hD => by
       have d_5 := (hO 5 (by decide)).trans ((pm rfl).trans ta_2_5)
       have d_6 : a'.eval (.tmp 18) = .int .i64 ((I + J : Nat) : Int) := hD 2 18 (by kernel_rfl) rfl
       exact .inl ⟨_, _, (zero_off (o_ixA (k := 0) (i := I + J) (n := 31) (e := 23) rfl d_5 d_6 (by omega) (fun _ => by kernel_rfl) (fun _ => by kernel_rfl))), rfl, Below.refl _ _⟩)),
(step_ok rfl (fun a' w' hb' hO hD => by
       have d_7 : a'.eval (.tmp 19) = .pointer (some ⟨g_4, I + J, none⟩) := hD 3 19 (by kernel_rfl) rfl
       exact .inl ⟨_, _, (o_loadW rfl d_7 (BT.nx hb') (by rw [hjl]; omega) rfl ⟨by kernel_rfl, by kernel_rfl⟩), rfl, Below.refl _ _⟩)),
(step_ok rfl (fun a' w' hb' hO hD => by
       have d_8 := (hO 6 (by decide)).trans ((pm rfl).trans ta_2_6)
       exact .inl ⟨_, _, (o_move rfl d_8), rfl, Below.refl _ _⟩)),
(step_ok rfl (fun a' w' hb' hO hD => by
       have d_9 := (hO 2 (by decide)).trans ((pm rfl).trans ta_2_2)
       have d_10 : a'.eval (.tmp 21) = .int .i64 ((I : Nat) : Int) := hD 5 21 (by kernel_rfl) rfl
       exact .inl ⟨_, _, (zero_off (o_ixA (k := 0) (i := I) (n := 16) (e := 23) rfl d_9 d_10 (by omega) (fun _ => by kernel_rfl) (fun _ => by kernel_rfl))), rfl, Below.refl _ _⟩)),
(step_ok rfl (fun a' w' hb' hO hD => by
       have d_11 : a'.eval (.tmp 22) = .pointer (some ⟨g_1, I, none⟩) := hD 6 22 (by kernel_rfl) rfl
       exact .inl ⟨_, _, (o_loadW rfl d_11 (BA.nx hb') (by rw [(dg_length _)]; omega) rfl ⟨by kernel_rfl, by kernel_rfl⟩), rfl, Below.refl _ _⟩)),
(step_ok rfl (fun a' w' hb' hO hD => by
       have d_12 : a'.eval (.tmp 7) = .int .i64 ((J : Nat) : Int) := (hO 7 (by decide)).trans (pe hs_2 rfl rfl)
       exact .inl ⟨_, _, (o_move rfl d_12), rfl, Below.refl _ _⟩)),
(step_ok rfl (fun a' w' hb' hO hD => by
       have d_13 := (hO 3 (by decide)).trans ((pm rfl).trans ta_2_3)
       have d_14 : a'.eval (.tmp 24) = .int .i64 ((J : Nat) : Int) := hD 8 24 (by kernel_rfl) rfl
       exact .inl ⟨_, _, (zero_off (o_ixA (k := 0) (i := J) (n := 16) (e := 23) rfl d_13 d_14 (by omega) (fun _ => by kernel_rfl) (fun _ => by kernel_rfl))), rfl, Below.refl _ _⟩)),
(step_ok rfl (fun a' w' hb' hO hD => by
       have d_15 : a'.eval (.tmp 25) = .pointer (some ⟨g_2, J, none⟩) := hD 9 25 (by kernel_rfl) rfl
       exact .inl ⟨_, _, (o_loadW rfl d_15 (BB.nx hb') (by rw [(dg_length _)]; omega) rfl ⟨by kernel_rfl, by kernel_rfl⟩), rfl, Below.refl _ _⟩)),
(step_ok rfl (fun a' w' hb' hO hD => by
       have d_16 : a'.eval (.tmp 23) = .int .u64 (((dg x).getD (I) 0 : Nat) : Int) := hD 7 23 (by kernel_rfl) rfl
       have d_17 : a'.eval (.tmp 26) = .int .u64 (((dg y).getD (J) 0 : Nat) : Int) := hD 10 26 (by kernel_rfl) rfl
       have e0 : (.int .u64 ((((dg x).getD (I) 0) * ((dg y).getD (J) 0) % 18446744073709551616 : Nat) : Int) : Value) = .int .u64 (((dg x).getD (I) 0 * (dg y).getD (J) 0 : Nat) : Int) := (by rw [Nat.mod_eq_of_lt (by omega)])
       exact .inl ⟨_, _, (o_mulU (m := ((dg x).getD (I) 0)) (n := ((dg y).getD (J) 0)) (((dg x).getD (I) 0) * ((dg y).getD (J) 0) % 18446744073709551616) rfl d_16 d_17 (by rw [IntKind.wrap_u64]; simp)), e0, Below.refl _ _⟩)), trivial⟩ (fun a_3 w_7 hs_3 hd_3 hb_5 hO_1 hV_1 => ?_)
     have ta_3_0 := (hO_1 0 (by decide)).trans ((pm rfl).trans ta_2_0)
     have ta_3_1 := (hO_1 1 (by decide)).trans ((pm rfl).trans ta_2_1)
     have ta_3_2 := (hO_1 2 (by decide)).trans ((pm rfl).trans ta_2_2)
     have ta_3_3 := (hO_1 3 (by decide)).trans ((pm rfl).trans ta_2_3)
     have ta_3_4 := (hO_1 4 (by decide)).trans ((pm rfl).trans ta_2_4)
     have ta_3_5 := (hO_1 5 (by decide)).trans ((pm rfl).trans ta_2_5)
     have ta_3_10 := (hO_1 10 (by decide)).trans ((pm rfl).trans ta_2_10)
     have ta_3_11 := (hO_1 11 (by decide)).trans ((pm rfl).trans ta_2_11)
     have ta_3_12 := (hO_1 12 (by decide)).trans ((pm rfl).trans ta_2_12)
     have ta_3_6 := (hO_1 6 (by decide)).trans ((pm rfl).trans ta_2_6)
     have ta_3_13 := (hO_1 13 (by decide)).trans ((pm rfl).trans ta_2_13)
     clear ta_2_0 ta_2_1 ta_2_2 ta_2_3 ta_2_4 ta_2_5 ta_2_10 ta_2_11 ta_2_12 ta_2_6 ta_2_13 hd_2
     replace BA := BA.nx hb_5
     replace BB := BB.nx hb_5
     replace BR := BR.nx hb_5
     replace BT := BT.nx hb_5
     have HB_4 := below_from HBL hb_5
     have ta_3_18 : a_3.eval (.tmp 18) = .int .i64 ((I + J : Nat) : Int) := hV_1 2 18 rfl rfl
     have ta_3_20 : a_3.eval (.tmp 20) = .int .u64 ((((mulJ (mulI (dg x) (dg y) I) (dg y) ((dg x).getD I 0) I J)).getD (I + J) 0 : Nat) : Int) := hV_1 4 20 rfl rfl
     have ta_3_27 : a_3.eval (.tmp 27) = .int .u64 (((dg x).getD (I) 0 * (dg y).getD (J) 0 : Nat) : Int) := hV_1 11 27 rfl rfl
     clear hV_1 hO_1
     simp only [List.drop_succ_cons, List.drop_zero]
     refine q_v 28 (.int .u64 (((((mulJ (mulI (dg x) (dg y) I) (dg y) ((dg x).getD I 0) I J)).getD (I + J) 0) + ((dg x).getD (I) 0 * (dg y).getD (J) 0) : Nat) : Int)) (o_addU (m := (((mulJ (mulI (dg x) (dg y) I) (dg y) ((dg x).getD I 0) I J)).getD (I + J) 0)) (n := ((dg x).getD (I) 0 * (dg y).getD (J) 0)) ((((mulJ (mulI (dg x) (dg y) I) (dg y) ((dg x).getD I 0) I J)).getD (I + J) 0) + ((dg x).getD (I) 0 * (dg y).getD (J) 0)) rfl ((pm rfl).trans ta_3_20) ((pm rfl).trans ta_3_27) (by rw [IntKind.wrap_u64]; omega)) ?_
     refine op_val (d := 29) (v := .pointer (some ⟨g_4, I + J, none⟩)) rfl rfl (zero_off (o_ixA (k := 0) (i := I + J) (n := 31) (e := 23) rfl ((pm rfl).trans ta_3_5) ((pm rfl).trans ta_3_18) (by omega) (fun _ => by kernel_rfl) (fun _ => by kernel_rfl))) ?_
     refine op_do rfl rfl (o_storeW rfl (pe hs_3 rfl rfl) (pe hs_3 rfl rfl) BT (by rw [hjl]; omega) ⟨by kernel_rfl, by kernel_rfl⟩) (fun w_8 hR_5 => ?_)
     obtain ⟨hB_5, hX_1⟩ := hR_5
     replace BA := hX_1.blk BA ne_4
     replace BB := hX_1.blk BB ne_5
     replace BR := hX_1.blk BR ne_6
     have HB_5 := hX_1.below HB_4 HB_4.size (fun k hk => hk ▸ ge_4)
     clear BT
     refine x_nil (hK_18 _ _ ?_)
     refine hK_17 _ _ ?_
     refine x_region (by kernel_rfl) ?_
     refine q_v 30 (.int .i64 ((J + 1 : Nat) : Int)) (o_add64 (m := J) (n := 1) rfl ((pm rfl).trans ta_3_13) rfl (by omega)) ?_
     refine q_mv (pe hs_3 rfl rfl) ?_
     refine x_nil ?_
     refine hK_14 _ _ _ ⟨J + 1, rfl, (by rw [putsR_size]; exact hs_3), (by rw [putsR_defers]; exact hd_3), ((pm rfl).trans ta_3_0), ((pm rfl).trans ta_3_1), ((pm rfl).trans ta_3_2), ((pm rfl).trans ta_3_3), ((pm rfl).trans ta_3_4), ((pm rfl).trans ta_3_5), ((pm rfl).trans ta_3_6), ((pm rfl).trans ta_3_10), ((pm rfl).trans ta_3_11), ((pm rfl).trans ta_3_12), (pe hs_3 rfl rfl), (by omega), BA, BB, BR, hB_5, HB_5⟩ ?_
     omega
    ·simp only [DD9] at h_2
     obtain rfl : J = 16 := by omega
     refine w2_exit ?_
     refine thn_exit ?_
     refine thn_exit ?_
     refine exb_hit ?_
     refine hK_13 _ _ ?_
     refine hK_10 _ _ ?_
     refine hK_9 _ _ ?_
     refine x_region (by kernel_rfl) ?_
     refine q_v 31 (.int .i64 ((I + 1 : Nat) : Int)) (o_add64 (m := I) (n := 1) rfl ((pm rfl).trans ta_2_10) rfl (by omega)) ?_
     refine q_mv (pe hs_2 rfl rfl) ?_
     refine x_nil ?_
     refine hK_6 _ _ _ ⟨I + 1, rfl, (by rw [putsR_size]; exact hs_2), (by rw [putsR_defers]; exact hd_2), ((pm rfl).trans ta_2_0), ((pm rfl).trans ta_2_1), ((pm rfl).trans ta_2_2), ((pm rfl).trans ta_2_3), ((pm rfl).trans ta_2_4), ((pm rfl).trans ta_2_5), (pe hs_2 rfl rfl), (by omega), BA, BB, BR, BT, HBL⟩ ?_
     omega
  ·simp only [DD9] at h_1
   obtain rfl : I = 16 := by omega
   refine w2_exit ?_
   refine thn_exit ?_
   refine thn_exit ?_
   refine exb_hit ?_
   refine hK_5 _ _ ?_
   refine hK_3 _ _ ?_
   refine w2_seq (fun K_20 hK_20 => ?_)
   obtain ⟨t9, ht9⟩ : ∃ q, q = mulI (dg x) (dg y) 16 := ⟨_, rfl⟩
   rw [← ht9] at BT hml hmM
   refine x_region (by kernel_rfl) ?_
   refine op_ex (d := 8) rfl rfl (o_alloc (zs := (iws .u64 (List.replicate 16 0)).toArray) rfl (fun _ => by kernel_rfl)) (fun v_5 w_9 hR_6 => ?_)
   obtain ⟨g_5, rfl, hle_5, hB_6, hb_6⟩ := hR_6
   have ne_7 : g_1 ≠ g_5 := Nat.ne_of_lt (Nat.lt_of_lt_of_le BA.lt hle_5)
   have ne_8 : g_2 ≠ g_5 := Nat.ne_of_lt (Nat.lt_of_lt_of_le BB.lt hle_5)
   have ne_9 : g_3 ≠ g_5 := Nat.ne_of_lt (Nat.lt_of_lt_of_le BR.lt hle_5)
   have ne_10 : g_4 ≠ g_5 := Nat.ne_of_lt (Nat.lt_of_lt_of_le BT.lt hle_5)
   have ge_5 : w.heap.size ≤ g_5 := Nat.le_trans HBL.size hle_5
   replace BA := BA.nx hb_6
   replace BB := BB.nx hb_6
   replace BR := BR.nx hb_6
   replace BT := BT.nx hb_6
   have HB_6 := below_from HBL hb_6
   refine x_nil (hK_20 _ _ ?_)
   refine w2_seq (fun K_21 hK_21 => ?_)
   refine w2_sr (fun K_22 hK_22 => ?_)
   refine q_v 32 (.int .i64 ((0 : Nat) : Int)) (o_move rfl rfl) ?_
   refine x_nil (hK_22 _ _ ?_)
   refine w2_block (fun K_23 hK_23 => ?_)
   refine x_loop (fun nn aa ww => ∃ (K : Nat), nn = 16 - K ∧ aa.tmps.size = 56 ∧ aa.defers = [] ∧ aa.eval (.tmp 0) = .agg (iws .u64 (dg x)).toArray ∧ aa.eval (.tmp 1) = .agg (iws .u64 (dg y)).toArray ∧ aa.eval (.tmp 2) = .pointer (some ⟨g_1, 0, none⟩) ∧ aa.eval (.tmp 3) = .pointer (some ⟨g_2, 0, none⟩) ∧ aa.eval (.tmp 4) = .pointer (some ⟨g_3, 0, none⟩) ∧ aa.eval (.tmp 5) = .pointer (some ⟨g_4, 0, none⟩) ∧ aa.eval (.tmp 8) = .pointer (some ⟨g_5, 0, none⟩) ∧ aa.eval (.tmp 10) = .int .i64 ((16 : Nat) : Int) ∧ aa.eval (.tmp 11) = .bool (decide (16 < 16)) ∧ aa.eval (.tmp 32) = .int .i64 ((K : Nat) : Int) ∧ K ≤ 16 ∧ Blk ww g_1 (iws .u64 (dg x)).toArray 32 ∧ Blk ww g_2 (iws .u64 (dg y)).toArray 32 ∧ Blk ww g_3 (iws .u64 (List.replicate 16 0)).toArray 32 ∧ Blk ww g_4 (iws .u64 (t9)).toArray 60 ∧ Blk ww g_5 (iws .u64 (outK t9 K)).toArray 32 ∧ Below w.heap.size w ww) (16) ?_ ?_
   ·exact ⟨0, rfl, (by rw [putsR_size]; exact hs_1), (by rw [putsR_defers]; exact hd_1), ((pm rfl).trans ta_1_0), ((pm rfl).trans ta_1_1), ((pm rfl).trans ta_1_2), ((pm rfl).trans ta_1_3), ((pm rfl).trans ta_1_4), ((pm rfl).trans ta_1_5), (pe hs_1 rfl rfl), ((pm rfl).trans ta_1_10), (pe hs_1 rfl rfl), (pe hs_1 rfl rfl), by omega, BA, BB, BR, BT, hB_6, HB_6⟩
   ·skip
    clear ta_1_0 ta_1_1 ta_1_2 ta_1_3 ta_1_4 ta_1_5 ta_1_10 hd_1 BA BB BR BT hB_6 HB_6
    rintro nna_4 a_4 w_10 ⟨K, hm_3, hs_4, hd_4, ta_4_0, ta_4_1, ta_4_2, ta_4_3, ta_4_4, ta_4_5, ta_4_8, ta_4_10, ta_4_11, ta_4_32, hK, BA, BB, BR, BT, BO, HBL⟩ K_24 hK_24
    subst hm_3
    have hol := outK_length t9 K
    have ht1 := hmM K
    have ht2 := hmM (K + 16)
    refine w2_sr (fun K_25 hK_25 => ?_)
    refine q_v 33 (.bool (decide (K < 16))) (o_lss (m := K) (n := 16) rfl ((pm rfl).trans ta_4_32) rfl) ?_
    refine x_nil (hK_25 _ _ ?_)
    refine w2_seq (fun K_26 hK_26 => ?_)
    refine w2_split (pe hs_4 rfl rfl) (fun h_3 => ?_) (fun h_3 => ?_)
    ·simp only [DD9] at h_3
     refine w2_skip ?_
     refine hK_26 _ _ ?_
     refine w2_seq (fun K_27 hK_27 => ?_)
     refine w2_block (fun K_28 hK_28 => ?_)
     refine w2_sr (fun K_29 hK_29 => ?_)
     refine q_mv ((pm rfl).trans ta_4_32) ?_
     refine q_at (pe hs_4 rfl rfl) ?_
     refine x_nil (hK_29 _ _ ?_)
     refine w2_sr (fun K_30 hK_30 => ?_)
     refine q_mv (pe hs_4 rfl rfl) ?_
     refine q_mv (pe hs_4 rfl rfl) ?_
     refine op_val (d := 37) (v := .pointer (some ⟨g_4, K, none⟩)) rfl rfl (zero_off (o_ixA (k := 0) (i := K) (n := 31) (e := 23) rfl ((pm rfl).trans ta_4_5) (pe hs_4 rfl rfl) (by omega) (fun _ => by kernel_rfl) (fun _ => by kernel_rfl))) ?_
     refine q_v 38 (.int .u64 ((t9.getD (K) 0 : Nat) : Int)) (o_loadW rfl (pe hs_4 rfl rfl) BT (by rw [hml]; omega) rfl ⟨by kernel_rfl, by kernel_rfl⟩) ?_
     refine op_val (d := 39) (v := .pointer (some ⟨g_5, K, none⟩)) rfl rfl (zero_off (o_ixA (k := 0) (i := K) (n := 16) (e := 23) rfl ((pm rfl).trans ta_4_8) (pe hs_4 rfl rfl) (by omega) (fun _ => by kernel_rfl) (fun _ => by kernel_rfl))) ?_
     refine op_do rfl rfl (o_storeW rfl (pe hs_4 rfl rfl) (pe hs_4 rfl rfl) BO (by rw [hol]; omega) ⟨by kernel_rfl, by kernel_rfl⟩) (fun w_11 hR_7 => ?_)
     obtain ⟨hB_7, hX_2⟩ := hR_7
     replace BA := hX_2.blk BA ne_7
     replace BB := hX_2.blk BB ne_8
     replace BR := hX_2.blk BR ne_9
     replace BT := hX_2.blk BT ne_10
     have HB_7 := hX_2.below HBL HBL.size (fun k hk => hk ▸ ge_5)
     clear BO
     refine x_nil (hK_30 _ _ ?_)
     refine w2_sr (fun K_31 hK_31 => ?_)
     refine q_mv (pe hs_4 rfl rfl) ?_
     refine q_v 41 (.int .i64 ((K + 16 : Nat) : Int)) (o_add64 (m := K) (n := 16) rfl (pe hs_4 rfl rfl) rfl (by omega)) ?_
     refine q_v 42 (.bool (decide ((K + 16) < 31))) (o_lss (m := (K + 16)) (n := 31) rfl (pe hs_4 rfl rfl) rfl) ?_
     refine x_nil (hK_31 _ _ ?_)
     refine w2_split (pe hs_4 rfl rfl) (fun h_4 => ?_) (fun h_4 => ?_)
     ·simp only [DD9] at h_4
      have ho1 : ((outK t9 K).set (K) (t9.getD (K) 0)).getD (K) 0 = t9.getD K 0 := getD_set_eq (by omega)
      refine x_drawn 8 [fun _ v => v = .int .i64 ((K : Nat) : Int), fun _ v => v = .pointer (some ⟨g_5, K, none⟩), fun _ v => v = .int .u64 ((((outK t9 K).set (K) (t9.getD (K) 0)).getD (K) 0 : Nat) : Int), fun _ v => v = .int .i64 ((K : Nat) : Int), fun _ v => v = .int .i64 ((K + 16 : Nat) : Int), fun _ v => v = .pointer (some ⟨g_4, K + 16, none⟩), fun _ v => v = .int .u64 ((t9.getD (K + 16) 0 : Nat) : Int), fun _ v => v = .int .u64 ((38 * t9.getD (K + 16) 0 : Nat) : Int)] [43, 44, 45, 46, 47, 48, 49, 50] hs_4 hd_4 (by kernel_rfl) (by kernel_rfl) (by kernel_rfl) (by kernel_rfl) (by kernel_rfl) ⟨stLit, stLit, stLit, stLit, stLit, stLit, stLit, stLit, trivial⟩ ⟨(step_ok rfl (fun a' w' hb' hO hD => by
        have d_18 : a'.eval (.tmp 9) = .int .i64 ((K : Nat) : Int) := (hO 9 (by decide)).trans (pe hs_4 rfl rfl)
        exact .inl ⟨_, _, (o_move rfl d_18), rfl, Below.refl _ _⟩)),
(step_ok rfl (fun a' w' hb' hO hD => by
        have d_19 := (hO 8 (by decide)).trans ((pm rfl).trans ta_4_8)
        have d_20 : a'.eval (.tmp 43) = .int .i64 ((K : Nat) : Int) := hD 0 43 (by kernel_rfl) rfl
        exact .inl ⟨_, _, (zero_off (o_ixA (k := 0) (i := K) (n := 16) (e := 23) rfl d_19 d_20 (by omega) (fun _ => by kernel_rfl) (fun _ => by kernel_rfl))), rfl, Below.refl _ _⟩)),
(step_ok rfl (fun a' w' hb' hO hD => by
        have d_21 : a'.eval (.tmp 44) = .pointer (some ⟨g_5, K, none⟩) := hD 1 44 (by kernel_rfl) rfl
        exact .inl ⟨_, _, (o_loadW rfl d_21 (hB_7.nx hb') (by simp only [List.length_set, hol]; omega) rfl ⟨by kernel_rfl, by kernel_rfl⟩), rfl, Below.refl _ _⟩)),
(step_ok rfl (fun a' w' hb' hO hD => by
        have d_22 : a'.eval (.tmp 9) = .int .i64 ((K : Nat) : Int) := (hO 9 (by decide)).trans (pe hs_4 rfl rfl)
        exact .inl ⟨_, _, (o_move rfl d_22), rfl, Below.refl _ _⟩)),
(step_ok rfl (fun a' w' hb' hO hD => by
        have d_23 : a'.eval (.tmp 46) = .int .i64 ((K : Nat) : Int) := hD 3 46 (by kernel_rfl) rfl
        exact .inl ⟨_, _, (o_add64 (m := K) (n := 16) rfl d_23 rfl (by omega)), rfl, Below.refl _ _⟩)),
(step_ok rfl (fun a' w' hb' hO hD => by
        have d_24 := (hO 5 (by decide)).trans ((pm rfl).trans ta_4_5)
        have d_25 : a'.eval (.tmp 47) = .int .i64 ((K + 16 : Nat) : Int) := hD 4 47 (by kernel_rfl) rfl
        exact .inl ⟨_, _, (zero_off (o_ixA (k := 0) (i := K + 16) (n := 31) (e := 23) rfl d_24 d_25 (by omega) (fun _ => by kernel_rfl) (fun _ => by kernel_rfl))), rfl, Below.refl _ _⟩)),
(step_ok rfl (fun a' w' hb' hO hD => by
        have d_26 : a'.eval (.tmp 48) = .pointer (some ⟨g_4, K + 16, none⟩) := hD 5 48 (by kernel_rfl) rfl
        exact .inl ⟨_, _, (o_loadW rfl d_26 (BT.nx hb') (by rw [hml]; omega) rfl ⟨by kernel_rfl, by kernel_rfl⟩), rfl, Below.refl _ _⟩)),
(step_ok rfl (fun a' w' hb' hO hD => by
        have d_27 : a'.eval (.tmp 49) = .int .u64 ((t9.getD (K + 16) 0 : Nat) : Int) := hD 6 49 (by kernel_rfl) rfl
        have e0 : (.int .u64 ((38 * (t9.getD (K + 16) 0) % 18446744073709551616 : Nat) : Int) : Value) = .int .u64 ((38 * t9.getD (K + 16) 0 : Nat) : Int) := (by rw [Nat.mod_eq_of_lt (by omega)])
        exact .inl ⟨_, _, (o_mulU (m := 38) (n := (t9.getD (K + 16) 0)) (38 * (t9.getD (K + 16) 0) % 18446744073709551616) rfl rfl d_27 (by rw [IntKind.wrap_u64]; simp)), e0, Below.refl _ _⟩)), trivial⟩ (fun a_5 w_12 hs_5 hd_5 hb_7 hO_2 hV_2 => ?_)
      have ta_5_0 := (hO_2 0 (by decide)).trans ((pm rfl).trans ta_4_0)
      have ta_5_1 := (hO_2 1 (by decide)).trans ((pm rfl).trans ta_4_1)
      have ta_5_2 := (hO_2 2 (by decide)).trans ((pm rfl).trans ta_4_2)
      have ta_5_3 := (hO_2 3 (by decide)).trans ((pm rfl).trans ta_4_3)
      have ta_5_4 := (hO_2 4 (by decide)).trans ((pm rfl).trans ta_4_4)
      have ta_5_5 := (hO_2 5 (by decide)).trans ((pm rfl).trans ta_4_5)
      have ta_5_10 := (hO_2 10 (by decide)).trans ((pm rfl).trans ta_4_10)
      have ta_5_11 := (hO_2 11 (by decide)).trans ((pm rfl).trans ta_4_11)
      have ta_5_8 := (hO_2 8 (by decide)).trans ((pm rfl).trans ta_4_8)
      have ta_5_32 := (hO_2 32 (by decide)).trans ((pm rfl).trans ta_4_32)
      clear ta_4_0 ta_4_1 ta_4_2 ta_4_3 ta_4_4 ta_4_5 ta_4_10 ta_4_11 ta_4_8 ta_4_32 hd_4
      replace BA := BA.nx hb_7
      replace BB := BB.nx hb_7
      replace BR := BR.nx hb_7
      replace BT := BT.nx hb_7
      replace hB_7 := hB_7.nx hb_7
      have HB_8 := below_from HB_7 hb_7
      have ta_5_43 : a_5.eval (.tmp 43) = .int .i64 ((K : Nat) : Int) := hV_2 0 43 rfl rfl
      have ta_5_45 : a_5.eval (.tmp 45) = .int .u64 ((((outK t9 K).set (K) (t9.getD (K) 0)).getD (K) 0 : Nat) : Int) := hV_2 2 45 rfl rfl
      have ta_5_50 : a_5.eval (.tmp 50) = .int .u64 ((38 * t9.getD (K + 16) 0 : Nat) : Int) := hV_2 7 50 rfl rfl
      clear hV_2 hO_2
      simp only [List.drop_succ_cons, List.drop_zero]
      refine q_v 51 (.int .u64 (((((outK t9 K).set (K) (t9.getD (K) 0)).getD (K) 0) + (38 * t9.getD (K + 16) 0) : Nat) : Int)) (o_addU (m := (((outK t9 K).set (K) (t9.getD (K) 0)).getD (K) 0)) (n := (38 * t9.getD (K + 16) 0)) ((((outK t9 K).set (K) (t9.getD (K) 0)).getD (K) 0) + (38 * t9.getD (K + 16) 0)) rfl ((pm rfl).trans ta_5_45) ((pm rfl).trans ta_5_50) (by rw [IntKind.wrap_u64]; omega)) ?_
      refine op_val (d := 52) (v := .pointer (some ⟨g_5, K, none⟩)) rfl rfl (zero_off (o_ixA (k := 0) (i := K) (n := 16) (e := 23) rfl ((pm rfl).trans ta_5_8) ((pm rfl).trans ta_5_43) (by omega) (fun _ => by kernel_rfl) (fun _ => by kernel_rfl))) ?_
      refine op_do rfl rfl (o_storeW rfl (pe hs_5 rfl rfl) (pe hs_5 rfl rfl) hB_7 (by simp only [List.length_set, hol]; omega) ⟨by kernel_rfl, by kernel_rfl⟩) (fun w_13 hR_8 => ?_)
      obtain ⟨hB_8, hX_3⟩ := hR_8
      replace BA := hX_3.blk BA ne_7
      replace BB := hX_3.blk BB ne_8
      replace BR := hX_3.blk BR ne_9
      replace BT := hX_3.blk BT ne_10
      have HB_9 := hX_3.below HB_8 HB_8.size (fun k hk => hk ▸ ge_5)
      clear hB_7
      refine x_nil (hK_28 _ _ ?_)
      refine hK_27 _ _ ?_
      refine x_region (by kernel_rfl) ?_
      refine q_v 53 (.int .i64 ((K + 1 : Nat) : Int)) (o_add64 (m := K) (n := 1) rfl ((pm rfl).trans ta_5_32) rfl (by omega)) ?_
      refine q_mv (pe hs_5 rfl rfl) ?_
      refine x_nil ?_
      refine hK_24 _ _ _ ⟨K + 1, rfl, (by rw [putsR_size]; exact hs_5), (by rw [putsR_defers]; exact hd_5), ((pm rfl).trans ta_5_0), ((pm rfl).trans ta_5_1), ((pm rfl).trans ta_5_2), ((pm rfl).trans ta_5_3), ((pm rfl).trans ta_5_4), ((pm rfl).trans ta_5_5), ((pm rfl).trans ta_5_8), ((pm rfl).trans ta_5_10), ((pm rfl).trans ta_5_11), (pe hs_5 rfl rfl), (by omega), BA, BB, BR, BT, (by rw [outK, if_pos (by omega)]; exact hB_8), HB_9⟩ ?_
      omega
     ·simp only [DD9] at h_4
      refine w2_skip ?_
      refine hK_28 _ _ ?_
      refine hK_27 _ _ ?_
      refine x_region (by kernel_rfl) ?_
      refine q_v 53 (.int .i64 ((K + 1 : Nat) : Int)) (o_add64 (m := K) (n := 1) rfl ((pm rfl).trans ta_4_32) rfl (by omega)) ?_
      refine q_mv (pe hs_4 rfl rfl) ?_
      refine x_nil ?_
      refine hK_24 _ _ _ ⟨K + 1, rfl, (by rw [putsR_size]; exact hs_4), (by rw [putsR_defers]; exact hd_4), ((pm rfl).trans ta_4_0), ((pm rfl).trans ta_4_1), ((pm rfl).trans ta_4_2), ((pm rfl).trans ta_4_3), ((pm rfl).trans ta_4_4), ((pm rfl).trans ta_4_5), ((pm rfl).trans ta_4_8), ((pm rfl).trans ta_4_10), ((pm rfl).trans ta_4_11), (pe hs_4 rfl rfl), (by omega), BA, BB, BR, BT, (by rw [outK, if_neg (by omega)]; exact hB_7), HB_7⟩ ?_
      omega
    ·simp only [DD9] at h_3
     obtain rfl : K = 16 := by omega
     refine w2_exit ?_
     refine thn_exit ?_
     refine thn_exit ?_
     refine exb_hit ?_
     refine hK_23 _ _ ?_
     refine hK_21 _ _ ?_
     refine w2_seq (fun K_32 hK_32 => ?_)
     have hl9 : (outK t9 16).length = 16 := hol
     have hM9 : ∀ j, (outK t9 16).getD j 0 ≤ 65535 * 17592186044416 := fun j => Nat.le_trans (outK_le hml hmM 16 j (Nat.le_refl _)) (by decide)
     refine x_region (by kernel_rfl) ?_
     refine q_v 54 (.agg (iws .u64 (outK t9 16)).toArray) (o_loadI rfl ((pm rfl).trans ta_4_8) BO (by rw [hl9]; exact ⟨by kernel_rfl, by kernel_rfl⟩)) ?_
     refine q_ca (vs := #[.agg (iws .u64 (outK t9 16)).toArray]) Try.func33 (args1 (pe hs_4 rfl rfl)) (least_any _ hl9 hM9) (fun e_1 w_14 hR_9 => ?_)
     obtain ⟨rfl, hb_9⟩ := hR_9
     replace BA := BA.nx hb_9
     replace BB := BB.nx hb_9
     replace BR := BR.nx hb_9
     replace BT := BT.nx hb_9
     replace BO := BO.nx hb_9
     have HB_10 := below_from HBL hb_9
     refine ⟨_, rfl, ?_⟩
     refine op_do rfl rfl (o_storeI rfl ((pm rfl).trans ta_4_4) (pe hs_4 rfl rfl) BR (by rw [(digN_length _)]; exact ⟨by kernel_rfl, by kernel_rfl⟩) (by rw [digN_length]; simp [iws])) (fun w_15 hR_10 => ?_)
     obtain ⟨hB_9, hX_4⟩ := hR_10
     replace BA := hX_4.blk BA ne_2
     replace BB := hX_4.blk BB ne_3
     replace BT := hX_4.blk BT (Ne.symm ne_6)
     replace BO := hX_4.blk BO (Ne.symm ne_9)
     have HB_11 := hX_4.below HB_10 HB_10.size (fun k hk => hk ▸ ge_3)
     clear BR
     refine x_nil (hK_32 _ _ ?_)
     refine w2_ret ?_
     refine retC rfl hd_4 ((pm rfl).trans ta_4_4) (loadI hB_9 (by rw [(digN_length _)]; exact ⟨by kernel_rfl, by kernel_rfl⟩)) ?_
     exact ⟨by rw [ht9, mul_dg], HB_11⟩
end Go.Proofs.Ytikjcikedbcfmaa
