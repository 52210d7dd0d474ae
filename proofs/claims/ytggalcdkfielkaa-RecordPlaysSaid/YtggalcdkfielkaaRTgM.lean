/-
 OpsZ · RTag · RAead, IN ONE TEXT.
-/
import Derived.Test.YtggalcdkfielkaaOps3
import Derived.Test.YtggalcdkfielkaaRWdM
import Derived.Test.YtggalcdkfielkaaRMth
import Derived.Test.YtggalcdkfielkaaZero
import Derived.Test.YtggalcdkfielkaaOps4
import Derived.Test.YtggalcdkfielkaaMem9
import Derived.Test.YtggalcdkfielkaaOpsM
/-
 OPERATIONS on whole numbers that may be below nought.
-/
namespace Go.Proofs.Ytggalcdkfielkaa
open Go.RowKit
set_option linter.unusedVariables false
set_option linter.unusedSimpArgs false
section
variable {o : Oper} {ev : Operand → Value} {w : World} {x y z : Operand} {T U : TypeId} {m n : Int}
end
end Go.Proofs.Ytggalcdkfielkaa
/-
 WALKS: the reference's Poly1305: carry, times, whole, Tag.
-/
namespace Go.Proofs.Ytggalcdkfielkaa
open Go.RowKit
set_option linter.unusedVariables false
set_option linter.unusedSimpArgs false
set_option maxRecDepth 100000
attribute [local irreducible] wpList wpListIn putsR

theorem and_m4 (x : Nat) : x &&& 3 = x % 4 := Nat.and_two_pow_sub_one_eq_mod x 2
theorem and_m8 (x : Nat) : x &&& 255 = x % 256 := Nat.and_two_pow_sub_one_eq_mod x 8
set_option maxHeartbeats 1000000 in
theorem carryW_any {xs : List Nat} (w : World) (hl : xs.length = 17) (hM : ∀ j, xs.getD j 0 ≤ 255 * 4294967296) :
  Calls Try.prog 89 #[.agg (iws .u64 (xs)).toArray] w fun e w' => e = .returned (.agg (iws .u64 (dgP (car2 (valB 256 xs)))).toArray) ∧ Below w.heap.size w w' := by
 refine x_enter 38 Try.func89 rfl rfl (fun a hs hd ha0 => ?_)
 have t0 : a.eval (.tmp 0) = .agg (iws .u64 (xs)).toArray := ha0 0 _ rfl
 clear ha0
 refine w2_sr (fun K_1 hK_1 => ?_)
 refine op_ex (d := 1) rfl rfl (o_boxI rfl ((pm rfl).trans t0)) (fun v_1 w_1 hR_1 => ?_)
 obtain ⟨g_1, rfl, hle_1, hB_1, hb_1⟩ := hR_1
 have ge_1 : w.heap.size ≤ g_1 := hle_1
 refine op_ex (d := 2) rfl rfl (o_alloc (zs := (iws .u64 (List.replicate 17 0)).toArray) rfl (fun _ => by kernel_rfl)) (fun v_2 w_2 hR_2 => ?_)
 obtain ⟨g_2, rfl, hle_2, hB_2, hb_2⟩ := hR_2
 have ne_1 : g_1 ≠ g_2 := Nat.ne_of_lt (Nat.lt_of_lt_of_le hB_1.lt hle_2)
 have ge_2 : w.heap.size ≤ g_2 := Nat.le_trans hb_1.size hle_2
 replace hB_1 := hB_1.nx hb_2
 have HB_1 := below_from hb_1 hb_2
 refine x_nil (hK_1 _ _ ?_)
 refine w2_seq (fun K_2 hK_2 => ?_)
 refine w2_sr (fun K_3 hK_3 => ?_)
 refine q_v 5 (.int .i64 ((0 : Nat) : Int)) (o_move rfl rfl) ?_
 refine x_nil (hK_3 _ _ ?_)
 refine w2_block (fun K_4 hK_4 => ?_)
 refine x_loop (fun nn aa ww => ∃ (R : Nat), nn = 3 - R ∧ aa.tmps.size = 38 ∧ aa.defers = [] ∧ aa.eval (.tmp 0) = .agg (iws .u64 (xs)).toArray ∧ aa.eval (.tmp 1) = .pointer (some ⟨g_1, 0, none⟩) ∧ aa.eval (.tmp 2) = .pointer (some ⟨g_2, 0, none⟩) ∧ aa.eval (.tmp 5) = .int .i64 ((R : Nat) : Int) ∧ R ≤ 3 ∧ Blk ww g_1 (iws .u64 (rndP xs R)).toArray 106 ∧ Blk ww g_2 (iws .u64 (List.replicate 17 0)).toArray 106 ∧ Below w.heap.size w ww) (3) ?_ ?_
 ·exact ⟨0, rfl, (by rw [putsR_size]; exact hs), (by rw [putsR_defers]; exact hd), ((pm rfl).trans t0), (pe hs rfl rfl), (pe hs rfl rfl), (pe hs rfl rfl), by omega, hB_1, hB_2, HB_1⟩
 ·skip
  clear t0 hd hB_1 hB_2 HB_1
  rintro nna_1 a_1 w_3 ⟨R, hm_1, hs_1, hd_1, ta_1_0, ta_1_1, ta_1_2, ta_1_5, hR3, BA, BR, HBL⟩ K_5 hK_5
  subst hm_1
  obtain ⟨hrl, hrM⟩ := rndP_ok hl hM R hR3
  refine w2_sr (fun K_6 hK_6 => ?_)
  refine q_v 6 (.bool (decide (R < 3))) (o_lss (m := R) (n := 3) rfl ((pm rfl).trans ta_1_5) rfl) ?_
  refine x_nil (hK_6 _ _ ?_)
  refine w2_seq (fun K_7 hK_7 => ?_)
  refine w2_split (pe hs_1 rfl rfl) (fun h_1 => ?_) (fun h_1 => ?_)
  ·simp only [DD9] at h_1
   refine w2_skip ?_
   refine hK_7 _ _ ?_
   refine w2_seq (fun K_8 hK_8 => ?_)
   refine w2_block (fun K_9 hK_9 => ?_)
   refine w2_sr (fun K_10 hK_10 => ?_)
   refine q_as (.int .u64 ((0 : Nat) : Int)) rfl ?_
   refine x_nil (hK_10 _ _ ?_)
   refine w2_seq (fun K_11 hK_11 => ?_)
   refine w2_sr (fun K_12 hK_12 => ?_)
   refine q_v 7 (.int .i64 ((0 : Nat) : Int)) (o_move rfl rfl) ?_
   refine x_nil (hK_12 _ _ ?_)
   refine w2_block (fun K_13 hK_13 => ?_)
   refine x_loop (fun nn aa ww => ∃ (K : Nat), nn = 16 - K ∧ aa.tmps.size = 38 ∧ aa.defers = [] ∧ aa.eval (.tmp 0) = .agg (iws .u64 (xs)).toArray ∧ aa.eval (.tmp 1) = .pointer (some ⟨g_1, 0, none⟩) ∧ aa.eval (.tmp 2) = .pointer (some ⟨g_2, 0, none⟩) ∧ aa.eval (.tmp 3) = .int .u64 (((ripK (rndP xs R) K).2 : Nat) : Int) ∧ aa.eval (.tmp 5) = .int .i64 ((R : Nat) : Int) ∧ aa.eval (.tmp 6) = .bool (decide (R < 3)) ∧ aa.eval (.tmp 7) = .int .i64 ((K : Nat) : Int) ∧ K ≤ 16 ∧ Blk ww g_1 (iws .u64 ((ripK (rndP xs R) K).1)).toArray 106 ∧ Blk ww g_2 (iws .u64 (List.replicate 17 0)).toArray 106 ∧ Below w.heap.size w ww) (16) ?_ ?_
   ·exact ⟨0, rfl, (by rw [putsR_size]; exact hs_1), (by rw [putsR_defers]; exact hd_1), ((pm rfl).trans ta_1_0), ((pm rfl).trans ta_1_1), ((pm rfl).trans ta_1_2), (pe hs_1 rfl rfl), ((pm rfl).trans ta_1_5), (pe hs_1 rfl rfl), (pe hs_1 rfl rfl), by omega, BA, BR, HBL⟩
   ·skip
    clear ta_1_0 ta_1_1 ta_1_2 ta_1_5 hd_1 BA BR HBL
    rintro nna_2 a_2 w_4 ⟨K, hm_2, hs_2, hd_2, ta_2_0, ta_2_1, ta_2_2, ta_2_3, ta_2_5, ta_2_6, ta_2_7, hK, BA, BR, HBL⟩ K_14 hK_14
    subst hm_2
    have hcl : (ripK (rndP xs R) K).1.length = 17 := (ripK_length _ K).trans hrl
    have hcc := ripK_c hrM K
    have hca := ripK_above (rndP xs R) K K (Nat.le_refl _)
    have hcm := hrM K
    refine w2_sr (fun K_15 hK_15 => ?_)
    refine q_v 8 (.bool (decide (K < 16))) (o_lss (m := K) (n := 16) rfl ((pm rfl).trans ta_2_7) rfl) ?_
    refine x_nil (hK_15 _ _ ?_)
    refine w2_seq (fun K_16 hK_16 => ?_)
    refine w2_split (pe hs_2 rfl rfl) (fun h_2 => ?_) (fun h_2 => ?_)
    ·simp only [DD9] at h_2
     refine w2_skip ?_
     refine hK_16 _ _ ?_
     refine w2_seq (fun K_17 hK_17 => ?_)
     refine w2_block (fun K_18 hK_18 => ?_)
     refine w2_sr (fun K_19 hK_19 => ?_)
     refine q_mv ((pm rfl).trans ta_2_7) ?_
     refine q_at (pe hs_2 rfl rfl) ?_
     refine x_nil (hK_19 _ _ ?_)
     refine w2_sr (fun K_20 hK_20 => ?_)
     refine q_mv ((pm rfl).trans ta_2_3) ?_
     refine q_mv (pe hs_2 rfl rfl) ?_
     refine op_val (d := 12) (v := .pointer (some ⟨g_1, K, none⟩)) rfl rfl (zero_off (o_ixA (k := 0) (i := K) (n := 17) (e := 23) rfl ((pm rfl).trans ta_2_1) (pe hs_2 rfl rfl) (by omega) (fun _ => by kernel_rfl) (fun _ => by kernel_rfl))) ?_
     refine q_v 13 (.int .u64 ((((ripK (rndP xs R) K).1).getD (K) 0 : Nat) : Int)) (o_loadW rfl (pe hs_2 rfl rfl) BA (by rw [hcl]; omega) rfl ⟨by kernel_rfl, by kernel_rfl⟩) ?_
     refine q_v 14 (.int .u64 ((((ripK (rndP xs R) K).2) + (((ripK (rndP xs R) K).1).getD (K) 0) : Nat) : Int)) (o_addU (m := ((ripK (rndP xs R) K).2)) (n := (((ripK (rndP xs R) K).1).getD (K) 0)) (((ripK (rndP xs R) K).2) + (((ripK (rndP xs R) K).1).getD (K) 0)) rfl (pe hs_2 rfl rfl) (pe hs_2 rfl rfl) (by rw [IntKind.wrap_u64]; omega)) ?_
     refine q_at (pe hs_2 rfl rfl) ?_
     refine x_nil (hK_20 _ _ ?_)
     refine w2_sr (fun K_21 hK_21 => ?_)
     refine q_mv (pe hs_2 rfl rfl) ?_
     refine q_mv (pe hs_2 rfl rfl) ?_
     refine q_v 17 (.int .u64 ((((ripK (rndP xs R) K).2 + (ripK (rndP xs R) K).1.getD (K) 0) % 256 : Nat) : Int)) (o_eq (o_bits (m := (((ripK (rndP xs R) K).2) + (((ripK (rndP xs R) K).1).getD (K) 0))) (n := 255) ((((ripK (rndP xs R) K).2) + (((ripK (rndP xs R) K).1).getD (K) 0)) &&& 255) rfl (pe hs_2 rfl rfl) rfl (by decide) (u64_and_nat _ _ (by omega) (by omega))) (by rw [and_m8])) ?_
     refine op_val (d := 18) (v := .pointer (some ⟨g_1, K, none⟩)) rfl rfl (zero_off (o_ixA (k := 0) (i := K) (n := 17) (e := 23) rfl ((pm rfl).trans ta_2_1) (pe hs_2 rfl rfl) (by omega) (fun _ => by kernel_rfl) (fun _ => by kernel_rfl))) ?_
     refine op_do rfl rfl (o_storeW rfl (pe hs_2 rfl rfl) (pe hs_2 rfl rfl) BA (by rw [hcl]; omega) ⟨by kernel_rfl, by kernel_rfl⟩) (fun w_5 hR_3 => ?_)
     obtain ⟨hB_3, hX_1⟩ := hR_3
     replace BR := hX_1.blk BR (Ne.symm ne_1)
     have HB_2 := hX_1.below HBL HBL.size (fun k hk => hk ▸ ge_1)
     clear BA
     refine x_nil (hK_21 _ _ ?_)
     refine x_region (by kernel_rfl) ?_
     refine q_mv (pe hs_2 rfl rfl) ?_
     refine q_v 20 (.int .u64 ((((ripK (rndP xs R) K).2 + (ripK (rndP xs R) K).1.getD (K) 0) / 256 : Nat) : Int)) (o_eq (o_shr (m := (((ripK (rndP xs R) K).2) + (((ripK (rndP xs R) K).1).getD (K) 0))) (n := 8) rfl (pe hs_2 rfl rfl) rfl (by decide)) rfl) ?_
     refine q_at (pe hs_2 rfl rfl) ?_
     refine x_nil (hK_18 _ _ ?_)
     refine hK_17 _ _ ?_
     refine x_region (by kernel_rfl) ?_
     refine q_v 21 (.int .i64 ((K + 1 : Nat) : Int)) (o_add64 (m := K) (n := 1) rfl ((pm rfl).trans ta_2_7) rfl (by omega)) ?_
     refine q_mv (pe hs_2 rfl rfl) ?_
     refine x_nil ?_
     refine hK_14 _ _ _ ⟨K + 1, rfl, (by rw [putsR_size]; exact hs_2), (by rw [putsR_defers]; exact hd_2), ((pm rfl).trans ta_2_0), ((pm rfl).trans ta_2_1), ((pm rfl).trans ta_2_2), (pe hs_2 rfl rfl), ((pm rfl).trans ta_2_5), ((pm rfl).trans ta_2_6), (pe hs_2 rfl rfl), (by omega), hB_3, BR, HB_2⟩ ?_
     omega
    ·simp only [DD9] at h_2
     obtain rfl : K = 16 := by omega
     have htp := topP_le hrM
     refine w2_exit ?_
     refine thn_exit ?_
     refine thn_exit ?_
     refine exb_hit ?_
     refine hK_13 _ _ ?_
     refine hK_11 _ _ ?_
     refine w2_sr (fun K_22 hK_22 => ?_)
     refine q_mv ((pm rfl).trans ta_2_3) ?_
     refine op_val (d := 23) (v := .pointer (some ⟨g_1, 16, none⟩)) rfl rfl (zero_off (o_ixA (k := 0) (i := 16) (n := 17) (e := 23) rfl ((pm rfl).trans ta_2_1) rfl (by omega) (fun _ => by kernel_rfl) (fun _ => by kernel_rfl))) ?_
     refine q_v 24 (.int .u64 ((((ripK (rndP xs R) 16).1).getD (16) 0 : Nat) : Int)) (o_loadW rfl (pe hs_2 rfl rfl) BA (by rw [hcl]; omega) rfl ⟨by kernel_rfl, by kernel_rfl⟩) ?_
     refine q_v 25 (.int .u64 ((topP (rndP xs R) : Nat) : Int)) (o_eq (o_addU (m := ((ripK (rndP xs R) 16).2)) (n := (((ripK (rndP xs R) 16).1).getD (16) 0)) (((ripK (rndP xs R) 16).2) + (((ripK (rndP xs R) 16).1).getD (16) 0)) rfl (pe hs_2 rfl rfl) (pe hs_2 rfl rfl) (by rw [IntKind.wrap_u64]; omega)) rfl) ?_
     refine q_at (pe hs_2 rfl rfl) ?_
     refine x_nil (hK_22 _ _ ?_)
     refine w2_sr (fun K_23 hK_23 => ?_)
     refine q_mv (pe hs_2 rfl rfl) ?_
     refine q_v 27 (.int .u64 ((topP (rndP xs R) % 4 : Nat) : Int)) (o_eq (o_bits (m := (topP (rndP xs R))) (n := 3) ((topP (rndP xs R)) &&& 3) rfl (pe hs_2 rfl rfl) rfl (by decide) (u64_and_nat _ _ (by omega) (by omega))) (by rw [and_m4])) ?_
     refine op_val (d := 28) (v := .pointer (some ⟨g_1, 16, none⟩)) rfl rfl (zero_off (o_ixA (k := 0) (i := 16) (n := 17) (e := 23) rfl ((pm rfl).trans ta_2_1) rfl (by omega) (fun _ => by kernel_rfl) (fun _ => by kernel_rfl))) ?_
     refine op_do rfl rfl (o_storeW rfl (pe hs_2 rfl rfl) (pe hs_2 rfl rfl) BA (by rw [hcl]; omega) ⟨by kernel_rfl, by kernel_rfl⟩) (fun w_6 hR_4 => ?_)
     obtain ⟨hB_4, hX_2⟩ := hR_4
     replace BR := hX_2.blk BR (Ne.symm ne_1)
     have HB_3 := hX_2.below HBL HBL.size (fun k hk => hk ▸ ge_1)
     clear BA
     refine x_nil (hK_23 _ _ ?_)
     have h130 : ((ripK (rndP xs R) 16).1.set (16) (topP (rndP xs R) % 4)).getD (0) 0 < 256 := by rw [getDB_ne (by decide)]; exact ripK_below (rndP xs R) 16 0 (by decide) (by omega)
     refine x_region (by kernel_rfl) ?_
     refine op_val (d := 29) (v := .pointer (some ⟨g_1, 0, none⟩)) rfl rfl (zero_off (o_ixA (k := 0) (i := 0) (n := 17) (e := 23) rfl ((pm rfl).trans ta_2_1) rfl (by omega) (fun _ => by kernel_rfl) (fun _ => by kernel_rfl))) ?_
     refine q_v 30 (.int .u64 (((((ripK (rndP xs R) 16).1).set (16) (topP (rndP xs R) % 4)).getD (0) 0 : Nat) : Int)) (o_loadW rfl (pe hs_2 rfl rfl) hB_4 (by simp only [List.length_set, hcl]; omega) rfl ⟨by kernel_rfl, by kernel_rfl⟩) ?_
     refine q_mv (pe hs_2 rfl rfl) ?_
     refine q_v 32 (.int .u64 ((topP (rndP xs R) / 4 : Nat) : Int)) (o_eq (o_shr (m := (topP (rndP xs R))) (n := 2) rfl (pe hs_2 rfl rfl) rfl (by decide)) rfl) ?_
     refine q_v 33 (.int .u64 ((5 * (topP (rndP xs R) / 4) : Nat) : Int)) (o_eq (o_mulU (m := 5) (n := (topP (rndP xs R) / 4)) (5 * (topP (rndP xs R) / 4) % 18446744073709551616) rfl rfl (pe hs_2 rfl rfl) (by rw [IntKind.wrap_u64]; simp)) (by rw [Nat.mod_eq_of_lt (by omega)])) ?_
     refine q_v 34 (.int .u64 ((((((ripK (rndP xs R) 16).1).set (16) (topP (rndP xs R) % 4)).getD (0) 0) + (5 * (topP (rndP xs R) / 4)) : Nat) : Int)) (o_addU (m := ((((ripK (rndP xs R) 16).1).set (16) (topP (rndP xs R) % 4)).getD (0) 0)) (n := (5 * (topP (rndP xs R) / 4))) (((((ripK (rndP xs R) 16).1).set (16) (topP (rndP xs R) % 4)).getD (0) 0) + (5 * (topP (rndP xs R) / 4))) rfl (pe hs_2 rfl rfl) (pe hs_2 rfl rfl) (by rw [IntKind.wrap_u64]; omega)) ?_
     refine op_val (d := 35) (v := .pointer (some ⟨g_1, 0, none⟩)) rfl rfl (zero_off (o_ixA (k := 0) (i := 0) (n := 17) (e := 23) rfl ((pm rfl).trans ta_2_1) rfl (by omega) (fun _ => by kernel_rfl) (fun _ => by kernel_rfl))) ?_
     refine op_do rfl rfl (o_storeW rfl (pe hs_2 rfl rfl) (pe hs_2 rfl rfl) hB_4 (by simp only [List.length_set, hcl]; omega) ⟨by kernel_rfl, by kernel_rfl⟩) (fun w_7 hR_5 => ?_)
     obtain ⟨hB_5, hX_3⟩ := hR_5
     replace BR := hX_3.blk BR (Ne.symm ne_1)
     have HB_4 := hX_3.below HB_3 HB_3.size (fun k hk => hk ▸ ge_1)
     clear hB_4
     refine x_nil (hK_9 _ _ ?_)
     refine hK_8 _ _ ?_
     refine x_region (by kernel_rfl) ?_
     refine q_v 36 (.int .i64 ((R + 1 : Nat) : Int)) (o_add64 (m := R) (n := 1) rfl ((pm rfl).trans ta_2_5) rfl (by omega)) ?_
     refine q_mv (pe hs_2 rfl rfl) ?_
     refine x_nil ?_
     refine hK_5 _ _ _ ⟨R + 1, rfl, (by rw [putsR_size]; exact hs_2), (by rw [putsR_defers]; exact hd_2), ((pm rfl).trans ta_2_0), ((pm rfl).trans ta_2_1), ((pm rfl).trans ta_2_2), (pe hs_2 rfl rfl), (by omega), hB_5, BR, HB_4⟩ ?_
     omega
  ·simp only [DD9] at h_1
   obtain rfl : R = 3 := by omega
   refine w2_exit ?_
   refine thn_exit ?_
   refine thn_exit ?_
   refine exb_hit ?_
   refine hK_4 _ _ ?_
   refine hK_2 _ _ ?_
   refine w2_sr (fun K_24 hK_24 => ?_)
   refine q_v 37 (.agg (iws .u64 (rndP xs 3)).toArray) (o_loadI rfl ((pm rfl).trans ta_1_1) BA (by rw [hrl]; exact ⟨by kernel_rfl, by kernel_rfl⟩)) ?_
   refine op_do rfl rfl (o_storeI rfl ((pm rfl).trans ta_1_2) (pe hs_1 rfl rfl) BR (by rw [hrl]; exact ⟨by kernel_rfl, by kernel_rfl⟩) (by rw [hrl]; simp [iws])) (fun w_8 hR_6 => ?_)
   obtain ⟨hB_6, hX_4⟩ := hR_6
   replace BA := hX_4.blk BA ne_1
   have HB_5 := hX_4.below HBL HBL.size (fun k hk => hk ▸ ge_2)
   clear BR
   refine x_nil (hK_24 _ _ ?_)
   refine w2_ret ?_
   refine retC rfl hd_1 ((pm rfl).trans ta_1_2) (loadI hB_6 (by rw [hrl]; exact ⟨by kernel_rfl, by kernel_rfl⟩)) ?_
   exact ⟨by rw [← (carry_val hl hM).1], HB_5⟩
theorem carryD_any {V : Nat} (w : World) (h : V < 1361129467683753853853498429727072845824) : Calls Try.prog 89 #[.agg (iws .u64 (dgP V)).toArray] w fun e w' => e = .returned (.agg (iws .u64 (dgP V)).toArray) ∧ Below w.heap.size w w' := by
 have h1 := carryW_any w (dgP_length V) (fun j => Nat.le_trans (dgP_le V j) (by decide))
 rw [valB_dgP h, car2_small h] at h1
 exact h1
set_option maxHeartbeats 1000000 in
theorem timesW_any {xa xb : List Nat} (w : World) (la : xa.length = 17) (lb : xb.length = 17) (ha255 : ∀ j, xa.getD j 0 ≤ 255) (hb255 : ∀ j, xb.getD j 0 ≤ 255) :
  Calls Try.prog 88 #[.agg (iws .u64 (xa)).toArray, .agg (iws .u64 (xb)).toArray] w fun e w' => e = .returned (.agg (iws .u64 (dgP (timP xa xb))).toArray) ∧ Below w.heap.size w w' := by
 refine x_enter 52 Try.func88 rfl rfl (fun a hs hd ha0 => ?_)
 have t0 : a.eval (.tmp 0) = .agg (iws .u64 (xa)).toArray := ha0 0 _ rfl
 have t1 : a.eval (.tmp 1) = .agg (iws .u64 (xb)).toArray := ha0 1 _ rfl
 clear ha0
 refine w2_sr (fun K_1 hK_1 => ?_)
 refine op_ex (d := 2) rfl rfl (o_boxI rfl ((pm rfl).trans t0)) (fun v_1 w_1 hR_1 => ?_)
 obtain ⟨g_1, rfl, hle_1, hB_1, hb_1⟩ := hR_1
 refine op_ex (d := 3) rfl rfl (o_boxI rfl ((pm rfl).trans t1)) (fun v_2 w_2 hR_2 => ?_)
 obtain ⟨g_2, rfl, hle_2, hB_2, hb_2⟩ := hR_2
 replace hB_1 := hB_1.nx hb_2
 have HB_1 := below_from hb_1 hb_2
 refine op_ex (d := 4) rfl rfl (o_alloc (zs := (iws .u64 (List.replicate 17 0)).toArray) rfl (fun _ => by kernel_rfl)) (fun v_3 w_3 hR_3 => ?_)
 obtain ⟨g_3, rfl, hle_3, hB_3, hb_3⟩ := hR_3
 have ne_2 : g_1 ≠ g_3 := Nat.ne_of_lt (Nat.lt_of_lt_of_le hB_1.lt hle_3)
 have ne_3 : g_2 ≠ g_3 := Nat.ne_of_lt (Nat.lt_of_lt_of_le hB_2.lt hle_3)
 have ge_3 : w.heap.size ≤ g_3 := Nat.le_trans HB_1.size hle_3
 replace hB_1 := hB_1.nx hb_3
 replace hB_2 := hB_2.nx hb_3
 have HB_2 := below_from HB_1 hb_3
 refine x_nil (hK_1 _ _ ?_)
 refine w2_sr (fun K_2 hK_2 => ?_)
 refine op_ex (d := 5) rfl rfl (o_alloc (zs := (iws .u64 (List.replicate 17 0)).toArray) rfl (fun _ => by kernel_rfl)) (fun v_4 w_4 hR_4 => ?_)
 obtain ⟨g_4, rfl, hle_4, hB_4, hb_4⟩ := hR_4
 have ne_4 : g_1 ≠ g_4 := Nat.ne_of_lt (Nat.lt_of_lt_of_le hB_1.lt hle_4)
 have ne_5 : g_2 ≠ g_4 := Nat.ne_of_lt (Nat.lt_of_lt_of_le hB_2.lt hle_4)
 have ne_6 : g_3 ≠ g_4 := Nat.ne_of_lt (Nat.lt_of_lt_of_le hB_3.lt hle_4)
 have ge_4 : w.heap.size ≤ g_4 := Nat.le_trans HB_2.size hle_4
 replace hB_1 := hB_1.nx hb_4
 replace hB_2 := hB_2.nx hb_4
 replace hB_3 := hB_3.nx hb_4
 have HB_3 := below_from HB_2 hb_4
 refine x_nil (hK_2 _ _ ?_)
 refine w2_seq (fun K_3 hK_3 => ?_)
 refine w2_sr (fun K_4 hK_4 => ?_)
 refine q_v 8 (.int .i64 ((0 : Nat) : Int)) (o_move rfl rfl) ?_
 refine x_nil (hK_4 _ _ ?_)
 refine w2_block (fun K_5 hK_5 => ?_)
 refine x_loop (fun nn aa ww => ∃ (I : Nat), nn = 17 - I ∧ aa.tmps.size = 52 ∧ aa.defers = [] ∧ aa.eval (.tmp 0) = .agg (iws .u64 (xa)).toArray ∧ aa.eval (.tmp 1) = .agg (iws .u64 (xb)).toArray ∧ aa.eval (.tmp 2) = .pointer (some ⟨g_1, 0, none⟩) ∧ aa.eval (.tmp 3) = .pointer (some ⟨g_2, 0, none⟩) ∧ aa.eval (.tmp 4) = .pointer (some ⟨g_3, 0, none⟩) ∧ aa.eval (.tmp 5) = .pointer (some ⟨g_4, 0, none⟩) ∧ aa.eval (.tmp 8) = .int .i64 ((I : Nat) : Int) ∧ I ≤ 17 ∧ Blk ww g_1 (iws .u64 (xa)).toArray 106 ∧ Blk ww g_2 (iws .u64 (xb)).toArray 106 ∧ Blk ww g_3 (iws .u64 (List.replicate 17 0)).toArray 106 ∧ Blk ww g_4 (iws .u64 ((tmI xa xb I))).toArray 106 ∧ Below w.heap.size w ww) (17) ?_ ?_
 ·exact ⟨0, rfl, (by rw [putsR_size]; exact hs), (by rw [putsR_defers]; exact hd), ((pm rfl).trans t0), ((pm rfl).trans t1), (pe hs rfl rfl), (pe hs rfl rfl), (pe hs rfl rfl), (pe hs rfl rfl), (pe hs rfl rfl), by omega, hB_1, hB_2, hB_3, hB_4, HB_3⟩
 ·skip
  clear t0 t1 hd hB_1 hB_2 hB_3 hB_4 HB_3
  rintro nna_1 a_1 w_5 ⟨I, hm_1, hs_1, hd_1, ta_1_0, ta_1_1, ta_1_2, ta_1_3, ta_1_4, ta_1_5, ta_1_8, hI, BA, BB, BR, BT, HBL⟩ K_6 hK_6
  subst hm_1
  have hml := tmI_length xa xb I
  have hmM := tmI_le ha255 hb255 I
  refine w2_sr (fun K_7 hK_7 => ?_)
  refine q_v 9 (.bool (decide (I < 17))) (o_lss (m := I) (n := 17) rfl ((pm rfl).trans ta_1_8) rfl) ?_
  refine x_nil (hK_7 _ _ ?_)
  refine w2_seq (fun K_8 hK_8 => ?_)
  refine w2_split (pe hs_1 rfl rfl) (fun h_1 => ?_) (fun h_1 => ?_)
  ·simp only [DD9] at h_1
   refine w2_skip ?_
   refine hK_8 _ _ ?_
   refine w2_seq (fun K_9 hK_9 => ?_)
   refine w2_block (fun K_10 hK_10 => ?_)
   refine w2_sr (fun K_11 hK_11 => ?_)
   refine q_mv ((pm rfl).trans ta_1_8) ?_
   refine q_at (pe hs_1 rfl rfl) ?_
   refine x_nil (hK_11 _ _ ?_)
   refine w2_sr (fun K_12 hK_12 => ?_)
   refine q_v 11 (.int .i64 ((0 : Nat) : Int)) (o_move rfl rfl) ?_
   refine x_nil (hK_12 _ _ ?_)
   refine w2_block (fun K_13 hK_13 => ?_)
   refine x_loop (fun nn aa ww => ∃ (J : Nat), nn = 17 - J ∧ aa.tmps.size = 52 ∧ aa.defers = [] ∧ aa.eval (.tmp 0) = .agg (iws .u64 (xa)).toArray ∧ aa.eval (.tmp 1) = .agg (iws .u64 (xb)).toArray ∧ aa.eval (.tmp 2) = .pointer (some ⟨g_1, 0, none⟩) ∧ aa.eval (.tmp 3) = .pointer (some ⟨g_2, 0, none⟩) ∧ aa.eval (.tmp 4) = .pointer (some ⟨g_3, 0, none⟩) ∧ aa.eval (.tmp 5) = .pointer (some ⟨g_4, 0, none⟩) ∧ aa.eval (.tmp 6) = .int .i64 ((I : Nat) : Int) ∧ aa.eval (.tmp 8) = .int .i64 ((I : Nat) : Int) ∧ aa.eval (.tmp 9) = .bool (decide (I < 17)) ∧ aa.eval (.tmp 10) = .int .i64 ((I : Nat) : Int) ∧ aa.eval (.tmp 11) = .int .i64 ((J : Nat) : Int) ∧ J ≤ 17 ∧ Blk ww g_1 (iws .u64 (xa)).toArray 106 ∧ Blk ww g_2 (iws .u64 (xb)).toArray 106 ∧ Blk ww g_3 (iws .u64 (List.replicate 17 0)).toArray 106 ∧ Blk ww g_4 (iws .u64 ((tmJ (tmI xa xb I) xb (xa.getD I 0) I J))).toArray 106 ∧ Below w.heap.size w ww) (17) ?_ ?_
   ·exact ⟨0, rfl, (by rw [putsR_size]; exact hs_1), (by rw [putsR_defers]; exact hd_1), ((pm rfl).trans ta_1_0), ((pm rfl).trans ta_1_1), ((pm rfl).trans ta_1_2), ((pm rfl).trans ta_1_3), ((pm rfl).trans ta_1_4), ((pm rfl).trans ta_1_5), (pe hs_1 rfl rfl), ((pm rfl).trans ta_1_8), (pe hs_1 rfl rfl), (pe hs_1 rfl rfl), (pe hs_1 rfl rfl), by omega, BA, BB, BR, BT, HBL⟩
   ·skip
    clear ta_1_0 ta_1_1 ta_1_2 ta_1_3 ta_1_4 ta_1_5 ta_1_8 hd_1 BA BB BR BT HBL
    rintro nna_2 a_2 w_6 ⟨J, hm_2, hs_2, hd_2, ta_2_0, ta_2_1, ta_2_2, ta_2_3, ta_2_4, ta_2_5, ta_2_6, ta_2_8, ta_2_9, ta_2_10, ta_2_11, hJ, BA, BB, BR, BT, HBL⟩ K_14 hK_14
    subst hm_2
    have hjl : (tmJ (tmI xa xb I) xb (xa.getD I 0) I J).length = 17 := (tmJ_length _ _ _ _ J).trans hml
    have hjM := tmJ_le (i := I) hmM hb255 (ha255 I) J (I + J)
    have hjN := tmJ_le (i := I) hmM hb255 (ha255 I) J (I + J - 17)
    have hxl := ha255 I
    have hyl := hb255 J
    have hxy := Nat.mul_le_mul hxl hyl
    have hxz := Nat.mul_le_mul (Nat.mul_le_mul_left 320 hxl) hyl
    refine w2_sr (fun K_15 hK_15 => ?_)
    refine q_v 12 (.bool (decide (J < 17))) (o_lss (m := J) (n := 17) rfl ((pm rfl).trans ta_2_11) rfl) ?_
    refine x_nil (hK_15 _ _ ?_)
    refine w2_seq (fun K_16 hK_16 => ?_)
    refine w2_split (pe hs_2 rfl rfl) (fun h_2 => ?_) (fun h_2 => ?_)
    ·simp only [DD9] at h_2
     refine w2_skip ?_
     refine hK_16 _ _ ?_
     refine w2_seq (fun K_17 hK_17 => ?_)
     refine w2_block (fun K_18 hK_18 => ?_)
     refine w2_sr (fun K_19 hK_19 => ?_)
     refine q_mv ((pm rfl).trans ta_2_11) ?_
     refine q_at (pe hs_2 rfl rfl) ?_
     refine x_nil (hK_19 _ _ ?_)
     refine w2_sr (fun K_20 hK_20 => ?_)
     refine q_mv ((pm rfl).trans ta_2_6) ?_
     refine q_mv (pe hs_2 rfl rfl) ?_
     refine q_v 16 (.int .i64 ((I + J : Nat) : Int)) (o_add64 (m := I) (n := J) rfl (pe hs_2 rfl rfl) (pe hs_2 rfl rfl) (by omega)) ?_
     refine q_v 17 (.bool (decide ((I + J) < 17))) (o_lss (m := (I + J)) (n := 17) rfl (pe hs_2 rfl rfl) rfl) ?_
     refine x_nil (hK_20 _ _ ?_)
     refine w2_split (pe hs_2 rfl rfl) (fun h_3 => ?_) (fun h_3 => ?_)
     ·simp only [DD9] at h_3
      refine x_drawn 12 [fun _ v => v = .int .i64 ((I : Nat) : Int), fun _ v => v = .int .i64 ((J : Nat) : Int), fun _ v => v = .int .i64 ((I + J : Nat) : Int), fun _ v => v = .pointer (some ⟨g_4, I + J, none⟩), fun _ v => v = .int .u64 ((((tmJ (tmI xa xb I) xb (xa.getD I 0) I J)).getD (I + J) 0 : Nat) : Int), fun _ v => v = .int .i64 ((I : Nat) : Int), fun _ v => v = .pointer (some ⟨g_1, I, none⟩), fun _ v => v = .int .u64 ((xa.getD (I) 0 : Nat) : Int), fun _ v => v = .int .i64 ((J : Nat) : Int), fun _ v => v = .pointer (some ⟨g_2, J, none⟩), fun _ v => v = .int .u64 ((xb.getD (J) 0 : Nat) : Int), fun _ v => v = .int .u64 ((xa.getD (I) 0 * xb.getD (J) 0 : Nat) : Int)] [18, 19, 20, 21, 22, 23, 24, 25, 26, 27, 28, 29] hs_2 hd_2 (by kernel_rfl) (by kernel_rfl) (by kernel_rfl) (by kernel_rfl) (by kernel_rfl) ⟨stLit, stLit, stLit, stLit, stLit, stLit, stLit, stLit, stLit, stLit, stLit, stLit, trivial⟩ ⟨(step_ok rfl (fun a' w' hb' hO hD => by
        have d_1 := (hO 6 (by decide)).trans ((pm rfl).trans ta_2_6)
        exact .inl ⟨_, _, (o_move rfl d_1), rfl, Below.refl _ _⟩)),
(step_ok rfl (fun a' w' hb' hO hD => by
        have d_2 : a'.eval (.tmp 7) = .int .i64 ((J : Nat) : Int) := (hO 7 (by decide)).trans (pe hs_2 rfl rfl)
        exact .inl ⟨_, _, (o_move rfl d_2), rfl, Below.refl _ _⟩)),
(step_ok rfl (fun a' w' hb' hO hD => by
        have d_3 : a'.eval (.tmp 18) = .int .i64 ((I : Nat) : Int) := hD 0 18 (by kernel_rfl) rfl
        have d_4 : a'.eval (.tmp 19) = .int .i64 ((J : Nat) : Int) := hD 1 19 (by kernel_rfl) rfl
        exact .inl ⟨_, _, (o_add64 (m := I) (n := J) rfl d_3 d_4 (by omega)), rfl, Below.refl _ _⟩)),
(step_ok rfl (fun a' w' hb' hO hD => by
        have d_5 := (hO 5 (by decide)).trans ((pm rfl).trans ta_2_5)
        have d_6 : a'.eval (.tmp 20) = .int .i64 ((I + J : Nat) : Int) := hD 2 20 (by kernel_rfl) rfl
        exact .inl ⟨_, _, (zero_off (o_ixA (k := 0) (i := I + J) (n := 17) (e := 23) rfl d_5 d_6 (by omega) (fun _ => by kernel_rfl) (fun _ => by kernel_rfl))), rfl, Below.refl _ _⟩)),
(step_ok rfl (fun a' w' hb' hO hD => by
        have d_7 : a'.eval (.tmp 21) = .pointer (some ⟨g_4, I + J, none⟩) := hD 3 21 (by kernel_rfl) rfl
        exact .inl ⟨_, _, (o_loadW rfl d_7 (BT.nx hb') (by rw [hjl]; omega) rfl ⟨by kernel_rfl, by kernel_rfl⟩), rfl, Below.refl _ _⟩)),
(step_ok rfl (fun a' w' hb' hO hD => by
        have d_8 := (hO 6 (by decide)).trans ((pm rfl).trans ta_2_6)
        exact .inl ⟨_, _, (o_move rfl d_8), rfl, Below.refl _ _⟩)),
(step_ok rfl (fun a' w' hb' hO hD => by
        have d_9 := (hO 2 (by decide)).trans ((pm rfl).trans ta_2_2)
        have d_10 : a'.eval (.tmp 23) = .int .i64 ((I : Nat) : Int) := hD 5 23 (by kernel_rfl) rfl
        exact .inl ⟨_, _, (zero_off (o_ixA (k := 0) (i := I) (n := 17) (e := 23) rfl d_9 d_10 (by omega) (fun _ => by kernel_rfl) (fun _ => by kernel_rfl))), rfl, Below.refl _ _⟩)),
(step_ok rfl (fun a' w' hb' hO hD => by
        have d_11 : a'.eval (.tmp 24) = .pointer (some ⟨g_1, I, none⟩) := hD 6 24 (by kernel_rfl) rfl
        exact .inl ⟨_, _, (o_loadW rfl d_11 (BA.nx hb') (by rw [la]; omega) rfl ⟨by kernel_rfl, by kernel_rfl⟩), rfl, Below.refl _ _⟩)),
(step_ok rfl (fun a' w' hb' hO hD => by
        have d_12 : a'.eval (.tmp 7) = .int .i64 ((J : Nat) : Int) := (hO 7 (by decide)).trans (pe hs_2 rfl rfl)
        exact .inl ⟨_, _, (o_move rfl d_12), rfl, Below.refl _ _⟩)),
(step_ok rfl (fun a' w' hb' hO hD => by
        have d_13 := (hO 3 (by decide)).trans ((pm rfl).trans ta_2_3)
        have d_14 : a'.eval (.tmp 26) = .int .i64 ((J : Nat) : Int) := hD 8 26 (by kernel_rfl) rfl
        exact .inl ⟨_, _, (zero_off (o_ixA (k := 0) (i := J) (n := 17) (e := 23) rfl d_13 d_14 (by omega) (fun _ => by kernel_rfl) (fun _ => by kernel_rfl))), rfl, Below.refl _ _⟩)),
(step_ok rfl (fun a' w' hb' hO hD => by
        have d_15 : a'.eval (.tmp 27) = .pointer (some ⟨g_2, J, none⟩) := hD 9 27 (by kernel_rfl) rfl
        exact .inl ⟨_, _, (o_loadW rfl d_15 (BB.nx hb') (by rw [lb]; omega) rfl ⟨by kernel_rfl, by kernel_rfl⟩), rfl, Below.refl _ _⟩)),
(step_ok rfl (fun a' w' hb' hO hD => by
        have d_16 : a'.eval (.tmp 25) = .int .u64 ((xa.getD (I) 0 : Nat) : Int) := hD 7 25 (by kernel_rfl) rfl
        have d_17 : a'.eval (.tmp 28) = .int .u64 ((xb.getD (J) 0 : Nat) : Int) := hD 10 28 (by kernel_rfl) rfl
        have e0 : (.int .u64 (((xa.getD (I) 0) * (xb.getD (J) 0) % 18446744073709551616 : Nat) : Int) : Value) = .int .u64 ((xa.getD (I) 0 * xb.getD (J) 0 : Nat) : Int) := (by rw [Nat.mod_eq_of_lt (by omega)])
        exact .inl ⟨_, _, (o_mulU (m := (xa.getD (I) 0)) (n := (xb.getD (J) 0)) ((xa.getD (I) 0) * (xb.getD (J) 0) % 18446744073709551616) rfl d_16 d_17 (by rw [IntKind.wrap_u64]; simp)), e0, Below.refl _ _⟩)), trivial⟩ (fun a_3 w_7 hs_3 hd_3 hb_5 hO_1 hV_1 => ?_)
      have ta_3_0 := (hO_1 0 (by decide)).trans ((pm rfl).trans ta_2_0)
      have ta_3_1 := (hO_1 1 (by decide)).trans ((pm rfl).trans ta_2_1)
      have ta_3_2 := (hO_1 2 (by decide)).trans ((pm rfl).trans ta_2_2)
      have ta_3_3 := (hO_1 3 (by decide)).trans ((pm rfl).trans ta_2_3)
      have ta_3_4 := (hO_1 4 (by decide)).trans ((pm rfl).trans ta_2_4)
      have ta_3_5 := (hO_1 5 (by decide)).trans ((pm rfl).trans ta_2_5)
      have ta_3_8 := (hO_1 8 (by decide)).trans ((pm rfl).trans ta_2_8)
      have ta_3_9 := (hO_1 9 (by decide)).trans ((pm rfl).trans ta_2_9)
      have ta_3_10 := (hO_1 10 (by decide)).trans ((pm rfl).trans ta_2_10)
      have ta_3_6 := (hO_1 6 (by decide)).trans ((pm rfl).trans ta_2_6)
      have ta_3_11 := (hO_1 11 (by decide)).trans ((pm rfl).trans ta_2_11)
      clear ta_2_0 ta_2_1 ta_2_2 ta_2_3 ta_2_4 ta_2_5 ta_2_8 ta_2_9 ta_2_10 ta_2_6 ta_2_11 hd_2
      replace BA := BA.nx hb_5
      replace BB := BB.nx hb_5
      replace BR := BR.nx hb_5
      replace BT := BT.nx hb_5
      have HB_4 := below_from HBL hb_5
      have ta_3_20 : a_3.eval (.tmp 20) = .int .i64 ((I + J : Nat) : Int) := hV_1 2 20 rfl rfl
      have ta_3_22 : a_3.eval (.tmp 22) = .int .u64 ((((tmJ (tmI xa xb I) xb (xa.getD I 0) I J)).getD (I + J) 0 : Nat) : Int) := hV_1 4 22 rfl rfl
      have ta_3_29 : a_3.eval (.tmp 29) = .int .u64 ((xa.getD (I) 0 * xb.getD (J) 0 : Nat) : Int) := hV_1 11 29 rfl rfl
      clear hV_1 hO_1
      simp only [List.drop_succ_cons, List.drop_zero]
      refine q_v 30 (.int .u64 (((((tmJ (tmI xa xb I) xb (xa.getD I 0) I J)).getD (I + J) 0) + (xa.getD (I) 0 * xb.getD (J) 0) : Nat) : Int)) (o_addU (m := (((tmJ (tmI xa xb I) xb (xa.getD I 0) I J)).getD (I + J) 0)) (n := (xa.getD (I) 0 * xb.getD (J) 0)) ((((tmJ (tmI xa xb I) xb (xa.getD I 0) I J)).getD (I + J) 0) + (xa.getD (I) 0 * xb.getD (J) 0)) rfl ((pm rfl).trans ta_3_22) ((pm rfl).trans ta_3_29) (by rw [IntKind.wrap_u64]; omega)) ?_
      refine op_val (d := 31) (v := .pointer (some ⟨g_4, I + J, none⟩)) rfl rfl (zero_off (o_ixA (k := 0) (i := I + J) (n := 17) (e := 23) rfl ((pm rfl).trans ta_3_5) ((pm rfl).trans ta_3_20) (by omega) (fun _ => by kernel_rfl) (fun _ => by kernel_rfl))) ?_
      refine op_do rfl rfl (o_storeW rfl (pe hs_3 rfl rfl) (pe hs_3 rfl rfl) BT (by rw [hjl]; omega) ⟨by kernel_rfl, by kernel_rfl⟩) (fun w_8 hR_5 => ?_)
      obtain ⟨hB_5, hX_1⟩ := hR_5
      replace BA := hX_1.blk BA ne_4
      replace BB := hX_1.blk BB ne_5
      replace BR := hX_1.blk BR ne_6
      have HB_5 := hX_1.below HB_4 HB_4.size (fun k hk => hk ▸ ge_4)
      clear BT
      refine x_nil (hK_18 _ _ ?_)
      refine hK_17 _ _ ?_
      refine x_region (by kernel_rfl) ?_
      refine q_v 48 (.int .i64 ((J + 1 : Nat) : Int)) (o_add64 (m := J) (n := 1) rfl ((pm rfl).trans ta_3_11) rfl (by omega)) ?_
      refine q_mv (pe hs_3 rfl rfl) ?_
      refine x_nil ?_
      refine hK_14 _ _ _ ⟨J + 1, rfl, (by rw [putsR_size]; exact hs_3), (by rw [putsR_defers]; exact hd_3), ((pm rfl).trans ta_3_0), ((pm rfl).trans ta_3_1), ((pm rfl).trans ta_3_2), ((pm rfl).trans ta_3_3), ((pm rfl).trans ta_3_4), ((pm rfl).trans ta_3_5), ((pm rfl).trans ta_3_6), ((pm rfl).trans ta_3_8), ((pm rfl).trans ta_3_9), ((pm rfl).trans ta_3_10), (pe hs_3 rfl rfl), (by omega), BA, BB, BR, (by rw [tmJ, if_pos (by omega)]; exact hB_5), HB_5⟩ ?_
      omega
     ·simp only [DD9] at h_3
      refine x_drawn 14 [fun _ v => v = .int .i64 ((I : Nat) : Int), fun _ v => v = .int .i64 ((J : Nat) : Int), fun _ v => v = .int .i64 ((I + J : Nat) : Int), fun _ v => v = .int .i64 (((I + J) - 17 : Nat) : Int), fun _ v => v = .pointer (some ⟨g_4, (I + J) - 17, none⟩), fun _ v => v = .int .u64 ((((tmJ (tmI xa xb I) xb (xa.getD I 0) I J)).getD ((I + J) - 17) 0 : Nat) : Int), fun _ v => v = .int .i64 ((I : Nat) : Int), fun _ v => v = .pointer (some ⟨g_1, I, none⟩), fun _ v => v = .int .u64 ((xa.getD (I) 0 : Nat) : Int), fun _ v => v = .int .u64 ((320 * xa.getD (I) 0 : Nat) : Int), fun _ v => v = .int .i64 ((J : Nat) : Int), fun _ v => v = .pointer (some ⟨g_2, J, none⟩), fun _ v => v = .int .u64 ((xb.getD (J) 0 : Nat) : Int), fun _ v => v = .int .u64 ((320 * xa.getD (I) 0 * xb.getD (J) 0 : Nat) : Int)] [32, 33, 34, 35, 36, 37, 38, 39, 40, 41, 42, 43, 44, 45] hs_2 hd_2 (by kernel_rfl) (by kernel_rfl) (by kernel_rfl) (by kernel_rfl) (by kernel_rfl) ⟨stLit, stLit, stLit, stLit, stLit, stLit, stLit, stLit, stLit, stLit, stLit, stLit, stLit, stLit, trivial⟩ ⟨(step_ok rfl (fun a' w' hb' hO hD => by
        have d_18 := (hO 6 (by decide)).trans ((pm rfl).trans ta_2_6)
        exact .inl ⟨_, _, (o_move rfl d_18), rfl, Below.refl _ _⟩)),
(step_ok rfl (fun a' w' hb' hO hD => by
        have d_19 : a'.eval (.tmp 7) = .int .i64 ((J : Nat) : Int) := (hO 7 (by decide)).trans (pe hs_2 rfl rfl)
        exact .inl ⟨_, _, (o_move rfl d_19), rfl, Below.refl _ _⟩)),
(step_ok rfl (fun a' w' hb' hO hD => by
        have d_20 : a'.eval (.tmp 32) = .int .i64 ((I : Nat) : Int) := hD 0 32 (by kernel_rfl) rfl
        have d_21 : a'.eval (.tmp 33) = .int .i64 ((J : Nat) : Int) := hD 1 33 (by kernel_rfl) rfl
        exact .inl ⟨_, _, (o_add64 (m := I) (n := J) rfl d_20 d_21 (by omega)), rfl, Below.refl _ _⟩)),
(step_ok rfl (fun a' w' hb' hO hD => by
        have d_22 : a'.eval (.tmp 34) = .int .i64 ((I + J : Nat) : Int) := hD 2 34 (by kernel_rfl) rfl
        exact .inl ⟨_, _, (o_sub64 (m := (I + J)) (n := 17) rfl d_22 rfl (by omega) (by omega)), rfl, Below.refl _ _⟩)),
(step_ok rfl (fun a' w' hb' hO hD => by
        have d_23 := (hO 5 (by decide)).trans ((pm rfl).trans ta_2_5)
        have d_24 : a'.eval (.tmp 35) = .int .i64 (((I + J) - 17 : Nat) : Int) := hD 3 35 (by kernel_rfl) rfl
        exact .inl ⟨_, _, (zero_off (o_ixA (k := 0) (i := (I + J) - 17) (n := 17) (e := 23) rfl d_23 d_24 (by omega) (fun _ => by kernel_rfl) (fun _ => by kernel_rfl))), rfl, Below.refl _ _⟩)),
(step_ok rfl (fun a' w' hb' hO hD => by
        have d_25 : a'.eval (.tmp 36) = .pointer (some ⟨g_4, (I + J) - 17, none⟩) := hD 4 36 (by kernel_rfl) rfl
        exact .inl ⟨_, _, (o_loadW rfl d_25 (BT.nx hb') (by rw [hjl]; omega) rfl ⟨by kernel_rfl, by kernel_rfl⟩), rfl, Below.refl _ _⟩)),
(step_ok rfl (fun a' w' hb' hO hD => by
        have d_26 := (hO 6 (by decide)).trans ((pm rfl).trans ta_2_6)
        exact .inl ⟨_, _, (o_move rfl d_26), rfl, Below.refl _ _⟩)),
(step_ok rfl (fun a' w' hb' hO hD => by
        have d_27 := (hO 2 (by decide)).trans ((pm rfl).trans ta_2_2)
        have d_28 : a'.eval (.tmp 38) = .int .i64 ((I : Nat) : Int) := hD 6 38 (by kernel_rfl) rfl
        exact .inl ⟨_, _, (zero_off (o_ixA (k := 0) (i := I) (n := 17) (e := 23) rfl d_27 d_28 (by omega) (fun _ => by kernel_rfl) (fun _ => by kernel_rfl))), rfl, Below.refl _ _⟩)),
(step_ok rfl (fun a' w' hb' hO hD => by
        have d_29 : a'.eval (.tmp 39) = .pointer (some ⟨g_1, I, none⟩) := hD 7 39 (by kernel_rfl) rfl
        exact .inl ⟨_, _, (o_loadW rfl d_29 (BA.nx hb') (by rw [la]; omega) rfl ⟨by kernel_rfl, by kernel_rfl⟩), rfl, Below.refl _ _⟩)),
(step_ok rfl (fun a' w' hb' hO hD => by
        have d_30 : a'.eval (.tmp 40) = .int .u64 ((xa.getD (I) 0 : Nat) : Int) := hD 8 40 (by kernel_rfl) rfl
        have e0 : (.int .u64 ((320 * (xa.getD (I) 0) % 18446744073709551616 : Nat) : Int) : Value) = .int .u64 ((320 * xa.getD (I) 0 : Nat) : Int) := (by rw [Nat.mod_eq_of_lt (by omega)])
        exact .inl ⟨_, _, (o_mulU (m := 320) (n := (xa.getD (I) 0)) (320 * (xa.getD (I) 0) % 18446744073709551616) rfl rfl d_30 (by rw [IntKind.wrap_u64]; simp)), e0, Below.refl _ _⟩)),
(step_ok rfl (fun a' w' hb' hO hD => by
        have d_31 : a'.eval (.tmp 7) = .int .i64 ((J : Nat) : Int) := (hO 7 (by decide)).trans (pe hs_2 rfl rfl)
        exact .inl ⟨_, _, (o_move rfl d_31), rfl, Below.refl _ _⟩)),
(step_ok rfl (fun a' w' hb' hO hD => by
        have d_32 := (hO 3 (by decide)).trans ((pm rfl).trans ta_2_3)
        have d_33 : a'.eval (.tmp 42) = .int .i64 ((J : Nat) : Int) := hD 10 42 (by kernel_rfl) rfl
        exact .inl ⟨_, _, (zero_off (o_ixA (k := 0) (i := J) (n := 17) (e := 23) rfl d_32 d_33 (by omega) (fun _ => by kernel_rfl) (fun _ => by kernel_rfl))), rfl, Below.refl _ _⟩)),
(step_ok rfl (fun a' w' hb' hO hD => by
        have d_34 : a'.eval (.tmp 43) = .pointer (some ⟨g_2, J, none⟩) := hD 11 43 (by kernel_rfl) rfl
        exact .inl ⟨_, _, (o_loadW rfl d_34 (BB.nx hb') (by rw [lb]; omega) rfl ⟨by kernel_rfl, by kernel_rfl⟩), rfl, Below.refl _ _⟩)),
(step_ok rfl (fun a' w' hb' hO hD => by
        have d_35 : a'.eval (.tmp 41) = .int .u64 ((320 * xa.getD (I) 0 : Nat) : Int) := hD 9 41 (by kernel_rfl) rfl
        have d_36 : a'.eval (.tmp 44) = .int .u64 ((xb.getD (J) 0 : Nat) : Int) := hD 12 44 (by kernel_rfl) rfl
        have e0 : (.int .u64 (((320 * xa.getD (I) 0) * (xb.getD (J) 0) % 18446744073709551616 : Nat) : Int) : Value) = .int .u64 ((320 * xa.getD (I) 0 * xb.getD (J) 0 : Nat) : Int) := (by rw [Nat.mod_eq_of_lt (by omega)])
        exact .inl ⟨_, _, (o_mulU (m := (320 * xa.getD (I) 0)) (n := (xb.getD (J) 0)) ((320 * xa.getD (I) 0) * (xb.getD (J) 0) % 18446744073709551616) rfl d_35 d_36 (by rw [IntKind.wrap_u64]; simp)), e0, Below.refl _ _⟩)), trivial⟩ (fun a_4 w_9 hs_4 hd_4 hb_6 hO_2 hV_2 => ?_)
      have ta_4_0 := (hO_2 0 (by decide)).trans ((pm rfl).trans ta_2_0)
      have ta_4_1 := (hO_2 1 (by decide)).trans ((pm rfl).trans ta_2_1)
      have ta_4_2 := (hO_2 2 (by decide)).trans ((pm rfl).trans ta_2_2)
      have ta_4_3 := (hO_2 3 (by decide)).trans ((pm rfl).trans ta_2_3)
      have ta_4_4 := (hO_2 4 (by decide)).trans ((pm rfl).trans ta_2_4)
      have ta_4_5 := (hO_2 5 (by decide)).trans ((pm rfl).trans ta_2_5)
      have ta_4_8 := (hO_2 8 (by decide)).trans ((pm rfl).trans ta_2_8)
      have ta_4_9 := (hO_2 9 (by decide)).trans ((pm rfl).trans ta_2_9)
      have ta_4_10 := (hO_2 10 (by decide)).trans ((pm rfl).trans ta_2_10)
      have ta_4_6 := (hO_2 6 (by decide)).trans ((pm rfl).trans ta_2_6)
      have ta_4_11 := (hO_2 11 (by decide)).trans ((pm rfl).trans ta_2_11)
      clear ta_2_0 ta_2_1 ta_2_2 ta_2_3 ta_2_4 ta_2_5 ta_2_8 ta_2_9 ta_2_10 ta_2_6 ta_2_11 hd_2
      replace BA := BA.nx hb_6
      replace BB := BB.nx hb_6
      replace BR := BR.nx hb_6
      replace BT := BT.nx hb_6
      have HB_6 := below_from HBL hb_6
      have ta_4_35 : a_4.eval (.tmp 35) = .int .i64 (((I + J) - 17 : Nat) : Int) := hV_2 3 35 rfl rfl
      have ta_4_37 : a_4.eval (.tmp 37) = .int .u64 ((((tmJ (tmI xa xb I) xb (xa.getD I 0) I J)).getD ((I + J) - 17) 0 : Nat) : Int) := hV_2 5 37 rfl rfl
      have ta_4_45 : a_4.eval (.tmp 45) = .int .u64 ((320 * xa.getD (I) 0 * xb.getD (J) 0 : Nat) : Int) := hV_2 13 45 rfl rfl
      clear hV_2 hO_2
      simp only [List.drop_succ_cons, List.drop_zero]
      refine q_v 46 (.int .u64 (((((tmJ (tmI xa xb I) xb (xa.getD I 0) I J)).getD ((I + J) - 17) 0) + (320 * xa.getD (I) 0 * xb.getD (J) 0) : Nat) : Int)) (o_addU (m := (((tmJ (tmI xa xb I) xb (xa.getD I 0) I J)).getD ((I + J) - 17) 0)) (n := (320 * xa.getD (I) 0 * xb.getD (J) 0)) ((((tmJ (tmI xa xb I) xb (xa.getD I 0) I J)).getD ((I + J) - 17) 0) + (320 * xa.getD (I) 0 * xb.getD (J) 0)) rfl ((pm rfl).trans ta_4_37) ((pm rfl).trans ta_4_45) (by rw [IntKind.wrap_u64]; omega)) ?_
      refine op_val (d := 47) (v := .pointer (some ⟨g_4, (I + J) - 17, none⟩)) rfl rfl (zero_off (o_ixA (k := 0) (i := (I + J) - 17) (n := 17) (e := 23) rfl ((pm rfl).trans ta_4_5) ((pm rfl).trans ta_4_35) (by omega) (fun _ => by kernel_rfl) (fun _ => by kernel_rfl))) ?_
      refine op_do rfl rfl (o_storeW rfl (pe hs_4 rfl rfl) (pe hs_4 rfl rfl) BT (by rw [hjl]; omega) ⟨by kernel_rfl, by kernel_rfl⟩) (fun w_10 hR_6 => ?_)
      obtain ⟨hB_6, hX_2⟩ := hR_6
      replace BA := hX_2.blk BA ne_4
      replace BB := hX_2.blk BB ne_5
      replace BR := hX_2.blk BR ne_6
      have HB_7 := hX_2.below HB_6 HB_6.size (fun k hk => hk ▸ ge_4)
      clear BT
      refine x_nil (hK_18 _ _ ?_)
      refine hK_17 _ _ ?_
      refine x_region (by kernel_rfl) ?_
      refine q_v 48 (.int .i64 ((J + 1 : Nat) : Int)) (o_add64 (m := J) (n := 1) rfl ((pm rfl).trans ta_4_11) rfl (by omega)) ?_
      refine q_mv (pe hs_4 rfl rfl) ?_
      refine x_nil ?_
      refine hK_14 _ _ _ ⟨J + 1, rfl, (by rw [putsR_size]; exact hs_4), (by rw [putsR_defers]; exact hd_4), ((pm rfl).trans ta_4_0), ((pm rfl).trans ta_4_1), ((pm rfl).trans ta_4_2), ((pm rfl).trans ta_4_3), ((pm rfl).trans ta_4_4), ((pm rfl).trans ta_4_5), ((pm rfl).trans ta_4_6), ((pm rfl).trans ta_4_8), ((pm rfl).trans ta_4_9), ((pm rfl).trans ta_4_10), (pe hs_4 rfl rfl), (by omega), BA, BB, BR, (by rw [tmJ, if_neg (by omega)]; exact hB_6), HB_7⟩ ?_
      omega
    ·simp only [DD9] at h_2
     obtain rfl : J = 17 := by omega
     refine w2_exit ?_
     refine thn_exit ?_
     refine thn_exit ?_
     refine exb_hit ?_
     refine hK_13 _ _ ?_
     refine hK_10 _ _ ?_
     refine hK_9 _ _ ?_
     refine x_region (by kernel_rfl) ?_
     refine q_v 49 (.int .i64 ((I + 1 : Nat) : Int)) (o_add64 (m := I) (n := 1) rfl ((pm rfl).trans ta_2_8) rfl (by omega)) ?_
     refine q_mv (pe hs_2 rfl rfl) ?_
     refine x_nil ?_
     refine hK_6 _ _ _ ⟨I + 1, rfl, (by rw [putsR_size]; exact hs_2), (by rw [putsR_defers]; exact hd_2), ((pm rfl).trans ta_2_0), ((pm rfl).trans ta_2_1), ((pm rfl).trans ta_2_2), ((pm rfl).trans ta_2_3), ((pm rfl).trans ta_2_4), ((pm rfl).trans ta_2_5), (pe hs_2 rfl rfl), (by omega), BA, BB, BR, BT, HBL⟩ ?_
     omega
  ·simp only [DD9] at h_1
   obtain rfl : I = 17 := by omega
   refine w2_exit ?_
   refine thn_exit ?_
   refine thn_exit ?_
   refine exb_hit ?_
   refine hK_5 _ _ ?_
   refine hK_3 _ _ ?_
   refine w2_seq (fun K_21 hK_21 => ?_)
   obtain ⟨hl9, hM9⟩ := timP_ok ha255 hb255
   refine x_region (by kernel_rfl) ?_
   refine q_v 50 (.agg (iws .u64 ((tmI xa xb 17))).toArray) (o_loadI rfl ((pm rfl).trans ta_1_5) BT (by rw [hl9]; exact ⟨by kernel_rfl, by kernel_rfl⟩)) ?_
   refine q_ca (vs := #[.agg (iws .u64 ((tmI xa xb 17))).toArray]) Try.func89 (args1 (pe hs_1 rfl rfl)) (carryW_any _ hl9 hM9) (fun e_1 w_11 hR_7 => ?_)
   obtain ⟨rfl, hb_8⟩ := hR_7
   replace BA := BA.nx hb_8
   replace BB := BB.nx hb_8
   replace BR := BR.nx hb_8
   replace BT := BT.nx hb_8
   have HB_8 := below_from HBL hb_8
   refine ⟨_, rfl, ?_⟩
   refine op_do rfl rfl (o_storeI rfl ((pm rfl).trans ta_1_4) (pe hs_1 rfl rfl) BR (by rw [(dgP_length _)]; exact ⟨by kernel_rfl, by kernel_rfl⟩) (by rw [dgP_length]; simp [iws])) (fun w_12 hR_8 => ?_)
   obtain ⟨hB_7, hX_3⟩ := hR_8
   replace BA := hX_3.blk BA ne_2
   replace BB := hX_3.blk BB ne_3
   replace BT := hX_3.blk BT (Ne.symm ne_6)
   have HB_9 := hX_3.below HB_8 HB_8.size (fun k hk => hk ▸ ge_3)
   clear BR
   refine x_nil (hK_21 _ _ ?_)
   refine w2_ret ?_
   refine retC rfl hd_1 ((pm rfl).trans ta_1_4) (loadI hB_7 (by rw [(dgP_length _)]; exact ⟨by kernel_rfl, by kernel_rfl⟩)) ?_
   exact ⟨rfl, HB_9⟩
set_option maxHeartbeats 1000000 in
theorem wholeW_any {V : Nat} (w : World) (hV : V < 1361129467683753853853498429727072845824) :
  Calls Try.prog 90 #[.agg (iws .u64 (dgP V)).toArray] w fun e w' => e = .returned (.agg (iws .u64 (dgP (V % 1361129467683753853853498429727072845819))).toArray) ∧ Below w.heap.size w w' := by
 refine x_enter 38 Try.func90 rfl rfl (fun a hs hd ha0 => ?_)
 have t0 : a.eval (.tmp 0) = .agg (iws .u64 (dgP V)).toArray := ha0 0 _ rfl
 clear ha0
 refine w2_sr (fun K_1 hK_1 => ?_)
 refine op_ex (d := 1) rfl rfl (o_boxI rfl ((pm rfl).trans t0)) (fun v_1 w_1 hR_1 => ?_)
 obtain ⟨g_1, rfl, hle_1, hB_1, hb_1⟩ := hR_1
 have ge_1 : w.heap.size ≤ g_1 := hle_1
 refine op_ex (d := 2) rfl rfl (o_alloc (zs := (iws .u64 (List.replicate 17 0)).toArray) rfl (fun _ => by kernel_rfl)) (fun v_2 w_2 hR_2 => ?_)
 obtain ⟨g_2, rfl, hle_2, hB_2, hb_2⟩ := hR_2
 have ne_1 : g_1 ≠ g_2 := Nat.ne_of_lt (Nat.lt_of_lt_of_le hB_1.lt hle_2)
 have ge_2 : w.heap.size ≤ g_2 := Nat.le_trans hb_1.size hle_2
 replace hB_1 := hB_1.nx hb_2
 have HB_1 := below_from hb_1 hb_2
 refine x_nil (hK_1 _ _ ?_)
 refine w2_sr (fun K_2 hK_2 => ?_)
 refine q_v 6 (.agg (iws .u64 (dgP V)).toArray) (o_loadI rfl (pe hs rfl rfl) hB_1 (by rw [dgP_length]; exact ⟨by kernel_rfl, by kernel_rfl⟩)) ?_
 refine q_ca (vs := #[.agg (iws .u64 (dgP V)).toArray]) Try.func89 (args1 (pe hs rfl rfl)) (carryD_any _ hV) (fun e_1 w_3 hR_3 => ?_)
 obtain ⟨rfl, hb_4⟩ := hR_3
 replace hB_1 := hB_1.nx hb_4
 replace hB_2 := hB_2.nx hb_4
 have HB_2 := below_from HB_1 hb_4
 refine ⟨_, rfl, ?_⟩
 refine q_ca (vs := #[.agg (iws .u64 (dgP V)).toArray]) Try.func89 (args1 (pe hs rfl rfl)) (carryD_any _ hV) (fun e_2 w_4 hR_4 => ?_)
 obtain ⟨rfl, hb_6⟩ := hR_4
 replace hB_1 := hB_1.nx hb_6
 replace hB_2 := hB_2.nx hb_6
 have HB_3 := below_from HB_2 hb_6
 refine ⟨_, rfl, ?_⟩
 refine op_do rfl rfl (o_storeI rfl (pe hs rfl rfl) (pe hs rfl rfl) hB_1 (by rw [(dgP_length _)]; exact ⟨by kernel_rfl, by kernel_rfl⟩) (by simp [iws, dgP_length])) (fun w_5 hR_5 => ?_)
 obtain ⟨hB_3, hX_1⟩ := hR_5
 replace hB_2 := hX_1.blk hB_2 (Ne.symm ne_1)
 have HB_4 := hX_1.below HB_3 HB_3.size (fun k hk => hk ▸ ge_1)
 clear hB_1
 refine x_nil (hK_2 _ _ ?_)
 refine w2_sr (fun K_3 hK_3 => ?_)
 refine q_v 9 (.agg (iws .u64 (dgP V)).toArray) (o_loadI rfl (pe hs rfl rfl) hB_3 (by rw [dgP_length]; exact ⟨by kernel_rfl, by kernel_rfl⟩)) ?_
 refine op_ex (d := 3) rfl rfl (o_alloc (zs := (iws .u64 (List.replicate 17 0)).toArray) rfl (fun _ => by kernel_rfl)) (fun v_3 w_6 hR_6 => ?_)
 obtain ⟨g_3, rfl, hle_3, hB_4, hb_7⟩ := hR_6
 have ne_2 : g_2 ≠ g_3 := Nat.ne_of_lt (Nat.lt_of_lt_of_le hB_2.lt hle_3)
 have ne_3 : g_1 ≠ g_3 := Nat.ne_of_lt (Nat.lt_of_lt_of_le hB_3.lt hle_3)
 have ge_3 : w.heap.size ≤ g_3 := Nat.le_trans HB_4.size hle_3
 replace hB_2 := hB_2.nx hb_7
 replace hB_3 := hB_3.nx hb_7
 have HB_5 := below_from HB_4 hb_7
 refine op_do rfl rfl (o_storeI rfl (pe hs rfl rfl) (pe hs rfl rfl) hB_4 (by rw [(dgP_length _)]; exact ⟨by kernel_rfl, by kernel_rfl⟩) (by rw [dgP_length]; simp [iws])) (fun w_7 hR_7 => ?_)
 obtain ⟨hB_5, hX_2⟩ := hR_7
 replace hB_2 := hX_2.blk hB_2 ne_2
 replace hB_3 := hX_2.blk hB_3 ne_3
 have HB_6 := hX_2.below HB_5 HB_5.size (fun k hk => hk ▸ ge_3)
 clear hB_4
 refine x_nil (hK_3 _ _ ?_)
 refine w2_seq (fun K_4 hK_4 => ?_)
 have hd0 := dgP_le V 0
 refine x_region (by kernel_rfl) ?_
 refine op_val (d := 10) (v := .pointer (some ⟨g_3, 0, none⟩)) rfl rfl (zero_off (o_ixA (k := 0) (i := 0) (n := 17) (e := 23) rfl (pe hs rfl rfl) rfl (by omega) (fun _ => by kernel_rfl) (fun _ => by kernel_rfl))) ?_
 refine q_v 11 (.int .u64 (((dgP V).getD (0) 0 : Nat) : Int)) (o_loadW rfl (pe hs rfl rfl) hB_5 (by rw [(dgP_length _)]; omega) rfl ⟨by kernel_rfl, by kernel_rfl⟩) ?_
 refine q_v 12 (.int .u64 ((((dgP V).getD (0) 0) + 5 : Nat) : Int)) (o_addU (m := ((dgP V).getD (0) 0)) (n := 5) (((dgP V).getD (0) 0) + 5) rfl (pe hs rfl rfl) rfl (by rw [IntKind.wrap_u64]; omega)) ?_
 refine op_val (d := 13) (v := .pointer (some ⟨g_3, 0, none⟩)) rfl rfl (zero_off (o_ixA (k := 0) (i := 0) (n := 17) (e := 23) rfl (pe hs rfl rfl) rfl (by omega) (fun _ => by kernel_rfl) (fun _ => by kernel_rfl))) ?_
 refine op_do rfl rfl (o_storeW rfl (pe hs rfl rfl) (pe hs rfl rfl) hB_5 (by rw [(dgP_length _)]; omega) ⟨by kernel_rfl, by kernel_rfl⟩) (fun w_8 hR_8 => ?_)
 obtain ⟨hB_6, hX_3⟩ := hR_8
 replace hB_2 := hX_3.blk hB_2 ne_2
 replace hB_3 := hX_3.blk hB_3 ne_3
 have HB_7 := hX_3.below HB_6 HB_6.size (fun k hk => hk ▸ ge_3)
 clear hB_5
 refine x_nil (hK_4 _ _ ?_)
 refine w2_sr (fun K_5 hK_5 => ?_)
 refine q_as (.int .u64 ((0 : Nat) : Int)) rfl ?_
 refine x_nil (hK_5 _ _ ?_)
 refine w2_seq (fun K_6 hK_6 => ?_)
 refine w2_sr (fun K_7 hK_7 => ?_)
 refine q_v 14 (.int .i64 ((0 : Nat) : Int)) (o_move rfl rfl) ?_
 refine x_nil ?_
 obtain ⟨l9, hl9⟩ : ∃ q, q = (dgP V).set (0) ((dgP V).getD (0) 0 + 5) := ⟨_, rfl⟩
 rw [← hl9] at hB_6
 have hl17 : l9.length = 17 := by rw [hl9, List.length_set]; exact dgP_length V
 have hlM : ∀ j, l9.getD j 0 ≤ 255 * 2 := by intro j; rw [hl9]; exact set_le (fun k => Nat.le_trans (dgP_le V k) (by decide)) (by omega) j
 refine hK_7 _ _ ?_
 refine w2_block (fun K_8 hK_8 => ?_)
 refine x_loop (fun nn aa ww => ∃ (K : Nat), nn = 17 - K ∧ aa.tmps.size = 38 ∧ aa.defers = [] ∧ aa.eval (.tmp 0) = .agg (iws .u64 (dgP V)).toArray ∧ aa.eval (.tmp 1) = .pointer (some ⟨g_1, 0, none⟩) ∧ aa.eval (.tmp 2) = .pointer (some ⟨g_2, 0, none⟩) ∧ aa.eval (.tmp 3) = .pointer (some ⟨g_3, 0, none⟩) ∧ aa.eval (.tmp 4) = .int .u64 (((ripK l9 K).2 : Nat) : Int) ∧ aa.eval (.tmp 6) = .agg (iws .u64 (dgP V)).toArray ∧ aa.eval (.tmp 7) = .agg (iws .u64 (dgP V)).toArray ∧ aa.eval (.tmp 8) = .agg (iws .u64 (dgP V)).toArray ∧ aa.eval (.tmp 9) = .agg (iws .u64 (dgP V)).toArray ∧ aa.eval (.tmp 10) = .pointer (some ⟨g_3, 0, none⟩) ∧ aa.eval (.tmp 11) = .int .u64 (((dgP V).getD (0) 0 : Nat) : Int) ∧ aa.eval (.tmp 12) = .int .u64 ((((dgP V).getD (0) 0) + 5 : Nat) : Int) ∧ aa.eval (.tmp 13) = .pointer (some ⟨g_3, 0, none⟩) ∧ aa.eval (.tmp 14) = .int .i64 ((K : Nat) : Int) ∧ K ≤ 17 ∧ Blk ww g_1 (iws .u64 (dgP V)).toArray 106 ∧ Blk ww g_2 (iws .u64 (List.replicate 17 0)).toArray 106 ∧ Blk ww g_3 (iws .u64 ((ripK l9 K).1)).toArray 106 ∧ Below w.heap.size w ww) (17) ?_ ?_
 ·exact ⟨0, rfl, (by rw [putsR_size]; exact hs), (by rw [putsR_defers]; exact hd), ((pm rfl).trans t0), (pe hs rfl rfl), (pe hs rfl rfl), (pe hs rfl rfl), (pe hs rfl rfl), (pe hs rfl rfl), (pe hs rfl rfl), (pe hs rfl rfl), (pe hs rfl rfl), (pe hs rfl rfl), (pe hs rfl rfl), (pe hs rfl rfl), (pe hs rfl rfl), (pe hs rfl rfl), by omega, hB_3, hB_2, hB_6, HB_7⟩
 ·skip
  clear t0 hd hB_2 hB_3 hB_6 HB_7
  rintro nna_1 a_1 w_9 ⟨K, hm_1, hs_1, hd_1, ta_1_0, ta_1_1, ta_1_2, ta_1_3, ta_1_4, ta_1_6, ta_1_7, ta_1_8, ta_1_9, ta_1_10, ta_1_11, ta_1_12, ta_1_13, ta_1_14, hK, BA, BR, BG, HBL⟩ K_9 hK_9
  subst hm_1
  have hcl : (ripK l9 K).1.length = 17 := (ripK_length _ K).trans hl17
  have hcc := ripK_c hlM K
  have hca := ripK_above l9 K K (Nat.le_refl _)
  have hcm := hlM K
  refine w2_sr (fun K_10 hK_10 => ?_)
  refine q_v 15 (.bool (decide (K < 17))) (o_lss (m := K) (n := 17) rfl ((pm rfl).trans ta_1_14) rfl) ?_
  refine x_nil (hK_10 _ _ ?_)
  refine w2_seq (fun K_11 hK_11 => ?_)
  refine w2_split (pe hs_1 rfl rfl) (fun h_1 => ?_) (fun h_1 => ?_)
  ·simp only [DD9] at h_1
   refine w2_skip ?_
   refine hK_11 _ _ ?_
   refine w2_seq (fun K_12 hK_12 => ?_)
   refine w2_block (fun K_13 hK_13 => ?_)
   refine w2_sr (fun K_14 hK_14 => ?_)
   refine q_mv ((pm rfl).trans ta_1_14) ?_
   refine q_at (pe hs_1 rfl rfl) ?_
   refine x_nil (hK_14 _ _ ?_)
   refine w2_sr (fun K_15 hK_15 => ?_)
   refine q_mv ((pm rfl).trans ta_1_4) ?_
   refine q_mv (pe hs_1 rfl rfl) ?_
   refine op_val (d := 19) (v := .pointer (some ⟨g_3, K, none⟩)) rfl rfl (zero_off (o_ixA (k := 0) (i := K) (n := 17) (e := 23) rfl ((pm rfl).trans ta_1_3) (pe hs_1 rfl rfl) (by omega) (fun _ => by kernel_rfl) (fun _ => by kernel_rfl))) ?_
   refine q_v 20 (.int .u64 ((((ripK l9 K).1).getD (K) 0 : Nat) : Int)) (o_loadW rfl (pe hs_1 rfl rfl) BG (by rw [hcl]; omega) rfl ⟨by kernel_rfl, by kernel_rfl⟩) ?_
   refine q_v 21 (.int .u64 ((((ripK l9 K).2) + (((ripK l9 K).1).getD (K) 0) : Nat) : Int)) (o_addU (m := ((ripK l9 K).2)) (n := (((ripK l9 K).1).getD (K) 0)) (((ripK l9 K).2) + (((ripK l9 K).1).getD (K) 0)) rfl (pe hs_1 rfl rfl) (pe hs_1 rfl rfl) (by rw [IntKind.wrap_u64]; omega)) ?_
   refine q_at (pe hs_1 rfl rfl) ?_
   refine x_nil (hK_15 _ _ ?_)
   refine w2_sr (fun K_16 hK_16 => ?_)
   refine q_mv (pe hs_1 rfl rfl) ?_
   refine q_mv (pe hs_1 rfl rfl) ?_
   refine q_v 24 (.int .u64 ((((ripK l9 K).2 + (ripK l9 K).1.getD (K) 0) % 256 : Nat) : Int)) (o_eq (o_bits (m := (((ripK l9 K).2) + (((ripK l9 K).1).getD (K) 0))) (n := 255) ((((ripK l9 K).2) + (((ripK l9 K).1).getD (K) 0)) &&& 255) rfl (pe hs_1 rfl rfl) rfl (by decide) (u64_and_nat _ _ (by omega) (by omega))) (by rw [and_m8])) ?_
   refine op_val (d := 25) (v := .pointer (some ⟨g_3, K, none⟩)) rfl rfl (zero_off (o_ixA (k := 0) (i := K) (n := 17) (e := 23) rfl ((pm rfl).trans ta_1_3) (pe hs_1 rfl rfl) (by omega) (fun _ => by kernel_rfl) (fun _ => by kernel_rfl))) ?_
   refine op_do rfl rfl (o_storeW rfl (pe hs_1 rfl rfl) (pe hs_1 rfl rfl) BG (by rw [hcl]; omega) ⟨by kernel_rfl, by kernel_rfl⟩) (fun w_10 hR_9 => ?_)
   obtain ⟨hB_7, hX_4⟩ := hR_9
   replace BA := hX_4.blk BA ne_3
   replace BR := hX_4.blk BR ne_2
   have HB_8 := hX_4.below HBL HBL.size (fun k hk => hk ▸ ge_3)
   clear BG
   refine x_nil (hK_16 _ _ ?_)
   refine x_region (by kernel_rfl) ?_
   refine q_mv (pe hs_1 rfl rfl) ?_
   refine q_v 27 (.int .u64 ((((ripK l9 K).2 + (ripK l9 K).1.getD (K) 0) / 256 : Nat) : Int)) (o_eq (o_shr (m := (((ripK l9 K).2) + (((ripK l9 K).1).getD (K) 0))) (n := 8) rfl (pe hs_1 rfl rfl) rfl (by decide)) rfl) ?_
   refine q_at (pe hs_1 rfl rfl) ?_
   refine x_nil (hK_13 _ _ ?_)
   refine hK_12 _ _ ?_
   refine x_region (by kernel_rfl) ?_
   refine q_v 28 (.int .i64 ((K + 1 : Nat) : Int)) (o_add64 (m := K) (n := 1) rfl ((pm rfl).trans ta_1_14) rfl (by omega)) ?_
   refine q_mv (pe hs_1 rfl rfl) ?_
   refine x_nil ?_
   refine hK_9 _ _ _ ⟨K + 1, rfl, (by rw [putsR_size]; exact hs_1), (by rw [putsR_defers]; exact hd_1), ((pm rfl).trans ta_1_0), ((pm rfl).trans ta_1_1), ((pm rfl).trans ta_1_2), ((pm rfl).trans ta_1_3), (pe hs_1 rfl rfl), ((pm rfl).trans ta_1_6), ((pm rfl).trans ta_1_7), ((pm rfl).trans ta_1_8), ((pm rfl).trans ta_1_9), ((pm rfl).trans ta_1_10), ((pm rfl).trans ta_1_11), ((pm rfl).trans ta_1_12), ((pm rfl).trans ta_1_13), (pe hs_1 rfl rfl), (by omega), BA, BR, hB_7, HB_8⟩ ?_
   omega
  ·simp only [DD9] at h_1
   obtain rfl : K = 17 := by omega
   refine w2_exit ?_
   refine thn_exit ?_
   refine thn_exit ?_
   refine exb_hit ?_
   refine hK_8 _ _ ?_
   refine hK_6 _ _ ?_
   refine w2_seq (fun K_17 hK_17 => ?_)
   refine w2_seq (fun K_18 hK_18 => ?_)
   rw [hl9, five_rip hV] at BG
   have hg16 := dgP_le (V + 5) 16
   refine x_region (by kernel_rfl) ?_
   refine op_val (d := 29) (v := .pointer (some ⟨g_3, 16, none⟩)) rfl rfl (zero_off (o_ixA (k := 0) (i := 16) (n := 17) (e := 23) rfl ((pm rfl).trans ta_1_3) rfl (by omega) (fun _ => by kernel_rfl) (fun _ => by kernel_rfl))) ?_
   refine q_v 30 (.int .u64 (((dgP (V + 5)).getD (16) 0 : Nat) : Int)) (o_loadW rfl (pe hs_1 rfl rfl) BG (by rw [(dgP_length _)]; omega) rfl ⟨by kernel_rfl, by kernel_rfl⟩) ?_
   refine q_v 31 (.bool (decide (4 ≤ ((dgP (V + 5)).getD (16) 0)))) (o_geq (m := ((dgP (V + 5)).getD (16) 0)) (n := 4) rfl (pe hs_1 rfl rfl) rfl) ?_
   refine x_nil (hK_18 _ _ ?_)
   refine w2_split (pe hs_1 rfl rfl) (fun h_2 => ?_) (fun h_2 => ?_)
   ·simp only [DD9] at h_2
    have hbig := whole_big hV h_2
    refine w2_sr (fun K_19 hK_19 => ?_)
    refine op_val (d := 32) (v := .pointer (some ⟨g_3, 16, none⟩)) rfl rfl (zero_off (o_ixA (k := 0) (i := 16) (n := 17) (e := 23) rfl ((pm rfl).trans ta_1_3) rfl (by omega) (fun _ => by kernel_rfl) (fun _ => by kernel_rfl))) ?_
    refine q_v 33 (.int .u64 (((dgP (V + 5)).getD (16) 0 : Nat) : Int)) (o_loadW rfl (pe hs_1 rfl rfl) BG (by rw [(dgP_length _)]; omega) rfl ⟨by kernel_rfl, by kernel_rfl⟩) ?_
    refine q_v 34 (.int .u64 (((dgP (V + 5)).getD (16) 0 % 4 : Nat) : Int)) (o_eq (o_bits (m := ((dgP (V + 5)).getD (16) 0)) (n := 3) (((dgP (V + 5)).getD (16) 0) &&& 3) rfl (pe hs_1 rfl rfl) rfl (by decide) (u64_and_nat _ _ (by omega) (by omega))) (by rw [and_m4])) ?_
    refine op_val (d := 35) (v := .pointer (some ⟨g_3, 16, none⟩)) rfl rfl (zero_off (o_ixA (k := 0) (i := 16) (n := 17) (e := 23) rfl ((pm rfl).trans ta_1_3) rfl (by omega) (fun _ => by kernel_rfl) (fun _ => by kernel_rfl))) ?_
    refine op_do rfl rfl (o_storeW rfl (pe hs_1 rfl rfl) (pe hs_1 rfl rfl) BG (by rw [(dgP_length _)]; omega) ⟨by kernel_rfl, by kernel_rfl⟩) (fun w_11 hR_10 => ?_)
    obtain ⟨hB_8, hX_5⟩ := hR_10
    replace BA := hX_5.blk BA ne_3
    replace BR := hX_5.blk BR ne_2
    have HB_9 := hX_5.below HBL HBL.size (fun k hk => hk ▸ ge_3)
    clear BG
    refine x_nil (hK_19 _ _ ?_)
    refine w2_seq (fun K_20 hK_20 => ?_)
    rw [hbig] at hB_8
    refine x_region (by kernel_rfl) ?_
    refine q_v 36 (.agg (iws .u64 (dgP (V % 1361129467683753853853498429727072845819))).toArray) (o_loadI rfl ((pm rfl).trans ta_1_3) hB_8 (by rw [dgP_length]; exact ⟨by kernel_rfl, by kernel_rfl⟩)) ?_
    refine op_do rfl rfl (o_storeI rfl ((pm rfl).trans ta_1_2) (pe hs_1 rfl rfl) BR (by rw [(dgP_length _)]; exact ⟨by kernel_rfl, by kernel_rfl⟩) (by rw [dgP_length]; simp [iws])) (fun w_12 hR_11 => ?_)
    obtain ⟨hB_9, hX_6⟩ := hR_11
    replace BA := hX_6.blk BA ne_1
    have HB_10 := hX_6.below HB_9 HB_9.size (fun k hk => hk ▸ ge_2)
    clear BR
    refine x_nil (hK_20 _ _ ?_)
    refine w2_ret ?_
    refine thn_ret ?_
    refine retC rfl hd_1 ((pm rfl).trans ta_1_2) (loadI hB_9 (by rw [(dgP_length _)]; exact ⟨by kernel_rfl, by kernel_rfl⟩)) ?_
    exact ⟨rfl, HB_10⟩
   ·simp only [DD9] at h_2
    have hsm := whole_small hV (by have h9 := h_2; omega)
    refine w2_skip ?_
    refine hK_17 _ _ ?_
    refine w2_sr (fun K_21 hK_21 => ?_)
    refine q_v 37 (.agg (iws .u64 (dgP V)).toArray) (o_loadI rfl ((pm rfl).trans ta_1_1) BA (by rw [dgP_length]; exact ⟨by kernel_rfl, by kernel_rfl⟩)) ?_
    refine op_do rfl rfl (o_storeI rfl ((pm rfl).trans ta_1_2) (pe hs_1 rfl rfl) BR (by rw [(dgP_length _)]; exact ⟨by kernel_rfl, by kernel_rfl⟩) (by rw [dgP_length]; simp [iws])) (fun w_13 hR_12 => ?_)
    obtain ⟨hB_10, hX_7⟩ := hR_12
    replace BA := hX_7.blk BA ne_1
    replace BG := hX_7.blk BG (Ne.symm ne_2)
    have HB_11 := hX_7.below HBL HBL.size (fun k hk => hk ▸ ge_2)
    clear BR
    refine x_nil (hK_21 _ _ ?_)
    refine w2_ret ?_
    refine retC rfl hd_1 ((pm rfl).trans ta_1_2) (loadI hB_10 (by rw [(dgP_length _)]; exact ⟨by kernel_rfl, by kernel_rfl⟩)) ?_
    exact ⟨by rw [hsm], HB_11⟩
theorem chunk_min {bs : List Nat} {q : Nat} (hq : bs.length = q) (K : Nat) : (bs.drop (16 * K)).take (min (16 * K + 16) q - 16 * K) = chunkL bs 16 K := by
 unfold chunkL
 by_cases h : 16 * K + 16 ≤ q
 ·rw [Nat.min_eq_left h, Nat.add_sub_cancel_left]
 ·rw [List.take_of_length_le (by rw [List.length_drop]; omega), List.take_of_length_le (by rw [List.length_drop]; omega)]
set_option maxHeartbeats 1000000 in
theorem TagW_any {A B : Option Addr} {c d m q : Nat} {ks bs : List Nat} (w : World) (ha : Bs w A c ks) (hb : Bs w B d bs) (hm : ks.length = m) (hq : bs.length = q) (hm32 : m = 32) (hl : q ≤ 70368744177664) :
  Calls Try.prog 60 #[.slice A (m) (c), .slice B (q) (d)] w fun e w' => ∃ A c, e = .returned (.tuple #[.slice A 16 c, .int .i64 0]) ∧ Own w' w.heap.size A c (tagL ks bs) ∧ Below w.heap.size w w' := by
 have hk255 : ∀ j, ks.getD j 0 ≤ 255 := fun j => Nat.le_of_lt_succ (getD_byte ha.b8 j)
 refine x_enter 119 Try.func60 rfl rfl (fun a hs hd ha0 => ?_)
 have t0 : a.eval (.tmp 0) = .slice A (m) (c) := ha0 0 _ rfl
 have t1 : a.eval (.tmp 1) = .slice B (q) (d) := ha0 1 _ rfl
 clear ha0
 refine w2_sr (fun K_1 hK_1 => ?_)
 refine q_as (.slice none (0) (0)) rfl ?_
 refine q_as (.int .i64 ((0 : Nat) : Int)) rfl ?_
 refine x_nil (hK_1 _ _ ?_)
 refine w2_seq (fun K_2 hK_2 => ?_)
 refine w2_sr (fun K_3 hK_3 => ?_)
 refine q_mv ((pm rfl).trans t0) ?_
 refine q_v 21 (.int .i64 ((m : Nat) : Int)) (o_len rfl (pe hs rfl rfl)) ?_
 refine q_v 22 (.bool (false)) (o_eq (o_neq (m := m) (n := 32) rfl (pe hs rfl rfl) rfl) (by rw [decide_eq_true hm32]; rfl)) ?_
 refine x_nil (hK_3 _ _ ?_)
 refine w2_condF (pe hs rfl rfl) ?_
 refine w2_skip ?_
 refine hK_2 _ _ ?_
 refine w2_sr (fun K_4 hK_4 => ?_)
 refine op_ex (d := 6) rfl rfl (o_alloc (zs := (iws .u64 (List.replicate 17 0)).toArray) rfl (fun _ => by kernel_rfl)) (fun v_1 w_1 hR_1 => ?_)
 obtain ⟨g_1, rfl, hle_1, hB_1, hb_1⟩ := hR_1
 have ge_1 : w.heap.size ≤ g_1 := hle_1
 refine op_ex (d := 7) rfl rfl (o_alloc (zs := (iws .u64 (List.replicate 17 0)).toArray) rfl (fun _ => by kernel_rfl)) (fun v_2 w_2 hR_2 => ?_)
 obtain ⟨g_2, rfl, hle_2, hB_2, hb_2⟩ := hR_2
 have ne_1 : g_1 ≠ g_2 := Nat.ne_of_lt (Nat.lt_of_lt_of_le hB_1.lt hle_2)
 have ge_2 : w.heap.size ≤ g_2 := Nat.le_trans hb_1.size hle_2
 replace hB_1 := hB_1.nx hb_2
 have HB_1 := below_from hb_1 hb_2
 refine x_nil (hK_4 _ _ ?_)
 refine w2_seq (fun K_5 hK_5 => ?_)
 refine w2_sr (fun K_6 hK_6 => ?_)
 refine q_v 23 (.int .i64 ((0 : Nat) : Int)) (o_move rfl rfl) ?_
 refine x_nil (hK_6 _ _ ?_)
 refine w2_block (fun K_7 hK_7 => ?_)
 refine x_loop (fun nn aa ww => ∃ (K : Nat), nn = 16 - K ∧ aa.tmps.size = 119 ∧ aa.defers = [] ∧ aa.eval (.tmp 0) = .slice A (m) (c) ∧ aa.eval (.tmp 1) = .slice B (q) (d) ∧ aa.eval (.tmp 4) = .slice none (0) (0) ∧ aa.eval (.tmp 5) = .int .i64 ((0 : Nat) : Int) ∧ aa.eval (.tmp 6) = .pointer (some ⟨g_1, 0, none⟩) ∧ aa.eval (.tmp 7) = .pointer (some ⟨g_2, 0, none⟩) ∧ aa.eval (.tmp 20) = .slice A (m) (c) ∧ aa.eval (.tmp 21) = .int .i64 ((m : Nat) : Int) ∧ aa.eval (.tmp 22) = .bool (false) ∧ aa.eval (.tmp 23) = .int .i64 ((K : Nat) : Int) ∧ K ≤ 16 ∧ Blk ww g_1 (iws .u64 (rK ks K)).toArray 106 ∧ Blk ww g_2 (iws .u64 (List.replicate 17 0)).toArray 106 ∧ Below w.heap.size w ww) (16) ?_ ?_
 ·exact ⟨0, rfl, (by rw [putsR_size]; exact hs), (by rw [putsR_defers]; exact hd), ((pm rfl).trans t0), ((pm rfl).trans t1), (pe hs rfl rfl), (pe hs rfl rfl), (pe hs rfl rfl), (pe hs rfl rfl), (pe hs rfl rfl), (pe hs rfl rfl), (pe hs rfl rfl), (pe hs rfl rfl), by omega, hB_1, hB_2, HB_1⟩
 ·skip
  clear t0 t1 hd hB_1 hB_2 HB_1
  rintro nna_1 a_1 w_3 ⟨K, hm_1, hs_1, hd_1, ta_1_0, ta_1_1, ta_1_4, ta_1_5, ta_1_6, ta_1_7, ta_1_20, ta_1_21, ta_1_22, ta_1_23, hK, BA, BH, HBL⟩ K_8 hK_8
  subst hm_1
  have hkl := rK_length ks K
  have hkb := hk255 K
  refine w2_sr (fun K_9 hK_9 => ?_)
  refine q_v 24 (.bool (decide (K < 16))) (o_lss (m := K) (n := 16) rfl ((pm rfl).trans ta_1_23) rfl) ?_
  refine x_nil (hK_9 _ _ ?_)
  refine w2_seq (fun K_10 hK_10 => ?_)
  refine w2_split (pe hs_1 rfl rfl) (fun h_1 => ?_) (fun h_1 => ?_)
  ·simp only [DD9] at h_1
   refine w2_skip ?_
   refine hK_10 _ _ ?_
   refine w2_seq (fun K_11 hK_11 => ?_)
   refine w2_block (fun K_12 hK_12 => ?_)
   refine w2_sr (fun K_13 hK_13 => ?_)
   refine q_mv ((pm rfl).trans ta_1_23) ?_
   refine q_at (pe hs_1 rfl rfl) ?_
   refine x_nil (hK_13 _ _ ?_)
   refine x_region (by kernel_rfl) ?_
   refine q_mv (pe hs_1 rfl rfl) ?_
   refine q_mv ((pm rfl).trans ta_1_0) ?_
   refine q_mv (pe hs_1 rfl rfl) ?_
   refine q_v 29 (.pointer (atA A (K))) (o_ix (k := K) rfl (pe hs_1 rfl rfl) (pe hs_1 rfl rfl) (by omega) ((ha.below HBL).some (by rw [hm]; omega))) ?_
   refine q_v 30 (.int .u8 ((ks.getD (K) 0 : Nat) : Int)) (o_ld8 rfl (pe hs_1 rfl rfl) (ha.below HBL) (by rw [hm]; omega) rfl) ?_
   refine q_v 31 (.int .u64 ((ks.getD (K) 0 : Nat) : Int)) (o_conv (m := (ks.getD (K) 0)) (r := ks.getD (K) 0) rfl (pe hs_1 rfl rfl) ⟨.int .u8, fun _ => by kernel_rfl⟩ (fun _ => by kernel_rfl) (by rw [IntKind.wrap_u64]; omega)) ?_
   refine op_val (d := 32) (v := .pointer (some ⟨g_1, K, none⟩)) rfl rfl (zero_off (o_ixA (k := 0) (i := K) (n := 17) (e := 23) rfl ((pm rfl).trans ta_1_6) (pe hs_1 rfl rfl) (by omega) (fun _ => by kernel_rfl) (fun _ => by kernel_rfl))) ?_
   refine op_do rfl rfl (o_storeW rfl (pe hs_1 rfl rfl) (pe hs_1 rfl rfl) BA (by rw [hkl]; omega) ⟨by kernel_rfl, by kernel_rfl⟩) (fun w_4 hR_3 => ?_)
   obtain ⟨hB_3, hX_1⟩ := hR_3
   replace BH := hX_1.blk BH (Ne.symm ne_1)
   have HB_2 := hX_1.below HBL HBL.size (fun k hk => hk ▸ ge_1)
   clear BA
   refine x_nil (hK_12 _ _ ?_)
   refine hK_11 _ _ ?_
   refine x_region (by kernel_rfl) ?_
   refine q_v 33 (.int .i64 ((K + 1 : Nat) : Int)) (o_add64 (m := K) (n := 1) rfl ((pm rfl).trans ta_1_23) rfl (by omega)) ?_
   refine q_mv (pe hs_1 rfl rfl) ?_
   refine x_nil ?_
   refine hK_8 _ _ _ ⟨K + 1, rfl, (by rw [putsR_size]; exact hs_1), (by rw [putsR_defers]; exact hd_1), ((pm rfl).trans ta_1_0), ((pm rfl).trans ta_1_1), ((pm rfl).trans ta_1_4), ((pm rfl).trans ta_1_5), ((pm rfl).trans ta_1_6), ((pm rfl).trans ta_1_7), ((pm rfl).trans ta_1_20), ((pm rfl).trans ta_1_21), ((pm rfl).trans ta_1_22), (pe hs_1 rfl rfl), (by omega), hB_3, BH, HB_2⟩ ?_
   omega
  ·simp only [DD9] at h_1
   obtain rfl : K = 16 := by omega
   refine w2_exit ?_
   refine thn_exit ?_
   refine thn_exit ?_
   refine exb_hit ?_
   refine hK_7 _ _ ?_
   refine hK_5 _ _ ?_
   refine w2_seq (fun K_14 hK_14 => ?_)
   refine w2_sr (fun K_15 hK_15 => ?_)
   refine q_v 34 (.agg (iws .i64 ([3, 7, 11, 15])).toArray) (o_bld (vs := #[(0, .int .i64 ((3 : Nat) : Int)), (1, .int .i64 ((7 : Nat) : Int)), (2, .int .i64 ((11 : Nat) : Int)), (3, .int .i64 ((15 : Nat) : Int))]) rfl (bld4 rfl rfl rfl rfl) (fun _ => by kernel_rfl)) ?_
   refine q_v 35 (.int .i64 ((0 : Nat) : Int)) (o_move rfl rfl) ?_
   refine x_nil (hK_15 _ _ ?_)
   refine w2_block (fun K_16 hK_16 => ?_)
   refine x_loop (fun nn aa ww => ∃ (K : Nat), nn = 4 - K ∧ aa.tmps.size = 119 ∧ aa.defers = [] ∧ aa.eval (.tmp 0) = .slice A (m) (c) ∧ aa.eval (.tmp 1) = .slice B (q) (d) ∧ aa.eval (.tmp 4) = .slice none (0) (0) ∧ aa.eval (.tmp 5) = .int .i64 ((0 : Nat) : Int) ∧ aa.eval (.tmp 6) = .pointer (some ⟨g_1, 0, none⟩) ∧ aa.eval (.tmp 7) = .pointer (some ⟨g_2, 0, none⟩) ∧ aa.eval (.tmp 20) = .slice A (m) (c) ∧ aa.eval (.tmp 21) = .int .i64 ((m : Nat) : Int) ∧ aa.eval (.tmp 22) = .bool (false) ∧ aa.eval (.tmp 23) = .int .i64 ((16 : Nat) : Int) ∧ aa.eval (.tmp 24) = .bool (decide (16 < 16)) ∧ aa.eval (.tmp 34) = .agg (iws .i64 ([3, 7, 11, 15])).toArray ∧ aa.eval (.tmp 35) = .int .i64 ((K : Nat) : Int) ∧ K ≤ 4 ∧ Blk ww g_1 (iws .u64 (cl1 (rK ks 16) K)).toArray 106 ∧ Blk ww g_2 (iws .u64 (List.replicate 17 0)).toArray 106 ∧ Below w.heap.size w ww) (4) ?_ ?_
   ·exact ⟨0, rfl, (by rw [putsR_size]; exact hs_1), (by rw [putsR_defers]; exact hd_1), ((pm rfl).trans ta_1_0), ((pm rfl).trans ta_1_1), ((pm rfl).trans ta_1_4), ((pm rfl).trans ta_1_5), ((pm rfl).trans ta_1_6), ((pm rfl).trans ta_1_7), ((pm rfl).trans ta_1_20), ((pm rfl).trans ta_1_21), ((pm rfl).trans ta_1_22), ((pm rfl).trans ta_1_23), (pe hs_1 rfl rfl), (pe hs_1 rfl rfl), (pe hs_1 rfl rfl), by omega, BA, BH, HBL⟩
   ·skip
    clear ta_1_0 ta_1_1 ta_1_4 ta_1_5 ta_1_20 ta_1_21 ta_1_22 ta_1_6 ta_1_7 ta_1_23 hd_1 BA BH HBL
    rintro nna_2 a_2 w_5 ⟨K, hm_2, hs_2, hd_2, ta_2_0, ta_2_1, ta_2_4, ta_2_5, ta_2_6, ta_2_7, ta_2_20, ta_2_21, ta_2_22, ta_2_23, ta_2_24, ta_2_34, ta_2_35, hK, BA, BH, HBL⟩ K_17 hK_17
    subst hm_2
    have hkl := (cl1_length (rK ks 16) K).trans (rK_length ks 16)
    have hkb := cl1_le (rK_le hk255 16) K (4 * K + 3)
    refine w2_sr (fun K_18 hK_18 => ?_)
    refine q_v 36 (.bool (decide (K < 4))) (o_lss (m := K) (n := 4) rfl ((pm rfl).trans ta_2_35) rfl) ?_
    refine x_nil (hK_18 _ _ ?_)
    refine w2_seq (fun K_19 hK_19 => ?_)
    refine w2_split (pe hs_2 rfl rfl) (fun h_2 => ?_) (fun h_2 => ?_)
    ·simp only [DD9] at h_2
     refine w2_skip ?_
     refine hK_19 _ _ ?_
     refine w2_seq (fun K_20 hK_20 => ?_)
     refine w2_block (fun K_21 hK_21 => ?_)
     refine w2_sr (fun K_22 hK_22 => ?_)
     refine q_v 37 (.int .i64 ((4 * K + 3 : Nat) : Int)) (o_eq (o_idx (n := 4) (e := 3) rfl ((pm rfl).trans ta_2_34) ((pm rfl).trans ta_2_35) (by omega) (by rfl) rfl (fun _ => by kernel_rfl) ⟨by kernel_rfl, by kernel_rfl⟩) (congrArg (fun z : Nat => Value.int .i64 (z : Int)) (by rcases (show K = 0 ∨ K = 1 ∨ K = 2 ∨ K = 3 by omega) with rfl | rfl | rfl | rfl <;> rfl))) ?_
     refine q_at (pe hs_2 rfl rfl) ?_
     refine x_nil (hK_22 _ _ ?_)
     refine x_region (by kernel_rfl) ?_
     refine q_mv (pe hs_2 rfl rfl) ?_
     refine op_val (d := 39) (v := .pointer (some ⟨g_1, 4 * K + 3, none⟩)) rfl rfl (zero_off (o_ixA (k := 0) (i := 4 * K + 3) (n := 17) (e := 23) rfl ((pm rfl).trans ta_2_6) (pe hs_2 rfl rfl) (by omega) (fun _ => by kernel_rfl) (fun _ => by kernel_rfl))) ?_
     refine q_v 40 (.int .u64 (((cl1 (rK ks 16) K).getD (4 * K + 3) 0 : Nat) : Int)) (o_loadW rfl (pe hs_2 rfl rfl) BA (by rw [hkl]; omega) rfl ⟨by kernel_rfl, by kernel_rfl⟩) ?_
     refine q_v 41 (.int .u64 ((((cl1 (rK ks 16) K).getD (4 * K + 3) 0) &&& 15 : Nat) : Int)) (o_bits (m := ((cl1 (rK ks 16) K).getD (4 * K + 3) 0)) (n := 15) (((cl1 (rK ks 16) K).getD (4 * K + 3) 0) &&& 15) rfl (pe hs_2 rfl rfl) rfl (by decide) (u64_and_nat _ _ (by omega) (by omega))) ?_
     refine op_val (d := 42) (v := .pointer (some ⟨g_1, 4 * K + 3, none⟩)) rfl rfl (zero_off (o_ixA (k := 0) (i := 4 * K + 3) (n := 17) (e := 23) rfl ((pm rfl).trans ta_2_6) (pe hs_2 rfl rfl) (by omega) (fun _ => by kernel_rfl) (fun _ => by kernel_rfl))) ?_
     refine op_do rfl rfl (o_storeW rfl (pe hs_2 rfl rfl) (pe hs_2 rfl rfl) BA (by rw [hkl]; omega) ⟨by kernel_rfl, by kernel_rfl⟩) (fun w_6 hR_4 => ?_)
     obtain ⟨hB_4, hX_2⟩ := hR_4
     replace BH := hX_2.blk BH (Ne.symm ne_1)
     have HB_3 := hX_2.below HBL HBL.size (fun k hk => hk ▸ ge_1)
     clear BA
     refine x_nil (hK_21 _ _ ?_)
     refine hK_20 _ _ ?_
     refine x_region (by kernel_rfl) ?_
     refine q_v 43 (.int .i64 ((K + 1 : Nat) : Int)) (o_add64 (m := K) (n := 1) rfl ((pm rfl).trans ta_2_35) rfl (by omega)) ?_
     refine q_mv (pe hs_2 rfl rfl) ?_
     refine x_nil ?_
     refine hK_17 _ _ _ ⟨K + 1, rfl, (by rw [putsR_size]; exact hs_2), (by rw [putsR_defers]; exact hd_2), ((pm rfl).trans ta_2_0), ((pm rfl).trans ta_2_1), ((pm rfl).trans ta_2_4), ((pm rfl).trans ta_2_5), ((pm rfl).trans ta_2_6), ((pm rfl).trans ta_2_7), ((pm rfl).trans ta_2_20), ((pm rfl).trans ta_2_21), ((pm rfl).trans ta_2_22), ((pm rfl).trans ta_2_23), ((pm rfl).trans ta_2_24), ((pm rfl).trans ta_2_34), (pe hs_2 rfl rfl), (by omega), hB_4, BH, HB_3⟩ ?_
     omega
    ·simp only [DD9] at h_2
     obtain rfl : K = 4 := by omega
     refine w2_exit ?_
     refine thn_exit ?_
     refine thn_exit ?_
     refine exb_hit ?_
     refine hK_16 _ _ ?_
     refine hK_14 _ _ ?_
     refine w2_seq (fun K_23 hK_23 => ?_)
     refine w2_sr (fun K_24 hK_24 => ?_)
     refine q_v 44 (.agg (iws .i64 ([4, 8, 12])).toArray) (o_bld (vs := #[(0, .int .i64 ((4 : Nat) : Int)), (1, .int .i64 ((8 : Nat) : Int)), (2, .int .i64 ((12 : Nat) : Int))]) rfl (bld3 rfl rfl rfl) (fun _ => by kernel_rfl)) ?_
     refine q_v 45 (.int .i64 ((0 : Nat) : Int)) (o_move rfl rfl) ?_
     refine x_nil (hK_24 _ _ ?_)
     refine w2_block (fun K_25 hK_25 => ?_)
     refine x_loop (fun nn aa ww => ∃ (K : Nat), nn = 3 - K ∧ aa.tmps.size = 119 ∧ aa.defers = [] ∧ aa.eval (.tmp 0) = .slice A (m) (c) ∧ aa.eval (.tmp 1) = .slice B (q) (d) ∧ aa.eval (.tmp 4) = .slice none (0) (0) ∧ aa.eval (.tmp 5) = .int .i64 ((0 : Nat) : Int) ∧ aa.eval (.tmp 6) = .pointer (some ⟨g_1, 0, none⟩) ∧ aa.eval (.tmp 7) = .pointer (some ⟨g_2, 0, none⟩) ∧ aa.eval (.tmp 20) = .slice A (m) (c) ∧ aa.eval (.tmp 21) = .int .i64 ((m : Nat) : Int) ∧ aa.eval (.tmp 22) = .bool (false) ∧ aa.eval (.tmp 23) = .int .i64 ((16 : Nat) : Int) ∧ aa.eval (.tmp 24) = .bool (decide (16 < 16)) ∧ aa.eval (.tmp 34) = .agg (iws .i64 ([3, 7, 11, 15])).toArray ∧ aa.eval (.tmp 35) = .int .i64 ((4 : Nat) : Int) ∧ aa.eval (.tmp 36) = .bool (decide (4 < 4)) ∧ aa.eval (.tmp 44) = .agg (iws .i64 ([4, 8, 12])).toArray ∧ aa.eval (.tmp 45) = .int .i64 ((K : Nat) : Int) ∧ K ≤ 3 ∧ Blk ww g_1 (iws .u64 (cl2 (cl1 (rK ks 16) 4) K)).toArray 106 ∧ Blk ww g_2 (iws .u64 (List.replicate 17 0)).toArray 106 ∧ Below w.heap.size w ww) (3) ?_ ?_
     ·exact ⟨0, rfl, (by rw [putsR_size]; exact hs_2), (by rw [putsR_defers]; exact hd_2), ((pm rfl).trans ta_2_0), ((pm rfl).trans ta_2_1), ((pm rfl).trans ta_2_4), ((pm rfl).trans ta_2_5), ((pm rfl).trans ta_2_6), ((pm rfl).trans ta_2_7), ((pm rfl).trans ta_2_20), ((pm rfl).trans ta_2_21), ((pm rfl).trans ta_2_22), ((pm rfl).trans ta_2_23), ((pm rfl).trans ta_2_24), ((pm rfl).trans ta_2_34), ((pm rfl).trans ta_2_35), (pe hs_2 rfl rfl), (pe hs_2 rfl rfl), (pe hs_2 rfl rfl), by omega, BA, BH, HBL⟩
     ·skip
      clear ta_2_0 ta_2_1 ta_2_4 ta_2_5 ta_2_20 ta_2_21 ta_2_22 ta_2_6 ta_2_7 ta_2_23 ta_2_24 ta_2_34 ta_2_35 hd_2 BA BH HBL
      rintro nna_3 a_3 w_7 ⟨K, hm_3, hs_3, hd_3, ta_3_0, ta_3_1, ta_3_4, ta_3_5, ta_3_6, ta_3_7, ta_3_20, ta_3_21, ta_3_22, ta_3_23, ta_3_24, ta_3_34, ta_3_35, ta_3_36, ta_3_44, ta_3_45, hK, BA, BH, HBL⟩ K_26 hK_26
      subst hm_3
      have hkl := (cl2_length _ K).trans ((cl1_length (rK ks 16) 4).trans (rK_length ks 16))
      have hkb := cl2_le (cl1_le (rK_le hk255 16) 4) K (4 * K + 4)
      refine w2_sr (fun K_27 hK_27 => ?_)
      refine q_v 46 (.bool (decide (K < 3))) (o_lss (m := K) (n := 3) rfl ((pm rfl).trans ta_3_45) rfl) ?_
      refine x_nil (hK_27 _ _ ?_)
      refine w2_seq (fun K_28 hK_28 => ?_)
      refine w2_split (pe hs_3 rfl rfl) (fun h_3 => ?_) (fun h_3 => ?_)
      ·simp only [DD9] at h_3
       refine w2_skip ?_
       refine hK_28 _ _ ?_
       refine w2_seq (fun K_29 hK_29 => ?_)
       refine w2_block (fun K_30 hK_30 => ?_)
       refine w2_sr (fun K_31 hK_31 => ?_)
       refine q_v 47 (.int .i64 ((4 * K + 4 : Nat) : Int)) (o_eq (o_idx (n := 3) (e := 3) rfl ((pm rfl).trans ta_3_44) ((pm rfl).trans ta_3_45) (by omega) (by rfl) rfl (fun _ => by kernel_rfl) ⟨by kernel_rfl, by kernel_rfl⟩) (congrArg (fun z : Nat => Value.int .i64 (z : Int)) (by rcases (show K = 0 ∨ K = 1 ∨ K = 2 by omega) with rfl | rfl | rfl <;> rfl))) ?_
       refine q_at (pe hs_3 rfl rfl) ?_
       refine x_nil (hK_31 _ _ ?_)
       refine x_region (by kernel_rfl) ?_
       refine q_mv (pe hs_3 rfl rfl) ?_
       refine op_val (d := 49) (v := .pointer (some ⟨g_1, 4 * K + 4, none⟩)) rfl rfl (zero_off (o_ixA (k := 0) (i := 4 * K + 4) (n := 17) (e := 23) rfl ((pm rfl).trans ta_3_6) (pe hs_3 rfl rfl) (by omega) (fun _ => by kernel_rfl) (fun _ => by kernel_rfl))) ?_
       refine q_v 50 (.int .u64 (((cl2 (cl1 (rK ks 16) 4) K).getD (4 * K + 4) 0 : Nat) : Int)) (o_loadW rfl (pe hs_3 rfl rfl) BA (by rw [hkl]; omega) rfl ⟨by kernel_rfl, by kernel_rfl⟩) ?_
       refine q_v 51 (.int .u64 ((((cl2 (cl1 (rK ks 16) 4) K).getD (4 * K + 4) 0) &&& 252 : Nat) : Int)) (o_bits (m := ((cl2 (cl1 (rK ks 16) 4) K).getD (4 * K + 4) 0)) (n := 252) (((cl2 (cl1 (rK ks 16) 4) K).getD (4 * K + 4) 0) &&& 252) rfl (pe hs_3 rfl rfl) rfl (by decide) (u64_and_nat _ _ (by omega) (by omega))) ?_
       refine op_val (d := 52) (v := .pointer (some ⟨g_1, 4 * K + 4, none⟩)) rfl rfl (zero_off (o_ixA (k := 0) (i := 4 * K + 4) (n := 17) (e := 23) rfl ((pm rfl).trans ta_3_6) (pe hs_3 rfl rfl) (by omega) (fun _ => by kernel_rfl) (fun _ => by kernel_rfl))) ?_
       refine op_do rfl rfl (o_storeW rfl (pe hs_3 rfl rfl) (pe hs_3 rfl rfl) BA (by rw [hkl]; omega) ⟨by kernel_rfl, by kernel_rfl⟩) (fun w_8 hR_5 => ?_)
       obtain ⟨hB_5, hX_3⟩ := hR_5
       replace BH := hX_3.blk BH (Ne.symm ne_1)
       have HB_4 := hX_3.below HBL HBL.size (fun k hk => hk ▸ ge_1)
       clear BA
       refine x_nil (hK_30 _ _ ?_)
       refine hK_29 _ _ ?_
       refine x_region (by kernel_rfl) ?_
       refine q_v 53 (.int .i64 ((K + 1 : Nat) : Int)) (o_add64 (m := K) (n := 1) rfl ((pm rfl).trans ta_3_45) rfl (by omega)) ?_
       refine q_mv (pe hs_3 rfl rfl) ?_
       refine x_nil ?_
       refine hK_26 _ _ _ ⟨K + 1, rfl, (by rw [putsR_size]; exact hs_3), (by rw [putsR_defers]; exact hd_3), ((pm rfl).trans ta_3_0), ((pm rfl).trans ta_3_1), ((pm rfl).trans ta_3_4), ((pm rfl).trans ta_3_5), ((pm rfl).trans ta_3_6), ((pm rfl).trans ta_3_7), ((pm rfl).trans ta_3_20), ((pm rfl).trans ta_3_21), ((pm rfl).trans ta_3_22), ((pm rfl).trans ta_3_23), ((pm rfl).trans ta_3_24), ((pm rfl).trans ta_3_34), ((pm rfl).trans ta_3_35), ((pm rfl).trans ta_3_36), ((pm rfl).trans ta_3_44), (pe hs_3 rfl rfl), (by omega), hB_5, BH, HB_4⟩ ?_
       omega
      ·simp only [DD9] at h_3
       obtain rfl : K = 3 := by omega
       refine w2_exit ?_
       refine thn_exit ?_
       refine thn_exit ?_
       refine exb_hit ?_
       refine hK_25 _ _ ?_
       refine hK_23 _ _ ?_
       refine w2_seq (fun K_32 hK_32 => ?_)
       refine w2_sr (fun K_33 hK_33 => ?_)
       refine q_as (.int .i64 ((0 : Nat) : Int)) rfl ?_
       refine x_nil ?_
       replace BA : Blk w_7 g_1 (iws .u64 (rP ks)).toArray 106 := BA
       replace BH : Blk w_7 g_2 (iws .u64 (dgP (stP ks bs 0))).toArray 106 := by (rw [show dgP (stP ks bs 0) = List.replicate 17 0 from (show dgP 0 = _ by decide)]; exact BH)
       refine hK_33 _ _ ?_
       refine w2_block (fun K_34 hK_34 => ?_)
       refine x_loop (fun nn aa ww => ∃ (K : Nat), nn = q - 16 * K ∧ aa.tmps.size = 119 ∧ aa.defers = [] ∧ aa.eval (.tmp 0) = .slice A (m) (c) ∧ aa.eval (.tmp 1) = .slice B (q) (d) ∧ aa.eval (.tmp 4) = .slice none (0) (0) ∧ aa.eval (.tmp 5) = .int .i64 ((0 : Nat) : Int) ∧ aa.eval (.tmp 6) = .pointer (some ⟨g_1, 0, none⟩) ∧ aa.eval (.tmp 7) = .pointer (some ⟨g_2, 0, none⟩) ∧ aa.eval (.tmp 13) = .int .i64 ((16 * K : Nat) : Int) ∧ aa.eval (.tmp 20) = .slice A (m) (c) ∧ aa.eval (.tmp 21) = .int .i64 ((m : Nat) : Int) ∧ aa.eval (.tmp 22) = .bool (false) ∧ aa.eval (.tmp 23) = .int .i64 ((16 : Nat) : Int) ∧ aa.eval (.tmp 24) = .bool (decide (16 < 16)) ∧ aa.eval (.tmp 34) = .agg (iws .i64 ([3, 7, 11, 15])).toArray ∧ aa.eval (.tmp 35) = .int .i64 ((4 : Nat) : Int) ∧ aa.eval (.tmp 36) = .bool (decide (4 < 4)) ∧ aa.eval (.tmp 44) = .agg (iws .i64 ([4, 8, 12])).toArray ∧ aa.eval (.tmp 45) = .int .i64 ((3 : Nat) : Int) ∧ aa.eval (.tmp 46) = .bool (decide (3 < 3)) ∧ K ≤ (q + 16 - 1) / 16 ∧ Blk ww g_1 (iws .u64 (rP ks)).toArray 106 ∧ Blk ww g_2 (iws .u64 (dgP (stP ks bs K))).toArray 106 ∧ Below w.heap.size w ww) (q) ?_ ?_
       ·exact ⟨0, rfl, (by rw [putsR_size]; exact hs_3), (by rw [putsR_defers]; exact hd_3), ((pm rfl).trans ta_3_0), ((pm rfl).trans ta_3_1), ((pm rfl).trans ta_3_4), ((pm rfl).trans ta_3_5), ((pm rfl).trans ta_3_6), ((pm rfl).trans ta_3_7), (pe hs_3 rfl rfl), ((pm rfl).trans ta_3_20), ((pm rfl).trans ta_3_21), ((pm rfl).trans ta_3_22), ((pm rfl).trans ta_3_23), ((pm rfl).trans ta_3_24), ((pm rfl).trans ta_3_34), ((pm rfl).trans ta_3_35), ((pm rfl).trans ta_3_36), ((pm rfl).trans ta_3_44), ((pm rfl).trans ta_3_45), (pe hs_3 rfl rfl), Nat.zero_le _, BA, BH, HBL⟩
       ·skip
        clear ta_3_0 ta_3_1 ta_3_4 ta_3_5 ta_3_20 ta_3_21 ta_3_22 ta_3_6 ta_3_7 ta_3_23 ta_3_24 ta_3_34 ta_3_35 ta_3_36 ta_3_44 ta_3_45 hd_3 BA BH HBL
        rintro nna_4 a_4 w_9 ⟨K, hm_4, hs_4, hd_4, ta_4_0, ta_4_1, ta_4_4, ta_4_5, ta_4_6, ta_4_7, ta_4_13, ta_4_20, ta_4_21, ta_4_22, ta_4_23, ta_4_24, ta_4_34, ta_4_35, ta_4_36, ta_4_44, ta_4_45, ta_4_46, hK, BA, BH, HBL⟩ K_35 hK_35
        subst hm_4
        refine w2_seq (fun K_36 hK_36 => ?_)
        refine w2_sr (fun K_37 hK_37 => ?_)
        refine q_mv ((pm rfl).trans ta_4_13) ?_
        refine q_mv ((pm rfl).trans ta_4_1) ?_
        refine q_v 56 (.int .i64 ((q : Nat) : Int)) (o_len rfl (pe hs_4 rfl rfl)) ?_
        refine q_v 57 (.bool (decide ((16 * K) < q))) (o_lss (m := (16 * K)) (n := q) rfl (pe hs_4 rfl rfl) (pe hs_4 rfl rfl)) ?_
        refine x_nil (hK_37 _ _ ?_)
        refine w2_split (pe hs_4 rfl rfl) (fun h_4 => ?_) (fun h_4 => ?_)
        ·simp only [DD9] at h_4
         have hKq : 16 * K < q := h_4
         have hbl := hb.le
         refine w2_skip ?_
         refine hK_36 _ _ ?_
         refine w2_seq (fun K_38 hK_38 => ?_)
         refine w2_block (fun K_39 hK_39 => ?_)
         refine w2_seq (fun K_40 hK_40 => ?_)
         have hsb := hb.sub (l := 16 * K) (q := min (16 * K + 16) q) (m := d) (by omega) (by omega) (Nat.le_refl _)
         rw [chunk_min hq K] at hsb
         have hcl : (chunkL bs 16 K).length = min (16 * K + 16) q - 16 * K := by rw [chunkL_length, hq]; omega
         refine x_region (by kernel_rfl) ?_
         refine q_mv ((pm rfl).trans ta_4_1) ?_
         refine q_mv ((pm rfl).trans ta_4_13) ?_
         refine q_mv ((pm rfl).trans ta_4_13) ?_
         refine q_v 63 (.int .i64 (((16 * K) + 16 : Nat) : Int)) (o_add64 (m := (16 * K)) (n := 16) rfl (pe hs_4 rfl rfl) rfl (by omega)) ?_
         refine q_mv ((pm rfl).trans ta_4_1) ?_
         refine q_v 65 (.int .i64 ((q : Nat) : Int)) (o_len rfl (pe hs_4 rfl rfl)) ?_
         refine q_v 66 (.int .i64 ((min ((16 * K) + 16) q : Nat) : Int)) (o_min rfl (pe hs_4 rfl rfl) (pe hs_4 rfl rfl)) ?_
         refine q_v 67 (.slice ((subA B (16 * K) d)) ((min ((16 * K) + 16) q) - (16 * K)) (d - (16 * K))) (o_slice2 (l := 16 * K) (h := min ((16 * K) + 16) q) rfl (pe hs_4 rfl rfl) (pe hs_4 rfl rfl) (pe hs_4 rfl rfl) (by omega) (by omega)) ?_
         refine q_at (pe hs_4 rfl rfl) ?_
         refine x_nil (hK_40 _ _ ?_)
         refine w2_seq (fun K_41 hK_41 => ?_)
         refine w2_sr (fun K_42 hK_42 => ?_)
         refine q_mv (pe hs_4 rfl rfl) ?_
         refine q_v 69 (.int .i64 (((min ((16 * K) + 16) q) - (16 * K) : Nat) : Int)) (o_len rfl (pe hs_4 rfl rfl)) ?_
         refine q_v 70 (.int .i64 ((0 : Nat) : Int)) (o_move rfl rfl) ?_
         refine x_nil ?_
         have hn16 : min (16 * K + 16) q - 16 * K ≤ 16 := by omega
         refine hK_42 _ _ ?_
         refine w2_block (fun K_43 hK_43 => ?_)
         refine x_loop (fun nn aa ww => ∃ (J : Nat), nn = min (16 * K + 16) q - 16 * K - J ∧ aa.tmps.size = 119 ∧ aa.defers = [] ∧ aa.eval (.tmp 0) = .slice A (m) (c) ∧ aa.eval (.tmp 1) = .slice B (q) (d) ∧ aa.eval (.tmp 4) = .slice none (0) (0) ∧ aa.eval (.tmp 5) = .int .i64 ((0 : Nat) : Int) ∧ aa.eval (.tmp 6) = .pointer (some ⟨g_1, 0, none⟩) ∧ aa.eval (.tmp 7) = .pointer (some ⟨g_2, 0, none⟩) ∧ aa.eval (.tmp 13) = .int .i64 ((16 * K : Nat) : Int) ∧ aa.eval (.tmp 14) = .slice ((subA B (16 * K) d)) ((min ((16 * K) + 16) q) - (16 * K)) (d - (16 * K)) ∧ aa.eval (.tmp 20) = .slice A (m) (c) ∧ aa.eval (.tmp 21) = .int .i64 ((m : Nat) : Int) ∧ aa.eval (.tmp 22) = .bool (false) ∧ aa.eval (.tmp 23) = .int .i64 ((16 : Nat) : Int) ∧ aa.eval (.tmp 24) = .bool (decide (16 < 16)) ∧ aa.eval (.tmp 34) = .agg (iws .i64 ([3, 7, 11, 15])).toArray ∧ aa.eval (.tmp 35) = .int .i64 ((4 : Nat) : Int) ∧ aa.eval (.tmp 36) = .bool (decide (4 < 4)) ∧ aa.eval (.tmp 44) = .agg (iws .i64 ([4, 8, 12])).toArray ∧ aa.eval (.tmp 45) = .int .i64 ((3 : Nat) : Int) ∧ aa.eval (.tmp 46) = .bool (decide (3 < 3)) ∧ aa.eval (.tmp 54) = .int .i64 ((16 * K : Nat) : Int) ∧ aa.eval (.tmp 55) = .slice B (q) (d) ∧ aa.eval (.tmp 56) = .int .i64 ((q : Nat) : Int) ∧ aa.eval (.tmp 57) = .bool (decide ((16 * K) < q)) ∧ aa.eval (.tmp 60) = .slice B (q) (d) ∧ aa.eval (.tmp 61) = .int .i64 ((16 * K : Nat) : Int) ∧ aa.eval (.tmp 62) = .int .i64 ((16 * K : Nat) : Int) ∧ aa.eval (.tmp 63) = .int .i64 (((16 * K) + 16 : Nat) : Int) ∧ aa.eval (.tmp 64) = .slice B (q) (d) ∧ aa.eval (.tmp 65) = .int .i64 ((q : Nat) : Int) ∧ aa.eval (.tmp 66) = .int .i64 ((min ((16 * K) + 16) q : Nat) : Int) ∧ aa.eval (.tmp 67) = .slice ((subA B (16 * K) d)) ((min ((16 * K) + 16) q) - (16 * K)) (d - (16 * K)) ∧ aa.eval (.tmp 68) = .slice ((subA B (16 * K) d)) ((min ((16 * K) + 16) q) - (16 * K)) (d - (16 * K)) ∧ aa.eval (.tmp 69) = .int .i64 (((min ((16 * K) + 16) q) - (16 * K) : Nat) : Int) ∧ aa.eval (.tmp 70) = .int .i64 ((J : Nat) : Int) ∧ J ≤ min (16 * K + 16) q - 16 * K ∧ Blk ww g_1 (iws .u64 (rP ks)).toArray 106 ∧ Blk ww g_2 (iws .u64 (addP (dgP (stP ks bs K)) (chunkL bs 16 K) J)).toArray 106 ∧ Below w.heap.size w ww) (min (16 * K + 16) q - 16 * K) ?_ ?_
         ·exact ⟨0, rfl, (by rw [putsR_size]; exact hs_4), (by rw [putsR_defers]; exact hd_4), ((pm rfl).trans ta_4_0), ((pm rfl).trans ta_4_1), ((pm rfl).trans ta_4_4), ((pm rfl).trans ta_4_5), ((pm rfl).trans ta_4_6), ((pm rfl).trans ta_4_7), ((pm rfl).trans ta_4_13), (pe hs_4 rfl rfl), ((pm rfl).trans ta_4_20), ((pm rfl).trans ta_4_21), ((pm rfl).trans ta_4_22), ((pm rfl).trans ta_4_23), ((pm rfl).trans ta_4_24), ((pm rfl).trans ta_4_34), ((pm rfl).trans ta_4_35), ((pm rfl).trans ta_4_36), ((pm rfl).trans ta_4_44), ((pm rfl).trans ta_4_45), ((pm rfl).trans ta_4_46), (pe hs_4 rfl rfl), (pe hs_4 rfl rfl), (pe hs_4 rfl rfl), (pe hs_4 rfl rfl), (pe hs_4 rfl rfl), (pe hs_4 rfl rfl), (pe hs_4 rfl rfl), (pe hs_4 rfl rfl), (pe hs_4 rfl rfl), (pe hs_4 rfl rfl), (pe hs_4 rfl rfl), (pe hs_4 rfl rfl), (pe hs_4 rfl rfl), (pe hs_4 rfl rfl), (pe hs_4 rfl rfl), Nat.zero_le _, BA, BH, HBL⟩
         ·skip
          clear ta_4_0 ta_4_1 ta_4_4 ta_4_5 ta_4_20 ta_4_21 ta_4_22 ta_4_6 ta_4_7 ta_4_23 ta_4_24 ta_4_34 ta_4_35 ta_4_36 ta_4_44 ta_4_45 ta_4_46 ta_4_13 hd_4 BA BH HBL
          rintro nna_5 a_5 w_10 ⟨J, hm_5, hs_5, hd_5, ta_5_0, ta_5_1, ta_5_4, ta_5_5, ta_5_6, ta_5_7, ta_5_13, ta_5_14, ta_5_20, ta_5_21, ta_5_22, ta_5_23, ta_5_24, ta_5_34, ta_5_35, ta_5_36, ta_5_44, ta_5_45, ta_5_46, ta_5_54, ta_5_55, ta_5_56, ta_5_57, ta_5_60, ta_5_61, ta_5_62, ta_5_63, ta_5_64, ta_5_65, ta_5_66, ta_5_67, ta_5_68, ta_5_69, ta_5_70, hJ, BA, BH, HBL⟩ K_44 hK_44
          subst hm_5
          have hal : (addP (dgP (stP ks bs K)) (chunkL bs 16 K) J).length = 17 := (addP_length _ _ J).trans (dgP_length _)
          have hx255 : ∀ j, (chunkL bs 16 K).getD j 0 ≤ 255 := fun j => Nat.le_of_lt_succ (getD_byte (chunkL_lt hb.b8 16 K) j)
          have hab := addP_le (dgP_le (stP ks bs K)) hx255 J J
          have hxb := hx255 J
          refine w2_sr (fun K_45 hK_45 => ?_)
          refine q_v 71 (.bool (decide (J < ((min ((16 * K) + 16) q) - (16 * K))))) (o_lss (m := J) (n := ((min ((16 * K) + 16) q) - (16 * K))) rfl ((pm rfl).trans ta_5_70) ((pm rfl).trans ta_5_69)) ?_
          refine x_nil (hK_45 _ _ ?_)
          refine w2_seq (fun K_46 hK_46 => ?_)
          refine w2_split (pe hs_5 rfl rfl) (fun h_5 => ?_) (fun h_5 => ?_)
          ·simp only [DD9] at h_5
           refine w2_skip ?_
           refine hK_46 _ _ ?_
           refine w2_seq (fun K_47 hK_47 => ?_)
           refine w2_block (fun K_48 hK_48 => ?_)
           refine w2_sr (fun K_49 hK_49 => ?_)
           refine q_mv ((pm rfl).trans ta_5_70) ?_
           refine q_v 73 (.pointer (atA ((subA B (16 * K) d)) (J))) (o_ix (k := J) rfl ((pm rfl).trans ta_5_68) ((pm rfl).trans ta_5_70) (by omega) ((hsb.below HBL).some (by rw [hcl]; omega))) ?_
           refine q_v 74 (.int .u8 (((chunkL bs 16 K).getD (J) 0 : Nat) : Int)) (o_ld8 rfl (pe hs_5 rfl rfl) (hsb.below HBL) (by rw [hcl]; omega) rfl) ?_
           refine q_at (pe hs_5 rfl rfl) ?_
           refine q_at (pe hs_5 rfl rfl) ?_
           refine x_nil (hK_49 _ _ ?_)
           refine x_region (by kernel_rfl) ?_
           refine q_mv (pe hs_5 rfl rfl) ?_
           refine op_val (d := 76) (v := .pointer (some ⟨g_2, J, none⟩)) rfl rfl (zero_off (o_ixA (k := 0) (i := J) (n := 17) (e := 23) rfl ((pm rfl).trans ta_5_7) (pe hs_5 rfl rfl) (by omega) (fun _ => by kernel_rfl) (fun _ => by kernel_rfl))) ?_
           refine q_v 77 (.int .u64 (((addP (dgP (stP ks bs K)) (chunkL bs 16 K) J).getD (J) 0 : Nat) : Int)) (o_loadW rfl (pe hs_5 rfl rfl) BH (by rw [hal]; omega) rfl ⟨by kernel_rfl, by kernel_rfl⟩) ?_
           refine q_mv (pe hs_5 rfl rfl) ?_
           refine q_v 79 (.int .u64 (((chunkL bs 16 K).getD (J) 0 : Nat) : Int)) (o_conv (m := ((chunkL bs 16 K).getD (J) 0)) (r := (chunkL bs 16 K).getD (J) 0) rfl (pe hs_5 rfl rfl) ⟨.int .u8, fun _ => by kernel_rfl⟩ (fun _ => by kernel_rfl) (by rw [IntKind.wrap_u64]; omega)) ?_
           refine q_v 80 (.int .u64 ((((addP (dgP (stP ks bs K)) (chunkL bs 16 K) J).getD (J) 0) + ((chunkL bs 16 K).getD (J) 0) : Nat) : Int)) (o_addU (m := ((addP (dgP (stP ks bs K)) (chunkL bs 16 K) J).getD (J) 0)) (n := ((chunkL bs 16 K).getD (J) 0)) (((addP (dgP (stP ks bs K)) (chunkL bs 16 K) J).getD (J) 0) + ((chunkL bs 16 K).getD (J) 0)) rfl (pe hs_5 rfl rfl) (pe hs_5 rfl rfl) (by rw [IntKind.wrap_u64]; omega)) ?_
           refine op_val (d := 81) (v := .pointer (some ⟨g_2, J, none⟩)) rfl rfl (zero_off (o_ixA (k := 0) (i := J) (n := 17) (e := 23) rfl ((pm rfl).trans ta_5_7) (pe hs_5 rfl rfl) (by omega) (fun _ => by kernel_rfl) (fun _ => by kernel_rfl))) ?_
           refine op_do rfl rfl (o_storeW rfl (pe hs_5 rfl rfl) (pe hs_5 rfl rfl) BH (by rw [hal]; omega) ⟨by kernel_rfl, by kernel_rfl⟩) (fun w_11 hR_6 => ?_)
           obtain ⟨hB_6, hX_4⟩ := hR_6
           replace BA := hX_4.blk BA ne_1
           have HB_5 := hX_4.below HBL HBL.size (fun k hk => hk ▸ ge_2)
           clear BH
           refine x_nil (hK_48 _ _ ?_)
           refine hK_47 _ _ ?_
           refine x_region (by kernel_rfl) ?_
           refine q_v 82 (.int .i64 ((J + 1 : Nat) : Int)) (o_add64 (m := J) (n := 1) rfl ((pm rfl).trans ta_5_70) rfl (by omega)) ?_
           refine q_mv (pe hs_5 rfl rfl) ?_
           refine x_nil ?_
           refine hK_44 _ _ _ ⟨J + 1, rfl, (by rw [putsR_size]; exact hs_5), (by rw [putsR_defers]; exact hd_5), ((pm rfl).trans ta_5_0), ((pm rfl).trans ta_5_1), ((pm rfl).trans ta_5_4), ((pm rfl).trans ta_5_5), ((pm rfl).trans ta_5_6), ((pm rfl).trans ta_5_7), ((pm rfl).trans ta_5_13), ((pm rfl).trans ta_5_14), ((pm rfl).trans ta_5_20), ((pm rfl).trans ta_5_21), ((pm rfl).trans ta_5_22), ((pm rfl).trans ta_5_23), ((pm rfl).trans ta_5_24), ((pm rfl).trans ta_5_34), ((pm rfl).trans ta_5_35), ((pm rfl).trans ta_5_36), ((pm rfl).trans ta_5_44), ((pm rfl).trans ta_5_45), ((pm rfl).trans ta_5_46), ((pm rfl).trans ta_5_54), ((pm rfl).trans ta_5_55), ((pm rfl).trans ta_5_56), ((pm rfl).trans ta_5_57), ((pm rfl).trans ta_5_60), ((pm rfl).trans ta_5_61), ((pm rfl).trans ta_5_62), ((pm rfl).trans ta_5_63), ((pm rfl).trans ta_5_64), ((pm rfl).trans ta_5_65), ((pm rfl).trans ta_5_66), ((pm rfl).trans ta_5_67), ((pm rfl).trans ta_5_68), ((pm rfl).trans ta_5_69), (pe hs_5 rfl rfl), (by omega), BA, hB_6, HB_5⟩ ?_
           omega
          ·simp only [DD9] at h_5
           obtain rfl : J = min (16 * K + 16) q - 16 * K := by omega
           refine w2_exit ?_
           refine thn_exit ?_
           refine thn_exit ?_
           refine exb_hit ?_
           refine hK_43 _ _ ?_
           refine hK_41 _ _ ?_
           refine w2_sr (fun K_50 hK_50 => ?_)
           refine q_mv ((pm rfl).trans ta_5_14) ?_
           refine q_v 84 (.int .i64 (((min ((16 * K) + 16) q) - (16 * K) : Nat) : Int)) (o_len rfl (pe hs_5 rfl rfl)) ?_
           refine op_val (d := 85) (v := .pointer (some ⟨g_2, (min ((16 * K) + 16) q) - (16 * K), none⟩)) rfl rfl (zero_off (o_ixA (k := 0) (i := (min ((16 * K) + 16) q) - (16 * K)) (n := 17) (e := 23) rfl ((pm rfl).trans ta_5_7) (pe hs_5 rfl rfl) (by omega) (fun _ => by kernel_rfl) (fun _ => by kernel_rfl))) ?_
           refine q_v 86 (.int .u64 (((addP (dgP (stP ks bs K)) (chunkL bs 16 K) (min (16 * K + 16) q - 16 * K)).getD ((min ((16 * K) + 16) q) - (16 * K)) 0 : Nat) : Int)) (o_loadW rfl (pe hs_5 rfl rfl) BH (by rw [hal]; omega) rfl ⟨by kernel_rfl, by kernel_rfl⟩) ?_
           refine q_v 87 (.int .u64 ((((addP (dgP (stP ks bs K)) (chunkL bs 16 K) (min (16 * K + 16) q - 16 * K)).getD ((min ((16 * K) + 16) q) - (16 * K)) 0) + 1 : Nat) : Int)) (o_addU (m := ((addP (dgP (stP ks bs K)) (chunkL bs 16 K) (min (16 * K + 16) q - 16 * K)).getD ((min ((16 * K) + 16) q) - (16 * K)) 0)) (n := 1) (((addP (dgP (stP ks bs K)) (chunkL bs 16 K) (min (16 * K + 16) q - 16 * K)).getD ((min ((16 * K) + 16) q) - (16 * K)) 0) + 1) rfl (pe hs_5 rfl rfl) rfl (by rw [IntKind.wrap_u64]; omega)) ?_
           refine op_val (d := 88) (v := .pointer (some ⟨g_2, (min ((16 * K) + 16) q) - (16 * K), none⟩)) rfl rfl (zero_off (o_ixA (k := 0) (i := (min ((16 * K) + 16) q) - (16 * K)) (n := 17) (e := 23) rfl ((pm rfl).trans ta_5_7) (pe hs_5 rfl rfl) (by omega) (fun _ => by kernel_rfl) (fun _ => by kernel_rfl))) ?_
           refine op_do rfl rfl (o_storeW rfl (pe hs_5 rfl rfl) (pe hs_5 rfl rfl) BH (by rw [hal]; omega) ⟨by kernel_rfl, by kernel_rfl⟩) (fun w_12 hR_7 => ?_)
           obtain ⟨hB_7, hX_5⟩ := hR_7
           replace BA := hX_5.blk BA ne_1
           have HB_6 := hX_5.below HBL HBL.size (fun k hk => hk ▸ ge_2)
           clear BH
           refine x_nil (hK_50 _ _ ?_)
           obtain ⟨p9, hp9⟩ : ∃ z, z = pieP (dgP (stP ks bs K)) (chunkL bs 16 K) := ⟨_, rfl⟩
           have hl9 : p9.length = 17 := by rw [hp9, pieP_length, dgP_length]
           have hM9 : ∀ j, p9.getD j 0 ≤ 255 * 4294967296 := by intro j; rw [hp9]; exact pieP_le (dgP_le _) hx255 j
           replace hB_7 : Blk w_12 g_2 (iws .u64 p9).toArray 106 := by (rw [hp9]; unfold pieP; rw [hcl]; exact hB_7)
           refine x_drawn 3 [fun _ v => v = .agg (iws .u64 (p9)).toArray, fun ww vv => vv = .agg (iws .u64 (dgP (car2 (valB 256 p9)))).toArray, fun _ v => v = .agg (iws .u64 (rP ks)).toArray] [89, 90, 91] hs_5 hd_5 (by kernel_rfl) (by kernel_rfl) (by kernel_rfl) (by kernel_rfl) (by kernel_rfl) ⟨stLit, stLit, stLit, trivial⟩ ⟨(step_ok rfl (fun a' w' hb' hO hD => by
             have d_1 := (hO 7 (by decide)).trans ((pm rfl).trans ta_5_7)
             exact .inl ⟨_, _, (o_loadI rfl d_1 (hB_7.nx hb') (by rw [hl9]; exact ⟨by kernel_rfl, by kernel_rfl⟩)), rfl, Below.refl _ _⟩)),
(step_ok rfl (fun a' w' hb' hO hD => by
             have d_2 : a'.eval (.tmp 89) = .agg (iws .u64 (p9)).toArray := hD 0 89 (by kernel_rfl) rfl
             exact .inr ⟨_, #[.agg (iws .u64 (p9)).toArray], (exec_call Try.func89 (by kernel_rfl) (by kernel_rfl) _ rfl _ _ (args1 d_2)), Calls.mono (carryW_any _ hl9 hM9) (fun e w'' hR => by obtain ⟨rfl, hb_3⟩ := hR; exact ⟨_, rfl, rfl, hb_3⟩)⟩)),
(step_ok rfl (fun a' w' hb' hO hD => by
             have d_3 := (hO 6 (by decide)).trans ((pm rfl).trans ta_5_6)
             exact .inl ⟨_, _, (o_loadI rfl d_3 (BA.nx hb') (by rw [rP_length]; exact ⟨by kernel_rfl, by kernel_rfl⟩)), rfl, Below.refl _ _⟩)), trivial⟩ (fun a_6 w_13 hs_6 hd_6 hb_4 hO_1 hV_1 => ?_)
           have ta_6_0 := (hO_1 0 (by decide)).trans ((pm rfl).trans ta_5_0)
           have ta_6_1 := (hO_1 1 (by decide)).trans ((pm rfl).trans ta_5_1)
           have ta_6_4 := (hO_1 4 (by decide)).trans ((pm rfl).trans ta_5_4)
           have ta_6_5 := (hO_1 5 (by decide)).trans ((pm rfl).trans ta_5_5)
           have ta_6_20 := (hO_1 20 (by decide)).trans ((pm rfl).trans ta_5_20)
           have ta_6_21 := (hO_1 21 (by decide)).trans ((pm rfl).trans ta_5_21)
           have ta_6_22 := (hO_1 22 (by decide)).trans ((pm rfl).trans ta_5_22)
           have ta_6_6 := (hO_1 6 (by decide)).trans ((pm rfl).trans ta_5_6)
           have ta_6_7 := (hO_1 7 (by decide)).trans ((pm rfl).trans ta_5_7)
           have ta_6_23 := (hO_1 23 (by decide)).trans ((pm rfl).trans ta_5_23)
           have ta_6_24 := (hO_1 24 (by decide)).trans ((pm rfl).trans ta_5_24)
           have ta_6_34 := (hO_1 34 (by decide)).trans ((pm rfl).trans ta_5_34)
           have ta_6_35 := (hO_1 35 (by decide)).trans ((pm rfl).trans ta_5_35)
           have ta_6_36 := (hO_1 36 (by decide)).trans ((pm rfl).trans ta_5_36)
           have ta_6_44 := (hO_1 44 (by decide)).trans ((pm rfl).trans ta_5_44)
           have ta_6_45 := (hO_1 45 (by decide)).trans ((pm rfl).trans ta_5_45)
           have ta_6_46 := (hO_1 46 (by decide)).trans ((pm rfl).trans ta_5_46)
           have ta_6_13 := (hO_1 13 (by decide)).trans ((pm rfl).trans ta_5_13)
           clear ta_5_0 ta_5_1 ta_5_4 ta_5_5 ta_5_20 ta_5_21 ta_5_22 ta_5_6 ta_5_7 ta_5_23 ta_5_24 ta_5_34 ta_5_35 ta_5_36 ta_5_44 ta_5_45 ta_5_46 ta_5_13 ta_5_54 ta_5_55 ta_5_56 ta_5_57 ta_5_60 ta_5_61 ta_5_62 ta_5_63 ta_5_64 ta_5_65 ta_5_66 ta_5_67 ta_5_14 ta_5_68 ta_5_69 ta_5_70 hd_5
           replace BA := BA.nx hb_4
           replace hB_7 := hB_7.nx hb_4
           have HB_7 := below_from HB_6 hb_4
           have ta_6_90 : a_6.eval (.tmp 90) = .agg (iws .u64 (dgP (car2 (valB 256 p9)))).toArray := hV_1 1 90 rfl rfl
           have ta_6_91 : a_6.eval (.tmp 91) = .agg (iws .u64 (rP ks)).toArray := hV_1 2 91 rfl rfl
           clear hV_1 hO_1
           simp only [List.drop_succ_cons, List.drop_zero]
           refine q_ca (vs := #[.agg (iws .u64 (dgP (car2 (valB 256 p9)))).toArray, .agg (iws .u64 (rP ks)).toArray]) Try.func88 (args2 ((pm rfl).trans ta_6_90) ((pm rfl).trans ta_6_91)) (timesW_any _ (dgP_length _) (rP_length ks) (dgP_le _) (rP_le hk255)) (fun e_1 w_14 hR_8 => ?_)
           obtain ⟨rfl, hb_6⟩ := hR_8
           replace BA := BA.nx hb_6
           replace hB_7 := hB_7.nx hb_6
           have HB_8 := below_from HB_7 hb_6
           refine ⟨_, rfl, ?_⟩
           refine op_do rfl rfl (o_storeI rfl ((pm rfl).trans ta_6_7) (pe hs_6 rfl rfl) hB_7 (by rw [(dgP_length _)]; exact ⟨by kernel_rfl, by kernel_rfl⟩) (by simp [iws, dgP_length, hl9])) (fun w_15 hR_9 => ?_)
           obtain ⟨hB_8, hX_6⟩ := hR_9
           replace BA := hX_6.blk BA ne_1
           have HB_9 := hX_6.below HB_8 HB_8.size (fun k hk => hk ▸ ge_2)
           clear hB_7
           refine x_nil ?_
           replace hB_8 : Blk w_15 g_2 (iws .u64 (dgP (stP ks bs (K + 1)))).toArray 106 := by (rw [stP, stepP, ← hp9]; exact hB_8)
           refine hK_39 _ _ ?_
           refine hK_38 _ _ ?_
           refine x_region (by kernel_rfl) ?_
           refine q_mv ((pm rfl).trans ta_6_13) ?_
           refine q_v 59 (.int .i64 ((16 * (K + 1) : Nat) : Int)) (o_eq (o_add64 (m := (16 * K)) (n := 16) rfl (pe hs_6 rfl rfl) rfl (by omega)) (congrArg (fun z : Nat => Value.int .i64 (z : Int)) (by omega))) ?_
           refine q_at (pe hs_6 rfl rfl) ?_
           refine x_nil ?_
           refine hK_35 _ _ _ ⟨K + 1, rfl, (by rw [putsR_size]; exact hs_6), (by rw [putsR_defers]; exact hd_6), ((pm rfl).trans ta_6_0), ((pm rfl).trans ta_6_1), ((pm rfl).trans ta_6_4), ((pm rfl).trans ta_6_5), ((pm rfl).trans ta_6_6), ((pm rfl).trans ta_6_7), (pe hs_6 rfl rfl), ((pm rfl).trans ta_6_20), ((pm rfl).trans ta_6_21), ((pm rfl).trans ta_6_22), ((pm rfl).trans ta_6_23), ((pm rfl).trans ta_6_24), ((pm rfl).trans ta_6_34), ((pm rfl).trans ta_6_35), ((pm rfl).trans ta_6_36), ((pm rfl).trans ta_6_44), ((pm rfl).trans ta_6_45), ((pm rfl).trans ta_6_46), (by omega), BA, hB_8, HB_9⟩ ?_
           omega
        ·simp only [DD9] at h_4
         obtain rfl : K = (q + 16 - 1) / 16 := by omega
         refine w2_exit ?_
         refine thn_exit ?_
         refine thn_exit ?_
         refine exb_hit ?_
         refine hK_34 _ _ ?_
         refine hK_32 _ _ ?_
         refine w2_sr (fun K_51 hK_51 => ?_)
         refine q_v 93 (.agg (iws .u64 (dgP (stP ks bs ((q + 16 - 1) / 16)))).toArray) (o_loadI rfl ((pm rfl).trans ta_4_7) BH (by rw [dgP_length]; exact ⟨by kernel_rfl, by kernel_rfl⟩)) ?_
         refine q_ca (vs := #[.agg (iws .u64 (dgP (stP ks bs ((q + 16 - 1) / 16)))).toArray]) Try.func90 (args1 (pe hs_4 rfl rfl)) (wholeW_any _ (stP_lt ha.b8 bs _)) (fun e_2 w_16 hR_10 => ?_)
         obtain ⟨rfl, hb_8⟩ := hR_10
         replace BA := BA.nx hb_8
         replace BH := BH.nx hb_8
         have HB_10 := below_from HBL hb_8
         refine ⟨_, rfl, ?_⟩
         refine op_do rfl rfl (o_storeI rfl ((pm rfl).trans ta_4_7) (pe hs_4 rfl rfl) BH (by rw [(dgP_length _)]; exact ⟨by kernel_rfl, by kernel_rfl⟩) (by simp [iws, dgP_length])) (fun w_17 hR_11 => ?_)
         obtain ⟨hB_9, hX_7⟩ := hR_11
         replace BA := hX_7.blk BA ne_1
         have HB_11 := hX_7.below HB_10 HB_10.size (fun k hk => hk ▸ ge_2)
         clear BH
         refine x_nil (hK_51 _ _ ?_)
         refine w2_seq (fun K_52 hK_52 => ?_)
         obtain ⟨T9, hT9⟩ : ∃ z, z = (stP ks bs ((q + 16 - 1) / 16) % 1361129467683753853853498429727072845819) := ⟨_, rfl⟩
         rw [← hT9] at hB_9
         refine x_region (by kernel_rfl) ?_
         refine q_as (.int .u64 ((0 : Nat) : Int)) rfl ?_
         refine x_nil (hK_52 _ _ ?_)
         refine w2_sr (fun K_53 hK_53 => ?_)
         refine q_as (.slice none (0) (0)) rfl ?_
         refine x_nil (hK_53 _ _ ?_)
         refine w2_seq (fun K_54 hK_54 => ?_)
         refine w2_sr (fun K_55 hK_55 => ?_)
         refine q_v 95 (.int .i64 ((0 : Nat) : Int)) (o_move rfl rfl) ?_
         refine x_nil (hK_55 _ _ ?_)
         refine w2_block (fun K_56 hK_56 => ?_)
         refine x_loop (fun nn aa ww => ∃ (K : Nat) (A1 : Option Addr) (c1 : Nat), nn = 16 - K ∧ aa.tmps.size = 119 ∧ aa.defers = [] ∧ aa.eval (.tmp 0) = .slice A (m) (c) ∧ aa.eval (.tmp 1) = .slice B (q) (d) ∧ aa.eval (.tmp 4) = .slice none (0) (0) ∧ aa.eval (.tmp 5) = .int .i64 ((0 : Nat) : Int) ∧ aa.eval (.tmp 6) = .pointer (some ⟨g_1, 0, none⟩) ∧ aa.eval (.tmp 7) = .pointer (some ⟨g_2, 0, none⟩) ∧ aa.eval (.tmp 13) = .int .i64 ((16 * ((q + 16 - 1) / 16) : Nat) : Int) ∧ aa.eval (.tmp 17) = .int .u64 (((sumP (sumF T9 ks) K).2 : Nat) : Int) ∧ aa.eval (.tmp 18) = .slice A1 (K) (c1) ∧ aa.eval (.tmp 20) = .slice A (m) (c) ∧ aa.eval (.tmp 21) = .int .i64 ((m : Nat) : Int) ∧ aa.eval (.tmp 22) = .bool (false) ∧ aa.eval (.tmp 23) = .int .i64 ((16 : Nat) : Int) ∧ aa.eval (.tmp 24) = .bool (decide (16 < 16)) ∧ aa.eval (.tmp 34) = .agg (iws .i64 ([3, 7, 11, 15])).toArray ∧ aa.eval (.tmp 35) = .int .i64 ((4 : Nat) : Int) ∧ aa.eval (.tmp 36) = .bool (decide (4 < 4)) ∧ aa.eval (.tmp 44) = .agg (iws .i64 ([4, 8, 12])).toArray ∧ aa.eval (.tmp 45) = .int .i64 ((3 : Nat) : Int) ∧ aa.eval (.tmp 46) = .bool (decide (3 < 3)) ∧ aa.eval (.tmp 54) = .int .i64 ((16 * ((q + 16 - 1) / 16) : Nat) : Int) ∧ aa.eval (.tmp 55) = .slice B (q) (d) ∧ aa.eval (.tmp 56) = .int .i64 ((q : Nat) : Int) ∧ aa.eval (.tmp 57) = .bool (decide ((16 * ((q + 16 - 1) / 16)) < q)) ∧ aa.eval (.tmp 93) = .agg (iws .u64 (dgP (stP ks bs ((q + 16 - 1) / 16)))).toArray ∧ aa.eval (.tmp 94) = .agg (iws .u64 (dgP (((stP ks bs ((q + 16 - 1) / 16))) % 1361129467683753853853498429727072845819))).toArray ∧ aa.eval (.tmp 95) = .int .i64 ((K : Nat) : Int) ∧ K ≤ 16 ∧ Own ww w.heap.size A1 c1 (sumP (sumF T9 ks) K).1 ∧ Blk ww g_1 (iws .u64 (rP ks)).toArray 106 ∧ Blk ww g_2 (iws .u64 (dgP T9)).toArray 106 ∧ Below w.heap.size w ww) (16) ?_ ?_
         ·exact ⟨0, none, 0, rfl, (by rw [putsR_size]; exact hs_4), (by rw [putsR_defers]; exact hd_4), ((pm rfl).trans ta_4_0), ((pm rfl).trans ta_4_1), ((pm rfl).trans ta_4_4), ((pm rfl).trans ta_4_5), ((pm rfl).trans ta_4_6), ((pm rfl).trans ta_4_7), ((pm rfl).trans ta_4_13), (pe hs_4 rfl rfl), (pe hs_4 rfl rfl), ((pm rfl).trans ta_4_20), ((pm rfl).trans ta_4_21), ((pm rfl).trans ta_4_22), ((pm rfl).trans ta_4_23), ((pm rfl).trans ta_4_24), ((pm rfl).trans ta_4_34), ((pm rfl).trans ta_4_35), ((pm rfl).trans ta_4_36), ((pm rfl).trans ta_4_44), ((pm rfl).trans ta_4_45), ((pm rfl).trans ta_4_46), (pe hs_4 rfl rfl), (pe hs_4 rfl rfl), (pe hs_4 rfl rfl), (pe hs_4 rfl rfl), (pe hs_4 rfl rfl), (pe hs_4 rfl rfl), (pe hs_4 rfl rfl), Nat.zero_le _, Own.nil _ _, BA, hB_9, HB_11⟩
         ·skip
          clear ta_4_0 ta_4_1 ta_4_4 ta_4_5 ta_4_20 ta_4_21 ta_4_22 ta_4_6 ta_4_7 ta_4_23 ta_4_24 ta_4_34 ta_4_35 ta_4_36 ta_4_44 ta_4_45 ta_4_46 ta_4_13 hd_4 BA hB_9 HB_11
          rintro nna_7 a_7 w_18 ⟨K, A1, c1, hm_6, hs_7, hd_7, ta_7_0, ta_7_1, ta_7_4, ta_7_5, ta_7_6, ta_7_7, ta_7_13, ta_7_17, ta_7_18, ta_7_20, ta_7_21, ta_7_22, ta_7_23, ta_7_24, ta_7_34, ta_7_35, ta_7_36, ta_7_44, ta_7_45, ta_7_46, ta_7_54, ta_7_55, ta_7_56, ta_7_57, ta_7_93, ta_7_94, ta_7_95, hK, hO, BA, BH, HBL⟩ K_57 hK_57
          subst hm_6
          have hf510 : ∀ j, sumF T9 ks j ≤ 510 := fun j => Nat.add_le_add (dgP_le T9 j) (hk255 (16 + j))
          have hsc := sumP_c hf510 K
          have hs1 := dgP_le T9 K
          have hs2 := hk255 (16 + K)
          refine w2_sr (fun K_58 hK_58 => ?_)
          refine q_v 96 (.bool (decide (K < 16))) (o_lss (m := K) (n := 16) rfl ((pm rfl).trans ta_7_95) rfl) ?_
          refine x_nil (hK_58 _ _ ?_)
          refine w2_seq (fun K_59 hK_59 => ?_)
          refine w2_split (pe hs_7 rfl rfl) (fun h_6 => ?_) (fun h_6 => ?_)
          ·simp only [DD9] at h_6
           refine w2_skip ?_
           refine hK_59 _ _ ?_
           refine w2_seq (fun K_60 hK_60 => ?_)
           refine w2_block (fun K_61 hK_61 => ?_)
           refine w2_sr (fun K_62 hK_62 => ?_)
           refine q_mv ((pm rfl).trans ta_7_95) ?_
           refine q_at (pe hs_7 rfl rfl) ?_
           refine x_nil (hK_62 _ _ ?_)
           refine w2_seq (fun K_63 hK_63 => ?_)
           have hs3 := hf510 K
           refine x_drawn 11 [fun _ v => v = .int .u64 (((sumP (sumF T9 ks) K).2 : Nat) : Int), fun _ v => v = .int .i64 ((K : Nat) : Int), fun _ v => v = .pointer (some ⟨g_2, K, none⟩), fun _ v => v = .int .u64 (((dgP T9).getD (K) 0 : Nat) : Int), fun _ v => v = .slice A (m) (c), fun _ v => v = .int .i64 ((K : Nat) : Int), fun _ v => v = .int .i64 ((16 + K : Nat) : Int), fun _ v => v = .pointer (atA A (16 + K)), fun _ v => v = .int .u8 ((ks.getD (16 + K) 0 : Nat) : Int), fun _ v => v = .int .u64 ((ks.getD (16 + K) 0 : Nat) : Int), fun _ v => v = .int .u64 ((sumF T9 ks K : Nat) : Int)] [98, 99, 100, 101, 102, 103, 104, 105, 106, 107, 108] hs_7 hd_7 (by kernel_rfl) (by kernel_rfl) (by kernel_rfl) (by kernel_rfl) (by kernel_rfl) ⟨stLit, stLit, stLit, stLit, stLit, stLit, stLit, stLit, stLit, stLit, stLit, trivial⟩ ⟨(step_ok rfl (fun a' w' hb' hO hD => by
             have d_4 := (hO 17 (by decide)).trans ((pm rfl).trans ta_7_17)
             exact .inl ⟨_, _, (o_move rfl d_4), rfl, Below.refl _ _⟩)),
(step_ok rfl (fun a' w' hb' hO hD => by
             have d_5 : a'.eval (.tmp 19) = .int .i64 ((K : Nat) : Int) := (hO 19 (by decide)).trans (pe hs_7 rfl rfl)
             exact .inl ⟨_, _, (o_move rfl d_5), rfl, Below.refl _ _⟩)),
(step_ok rfl (fun a' w' hb' hO hD => by
             have d_6 := (hO 7 (by decide)).trans ((pm rfl).trans ta_7_7)
             have d_7 : a'.eval (.tmp 99) = .int .i64 ((K : Nat) : Int) := hD 1 99 (by kernel_rfl) rfl
             exact .inl ⟨_, _, (zero_off (o_ixA (k := 0) (i := K) (n := 17) (e := 23) rfl d_6 d_7 (by omega) (fun _ => by kernel_rfl) (fun _ => by kernel_rfl))), rfl, Below.refl _ _⟩)),
(step_ok rfl (fun a' w' hb' hO hD => by
             have d_8 : a'.eval (.tmp 100) = .pointer (some ⟨g_2, K, none⟩) := hD 2 100 (by kernel_rfl) rfl
             exact .inl ⟨_, _, (o_loadW rfl d_8 (BH.nx hb') (by rw [(dgP_length _)]; omega) rfl ⟨by kernel_rfl, by kernel_rfl⟩), rfl, Below.refl _ _⟩)),
(step_ok rfl (fun a' w' hb' hO hD => by
             have d_9 := (hO 0 (by decide)).trans ((pm rfl).trans ta_7_0)
             exact .inl ⟨_, _, (o_move rfl d_9), rfl, Below.refl _ _⟩)),
(step_ok rfl (fun a' w' hb' hO hD => by
             have d_10 : a'.eval (.tmp 19) = .int .i64 ((K : Nat) : Int) := (hO 19 (by decide)).trans (pe hs_7 rfl rfl)
             exact .inl ⟨_, _, (o_move rfl d_10), rfl, Below.refl _ _⟩)),
(step_ok rfl (fun a' w' hb' hO hD => by
             have d_11 : a'.eval (.tmp 103) = .int .i64 ((K : Nat) : Int) := hD 5 103 (by kernel_rfl) rfl
             exact .inl ⟨_, _, (o_add64 (m := 16) (n := K) rfl rfl d_11 (by omega)), rfl, Below.refl _ _⟩)),
(step_ok rfl (fun a' w' hb' hO hD => by
             have d_12 : a'.eval (.tmp 102) = .slice A (m) (c) := hD 4 102 (by kernel_rfl) rfl
             have d_13 : a'.eval (.tmp 104) = .int .i64 ((16 + K : Nat) : Int) := hD 6 104 (by kernel_rfl) rfl
             exact .inl ⟨_, _, (o_ix (k := 16 + K) rfl d_12 d_13 (by omega) ((ha.below (below_from HBL hb')).some (by rw [hm]; omega))), rfl, Below.refl _ _⟩)),
(step_ok rfl (fun a' w' hb' hO hD => by
             have d_14 : a'.eval (.tmp 105) = .pointer (atA A (16 + K)) := hD 7 105 (by kernel_rfl) rfl
             exact .inl ⟨_, _, (o_ld8 rfl d_14 (ha.below (below_from HBL hb')) (by rw [hm]; omega) rfl), rfl, Below.refl _ _⟩)),
(step_ok rfl (fun a' w' hb' hO hD => by
             have d_15 : a'.eval (.tmp 106) = .int .u8 ((ks.getD (16 + K) 0 : Nat) : Int) := hD 8 106 (by kernel_rfl) rfl
             exact .inl ⟨_, _, (o_conv (m := (ks.getD (16 + K) 0)) (r := ks.getD (16 + K) 0) rfl d_15 ⟨.int .u8, fun _ => by kernel_rfl⟩ (fun _ => by kernel_rfl) (by rw [IntKind.wrap_u64]; omega)), rfl, Below.refl _ _⟩)),
(step_ok rfl (fun a' w' hb' hO hD => by
             have d_16 : a'.eval (.tmp 101) = .int .u64 (((dgP T9).getD (K) 0 : Nat) : Int) := hD 3 101 (by kernel_rfl) rfl
             have d_17 : a'.eval (.tmp 107) = .int .u64 ((ks.getD (16 + K) 0 : Nat) : Int) := hD 9 107 (by kernel_rfl) rfl
             have e0 : (.int .u64 ((((dgP T9).getD (K) 0) + (ks.getD (16 + K) 0) : Nat) : Int) : Value) = .int .u64 ((sumF T9 ks K : Nat) : Int) := rfl
             exact .inl ⟨_, _, (o_addU (m := ((dgP T9).getD (K) 0)) (n := (ks.getD (16 + K) 0)) (((dgP T9).getD (K) 0) + (ks.getD (16 + K) 0)) rfl d_16 d_17 (by rw [IntKind.wrap_u64]; omega)), e0, Below.refl _ _⟩)), trivial⟩ (fun a_8 w_19 hs_8 hd_8 hb_9 hO_2 hV_2 => ?_)
           have ta_8_0 := (hO_2 0 (by decide)).trans ((pm rfl).trans ta_7_0)
           have ta_8_1 := (hO_2 1 (by decide)).trans ((pm rfl).trans ta_7_1)
           have ta_8_4 := (hO_2 4 (by decide)).trans ((pm rfl).trans ta_7_4)
           have ta_8_5 := (hO_2 5 (by decide)).trans ((pm rfl).trans ta_7_5)
           have ta_8_20 := (hO_2 20 (by decide)).trans ((pm rfl).trans ta_7_20)
           have ta_8_21 := (hO_2 21 (by decide)).trans ((pm rfl).trans ta_7_21)
           have ta_8_22 := (hO_2 22 (by decide)).trans ((pm rfl).trans ta_7_22)
           have ta_8_6 := (hO_2 6 (by decide)).trans ((pm rfl).trans ta_7_6)
           have ta_8_7 := (hO_2 7 (by decide)).trans ((pm rfl).trans ta_7_7)
           have ta_8_23 := (hO_2 23 (by decide)).trans ((pm rfl).trans ta_7_23)
           have ta_8_24 := (hO_2 24 (by decide)).trans ((pm rfl).trans ta_7_24)
           have ta_8_34 := (hO_2 34 (by decide)).trans ((pm rfl).trans ta_7_34)
           have ta_8_35 := (hO_2 35 (by decide)).trans ((pm rfl).trans ta_7_35)
           have ta_8_36 := (hO_2 36 (by decide)).trans ((pm rfl).trans ta_7_36)
           have ta_8_44 := (hO_2 44 (by decide)).trans ((pm rfl).trans ta_7_44)
           have ta_8_45 := (hO_2 45 (by decide)).trans ((pm rfl).trans ta_7_45)
           have ta_8_46 := (hO_2 46 (by decide)).trans ((pm rfl).trans ta_7_46)
           have ta_8_13 := (hO_2 13 (by decide)).trans ((pm rfl).trans ta_7_13)
           have ta_8_54 := (hO_2 54 (by decide)).trans ((pm rfl).trans ta_7_54)
           have ta_8_55 := (hO_2 55 (by decide)).trans ((pm rfl).trans ta_7_55)
           have ta_8_56 := (hO_2 56 (by decide)).trans ((pm rfl).trans ta_7_56)
           have ta_8_57 := (hO_2 57 (by decide)).trans ((pm rfl).trans ta_7_57)
           have ta_8_93 := (hO_2 93 (by decide)).trans ((pm rfl).trans ta_7_93)
           have ta_8_94 := (hO_2 94 (by decide)).trans ((pm rfl).trans ta_7_94)
           have ta_8_18 := (hO_2 18 (by decide)).trans ((pm rfl).trans ta_7_18)
           have ta_8_95 := (hO_2 95 (by decide)).trans ((pm rfl).trans ta_7_95)
           clear ta_7_0 ta_7_1 ta_7_4 ta_7_5 ta_7_20 ta_7_21 ta_7_22 ta_7_6 ta_7_7 ta_7_23 ta_7_24 ta_7_34 ta_7_35 ta_7_36 ta_7_44 ta_7_45 ta_7_46 ta_7_13 ta_7_54 ta_7_55 ta_7_56 ta_7_57 ta_7_93 ta_7_94 ta_7_17 ta_7_18 ta_7_95 hd_7
           replace hO := hO.nx hb_9
           replace BA := BA.nx hb_9
           replace BH := BH.nx hb_9
           have HB_12 := below_from HBL hb_9
           have ta_8_98 : a_8.eval (.tmp 98) = .int .u64 (((sumP (sumF T9 ks) K).2 : Nat) : Int) := hV_2 0 98 rfl rfl
           have ta_8_108 : a_8.eval (.tmp 108) = .int .u64 ((sumF T9 ks K : Nat) : Int) := hV_2 10 108 rfl rfl
           clear hV_2 hO_2
           simp only [List.drop_succ_cons, List.drop_zero]
           refine q_v 109 (.int .u64 ((((sumP (sumF T9 ks) K).2) + (sumF T9 ks K) : Nat) : Int)) (o_addU (m := ((sumP (sumF T9 ks) K).2)) (n := (sumF T9 ks K)) (((sumP (sumF T9 ks) K).2) + (sumF T9 ks K)) rfl ((pm rfl).trans ta_8_98) ((pm rfl).trans ta_8_108) (by rw [IntKind.wrap_u64]; omega)) ?_
           refine q_at (pe hs_8 rfl rfl) ?_
           refine x_nil (hK_63 _ _ ?_)
           refine w2_sr (fun K_64 hK_64 => ?_)
           refine q_mv ((pm rfl).trans ta_8_18) ?_
           refine q_mv (pe hs_8 rfl rfl) ?_
           refine q_v 112 (.int .u8 (((((sumP (sumF T9 ks) K).2) + (sumF T9 ks K)) % 256 : Nat) : Int)) (o_conv (m := (((sumP (sumF T9 ks) K).2) + (sumF T9 ks K))) (r := (((sumP (sumF T9 ks) K).2) + (sumF T9 ks K)) % 256) rfl (pe hs_8 rfl rfl) ⟨.int .u64, fun _ => by kernel_rfl⟩ (fun _ => by kernel_rfl) (by rw [IntKind.wrap_u8]; omega)) ?_
           refine op_ex (d := 113) rfl rfl (o_build1 (m := (((sumP (sumF T9 ks) K).2) + (sumF T9 ks K)) % 256) rfl (pe hs_8 rfl rfl) (Nat.mod_lt _ (by decide))) (fun v_3 w_20 hR_12 => ?_)
           obtain ⟨g_3, rfl, ho_1, hb_10⟩ := hR_12
           replace ho_1 := ho_1.mono HB_12.size
           replace hO := hO.nx hb_10
           replace BA := BA.nx hb_10
           replace BH := BH.nx hb_10
           have HB_13 := below_from HB_12 hb_10
           refine op_ex (d := 114) rfl rfl (o_append rfl (pe hs_8 rfl rfl) (pe hs_8 rfl rfl) hO (ho_1).bs (by rw [(sumP_length _ K)]) (by simp only [List.length_cons, List.length_nil]) (by omega) HB_13.size) (fun v_4 w_21 hR_13 => ?_)
           obtain ⟨A_1, c_1, rfl, ho_2, hb_11, hg_1, hat_1⟩ := hR_13
           replace BA := BA.grown hO hg_1 (by decide)
           replace BH := BH.grown hO hg_1 (by decide)
           have HB_14 : Below w.heap.size w w_21 := (HB_13).trans hb_11
           clear hg_1 hat_1 hO
           refine q_at (pe hs_8 rfl rfl) ?_
           refine x_nil (hK_64 _ _ ?_)
           refine x_region (by kernel_rfl) ?_
           refine q_mv (pe hs_8 rfl rfl) ?_
           refine q_v 116 (.int .u64 (((sumP (sumF T9 ks) (K + 1)).2 : Nat) : Int)) (o_eq (o_shr (m := (((sumP (sumF T9 ks) K).2) + (sumF T9 ks K))) (n := 8) rfl (pe hs_8 rfl rfl) rfl (by decide)) rfl) ?_
           refine q_at (pe hs_8 rfl rfl) ?_
           refine x_nil (hK_61 _ _ ?_)
           refine hK_60 _ _ ?_
           refine x_region (by kernel_rfl) ?_
           refine q_v 117 (.int .i64 ((K + 1 : Nat) : Int)) (o_add64 (m := K) (n := 1) rfl ((pm rfl).trans ta_8_95) rfl (by omega)) ?_
           refine q_mv (pe hs_8 rfl rfl) ?_
           refine x_nil ?_
           refine hK_57 _ _ _ ⟨K + 1, A_1, c_1, rfl, (by rw [putsR_size]; exact hs_8), (by rw [putsR_defers]; exact hd_8), ((pm rfl).trans ta_8_0), ((pm rfl).trans ta_8_1), ((pm rfl).trans ta_8_4), ((pm rfl).trans ta_8_5), ((pm rfl).trans ta_8_6), ((pm rfl).trans ta_8_7), ((pm rfl).trans ta_8_13), (pe hs_8 rfl rfl), (pe hs_8 rfl rfl), ((pm rfl).trans ta_8_20), ((pm rfl).trans ta_8_21), ((pm rfl).trans ta_8_22), ((pm rfl).trans ta_8_23), ((pm rfl).trans ta_8_24), ((pm rfl).trans ta_8_34), ((pm rfl).trans ta_8_35), ((pm rfl).trans ta_8_36), ((pm rfl).trans ta_8_44), ((pm rfl).trans ta_8_45), ((pm rfl).trans ta_8_46), ((pm rfl).trans ta_8_54), ((pm rfl).trans ta_8_55), ((pm rfl).trans ta_8_56), ((pm rfl).trans ta_8_57), ((pm rfl).trans ta_8_93), ((pm rfl).trans ta_8_94), (pe hs_8 rfl rfl), (by omega), ho_2, BA, BH, HB_14⟩ ?_
           omega
          ·simp only [DD9] at h_6
           obtain rfl : K = 16 := by omega
           refine w2_exit ?_
           refine thn_exit ?_
           refine thn_exit ?_
           refine exb_hit ?_
           refine hK_56 _ _ ?_
           refine hK_54 _ _ ?_
           refine w2_sr (fun K_65 hK_65 => ?_)
           refine q_mv ((pm rfl).trans ta_7_18) ?_
           refine q_at (pe hs_7 rfl rfl) ?_
           refine q_as (.int .i64 ((0 : Nat) : Int)) rfl ?_
           refine x_nil (hK_65 _ _ ?_)
           refine w2_ret ?_
           refine ret2 rfl hd_7 (pe hs_7 rfl rfl) (pe hs_7 rfl rfl) ?_
           exact ⟨_, _, rfl, (by rw [← tag_same ha.b8 hb.b8]; unfold tagP; rw [hq, ← hT9]; exact hO), HBL⟩
end Go.Proofs.Ytggalcdkfielkaa
/-
 WALKS: the reference's aead: mac, Seal, Open; both, of any key.
-/
namespace Go.Proofs.Ytggalcdkfielkaa
open Go.RowKit
set_option linter.unusedVariables false
set_option linter.unusedSimpArgs false
set_option maxRecDepth 100000
attribute [local irreducible] wpList wpListIn putsR

/-- A value that is a row of slices, by what they hold. -/
def PartsN (xss : List (List Nat)) (w : World) (v : Value) : Prop := ∃ (g : Nat) (ps : List Part), v = .slice (some ⟨g, 0, none⟩) ps.length ps.length ∧ Blk w g (ps.map Part.val).toArray 22 ∧ (∀ p ∈ ps, Bs w p.A p.c p.xs) ∧ ps.map (fun p => p.xs) = xss
theorem stParts {xss : List (List Nat)} : StP (PartsN xss) := fun _ _ _ ⟨g, ps, hv, hB, hP, hx⟩ hb => ⟨g, ps, hv, hB.nx hb, fun p hp => (hP p hp).below hb, hx⟩
theorem joinP_flat (ps : List Part) : joinP ps ps.length = (ps.map (fun p => p.xs)).flatten := by
 have key : ∀ k, k ≤ ps.length → joinP ps k = ((ps.take k).map (fun p => p.xs)).flatten := by
  intro k
  induction k with
  | zero => intro _; rw [List.take_zero]; rfl
  | succ k ih =>
   intro h
   rw [joinP, ih (by omega), List.take_add_one, List.map_append, List.flatten_append]
   congr 1
   unfold Part.at
   rw [List.getD_eq_getElem?_getD, List.getElem?_eq_getElem (show k < ps.length by omega)]
   simp
 have h := key ps.length (Nat.le_refl _)
 rwa [List.take_length] at h
theorem joinX {xss : List (List Nat)} {g : Nat} {ps : List Part} (w : World) (hB : Blk w g (ps.map Part.val).toArray 22) (hP : ∀ p ∈ ps, Bs w p.A p.c p.xs) (hx : ps.map (fun p => p.xs) = xss) (hl : xss.flatten.length ≤ 70368744177664) (hl2 : xss.length ≤ 4611686018427387904) :
  Calls Try.prog 61 #[.slice (some ⟨g, 0, none⟩) ps.length ps.length] w fun e w' => ∃ A c, e = .returned (.slice A xss.flatten.length c) ∧ Own w' w.heap.size A c xss.flatten ∧ Below w.heap.size w w' := by
 subst hx
 rw [← joinP_flat] at hl
 have h9 := joinW_any w hB hP hl (by rwa [List.length_map] at hl2)
 rw [joinP_flat] at h9
 exact h9
set_option maxHeartbeats 1000000 in
theorem macW_any {A B C E : Option Addr} {c d f g m k p q : Nat} {ks ns zs bs : List Nat} (w : World) (ha : Bs w A c ks) (hb : Bs w B d ns) (hc : Bs w C f zs) (he : Bs w E g bs) (hm : ks.length = m) (hk : ns.length = k) (hp : zs.length = p) (hq : bs.length = q) (hm32 : m = 32) (hk12 : k = 12) (hpl : p ≤ 17592186044416) (hql : q ≤ 17592186044416) :
  Calls Try.prog 33 #[.slice A (m) (c), .slice B (k) (d), .slice C (p) (f), .slice E (q) (g)] w fun e w' => ∃ A c, e = .returned (.slice A 16 c) ∧ Own w' w.heap.size A c (macL ks ns zs bs) ∧ Below w.heap.size w w' := by
 refine x_enter 40 Try.func33 rfl rfl (fun a hs hd ha0 => ?_)
 have t0 : a.eval (.tmp 0) = .slice A (m) (c) := ha0 0 _ rfl
 have t1 : a.eval (.tmp 1) = .slice B (k) (d) := ha0 1 _ rfl
 have t2 : a.eval (.tmp 2) = .slice C (p) (f) := ha0 2 _ rfl
 have t3 : a.eval (.tmp 3) = .slice E (q) (g) := ha0 3 _ rfl
 clear ha0
 refine w2_sr (fun K_1 hK_1 => ?_)
 refine q_as (.slice none (0) (0)) rfl ?_
 refine x_nil (hK_1 _ _ ?_)
 refine w2_sr (fun K_2 hK_2 => ?_)
 refine q_mv ((pm rfl).trans t0) ?_
 refine q_mv ((pm rfl).trans t1) ?_
 refine q_ca (vs := #[.slice A (m) (c), .slice B (k) (d), .int .u32 ((0 : Nat) : Int)]) Try.func58 (args3 (pe hs rfl rfl) (pe hs rfl rfl) rfl) (BlockW_ok 0 _ ha hb hm hk (by decide) hm32 hk12) (fun e_1 w_1 hR_1 => ?_)
 obtain ⟨A_1, c_1, rfl, ho_1, hb_1⟩ := hR_1
 refine ⟨_, rfl, ?_⟩
 refine q_mv (pe hs rfl rfl) ?_
 refine q_ex (v := .slice A_1 (64) (c_1)) (pe hs rfl rfl) rfl ?_
 refine q_ex (v := .int .i64 ((0 : Nat) : Int)) (pe hs rfl rfl) rfl ?_
 refine q_at (pe hs rfl rfl) ?_
 refine q_at (v := .int .i64 ((0 : Nat) : Int)) (pe hs rfl rfl) ?_
 refine x_nil (hK_2 _ _ ?_)
 refine w2_seq (fun K_3 hK_3 => ?_)
 have hS_1 := Bs.sub ho_1.bs (l := 0) (q := 32) (m := c_1) (by omega) (by have := ho_1.bs.le; rw [blockL_length] at this; omega) (Nat.le_refl _)
 rw [subA_zero, List.drop_zero, Nat.sub_zero, Nat.sub_zero] at hS_1
 have hfa := fillL_length zs
 have hfb := fillL_length bs
 have hfl : ([fillL zs, fillL bs, putL p 8, putL q 8].flatten).length = (fillL zs).length + (fillL bs).length + 16 := by simp only [List.flatten_cons, List.flatten_nil, List.length_append, List.length_nil, putL_length]; omega
 rw [hp] at hfa; rw [hq] at hfb
 refine x_drawn2 21 [fun _ v => v = .slice A_1 (64) (c_1), fun _ v => v = .slice A_1 (32) (c_1), fun _ v => v = .slice C (p) (f), fun ww vv => OwnN w_1.heap.size ((fillL zs).length) (fillL zs) ww vv, fun _ v => v = .slice E (q) (g), fun ww vv => OwnN w_1.heap.size ((fillL bs).length) (fillL bs) ww vv, fun _ v => v = .slice C (p) (f), fun _ v => v = .int .i64 ((p : Nat) : Int), fun _ v => v = .int .u64 ((p : Nat) : Int), fun ww vv => OwnN w_1.heap.size (8) (putL p 8) ww vv, fun _ v => v = .slice E (q) (g), fun _ v => v = .int .i64 ((q : Nat) : Int), fun _ v => v = .int .u64 ((q : Nat) : Int), fun ww vv => OwnN w_1.heap.size (8) (putL q 8) ww vv, fun ww vv => PartsN [fillL zs, fillL bs, putL p 8, putL q 8] ww vv, fun ww vv => OwnN w_1.heap.size ([fillL zs, fillL bs, putL p 8, putL q 8].flatten.length) ([fillL zs, fillL bs, putL p 8, putL q 8].flatten) ww vv, fun ww vv => TupN w_1.heap.size (16) (tagL ((blockL ks ns 0).take 32) ([fillL zs, fillL bs, putL p 8, putL q 8].flatten)) (0) ww vv, fun ww vv => TupN w_1.heap.size (16) (tagL ((blockL ks ns 0).take 32) ([fillL zs, fillL bs, putL p 8, putL q 8].flatten)) (0) ww vv, fun ww vv => OwnN w_1.heap.size (16) (tagL ((blockL ks ns 0).take 32) ([fillL zs, fillL bs, putL p 8, putL q 8].flatten)) ww vv, fun _ v => v = .int .i64 ((0 : Nat) : Int), fun ww vv => OwnN w_1.heap.size (16) (tagL ((blockL ks ns 0).take 32) ([fillL zs, fillL bs, putL p 8, putL q 8].flatten)) ww vv] [20, 21, 22, 23, 24, 25, 26, 27, 28, 29, 30, 31, 32, 33, 34, 35, 36, 19, 37, 38, 11] hs hd (by kernel_rfl) (by kernel_rfl) (by kernel_rfl) (by kernel_rfl) (by kernel_rfl) ⟨stLit, stLit, stLit, stOwn, stLit, stOwn, stLit, stLit, stLit, stOwn, stLit, stLit, stLit, stOwn, stParts, stOwn, stTup, stTup, stOwn, stLit, stOwn, trivial⟩ ⟨(step_ok rfl (fun a' w' hb' hO hD => by
   have d_1 : a'.eval (.tmp 9) = .slice A_1 (64) (c_1) := (hO 9 (by decide)).trans (pe hs rfl rfl)
   exact .inl ⟨_, _, (o_move rfl d_1), rfl, Below.refl _ _⟩)),
(step_ok rfl (fun a' w' hb' hO hD => by
   have d_2 : a'.eval (.tmp 20) = .slice A_1 (64) (c_1) := hD 0 20 (by kernel_rfl) rfl
   exact .inl ⟨_, _, (o_eq (o_sliceH (h := 32) rfl d_2 rfl (by have := ho_1.bs.le; rw [blockL_length] at this; omega)) (by rw [subA_zero])), rfl, Below.refl _ _⟩)),
(step_ok rfl (fun a' w' hb' hO hD => by
   have d_3 := (hO 2 (by decide)).trans ((pm rfl).trans t2)
   exact .inl ⟨_, _, (o_move rfl d_3), rfl, Below.refl _ _⟩)),
(step_ok rfl (fun a' w' hb' hO hD => by
   have d_4 : a'.eval (.tmp 22) = .slice C (p) (f) := hD 2 22 (by kernel_rfl) rfl
   exact .inr ⟨_, #[.slice C (p) (f)], (exec_call Try.func62 (by kernel_rfl) (by kernel_rfl) _ rfl _ _ (args1 d_4)), Calls.mono (filledW_any _ (hc.below (below_from hb_1 hb')) hp (by omega)) (fun e w'' hR => by obtain ⟨A_2, c_2, rfl, ho_2, hb_2⟩ := hR; exact ⟨_, rfl, ⟨_, _, rfl, ho_2.mono hb'.size⟩, hb_2⟩)⟩)),
(step_ok rfl (fun a' w' hb' hO hD => by
   have d_5 := (hO 3 (by decide)).trans ((pm rfl).trans t3)
   exact .inl ⟨_, _, (o_move rfl d_5), rfl, Below.refl _ _⟩)),
(step_ok rfl (fun a' w' hb' hO hD => by
   have d_6 : a'.eval (.tmp 24) = .slice E (q) (g) := hD 4 24 (by kernel_rfl) rfl
   exact .inr ⟨_, #[.slice E (q) (g)], (exec_call Try.func62 (by kernel_rfl) (by kernel_rfl) _ rfl _ _ (args1 d_6)), Calls.mono (filledW_any _ (he.below (below_from hb_1 hb')) hq (by omega)) (fun e w'' hR => by obtain ⟨A_3, c_3, rfl, ho_3, hb_3⟩ := hR; exact ⟨_, rfl, ⟨_, _, rfl, ho_3.mono hb'.size⟩, hb_3⟩)⟩)),
(step_ok rfl (fun a' w' hb' hO hD => by
   have d_7 := (hO 2 (by decide)).trans ((pm rfl).trans t2)
   exact .inl ⟨_, _, (o_move rfl d_7), rfl, Below.refl _ _⟩)),
(step_ok rfl (fun a' w' hb' hO hD => by
   have d_8 : a'.eval (.tmp 26) = .slice C (p) (f) := hD 6 26 (by kernel_rfl) rfl
   exact .inl ⟨_, _, (o_len rfl d_8), rfl, Below.refl _ _⟩)),
(step_ok rfl (fun a' w' hb' hO hD => by
   have d_9 : a'.eval (.tmp 27) = .int .i64 ((p : Nat) : Int) := hD 7 27 (by kernel_rfl) rfl
   exact .inl ⟨_, _, (o_conv (m := p) (r := p) rfl d_9 ⟨.int .i64, fun _ => by kernel_rfl⟩ (fun _ => by kernel_rfl) (by rw [IntKind.wrap_u64]; omega)), rfl, Below.refl _ _⟩)),
(step_ok rfl (fun a' w' hb' hO hD => by
   have d_10 : a'.eval (.tmp 28) = .int .u64 ((p : Nat) : Int) := hD 8 28 (by kernel_rfl) rfl
   exact .inr ⟨_, #[.int .u64 ((p : Nat) : Int), .int .i64 ((8 : Nat) : Int)], (exec_call Try.func35 (by kernel_rfl) (by kernel_rfl) _ rfl _ _ (args2 d_10 rfl)), Calls.mono (PutLowW_any p 8 _ (by omega) (by decide)) (fun e w'' hR => by obtain ⟨A_4, c_4, rfl, ho_4, hb_4⟩ := hR; exact ⟨_, rfl, ⟨_, _, rfl, ho_4.mono hb'.size⟩, hb_4⟩)⟩)),
(step_ok rfl (fun a' w' hb' hO hD => by
   have d_11 := (hO 3 (by decide)).trans ((pm rfl).trans t3)
   exact .inl ⟨_, _, (o_move rfl d_11), rfl, Below.refl _ _⟩)),
(step_ok rfl (fun a' w' hb' hO hD => by
   have d_12 : a'.eval (.tmp 30) = .slice E (q) (g) := hD 10 30 (by kernel_rfl) rfl
   exact .inl ⟨_, _, (o_len rfl d_12), rfl, Below.refl _ _⟩)),
(step_ok rfl (fun a' w' hb' hO hD => by
   have d_13 : a'.eval (.tmp 31) = .int .i64 ((q : Nat) : Int) := hD 11 31 (by kernel_rfl) rfl
   exact .inl ⟨_, _, (o_conv (m := q) (r := q) rfl d_13 ⟨.int .i64, fun _ => by kernel_rfl⟩ (fun _ => by kernel_rfl) (by rw [IntKind.wrap_u64]; omega)), rfl, Below.refl _ _⟩)),
(step_ok rfl (fun a' w' hb' hO hD => by
   have d_14 : a'.eval (.tmp 32) = .int .u64 ((q : Nat) : Int) := hD 12 32 (by kernel_rfl) rfl
   exact .inr ⟨_, #[.int .u64 ((q : Nat) : Int), .int .i64 ((8 : Nat) : Int)], (exec_call Try.func35 (by kernel_rfl) (by kernel_rfl) _ rfl _ _ (args2 d_14 rfl)), Calls.mono (PutLowW_any q 8 _ (by omega) (by decide)) (fun e w'' hR => by obtain ⟨A_5, c_5, rfl, ho_5, hb_5⟩ := hR; exact ⟨_, rfl, ⟨_, _, rfl, ho_5.mono hb'.size⟩, hb_5⟩)⟩)),
(step_ok rfl (fun a' w' hb' hO hD => by
   have d_15 := hD 3 23 (by kernel_rfl) rfl
   obtain ⟨A_6, c_6, hv_1, hO_1⟩ := d_15
   have d_16 := hD 5 25 (by kernel_rfl) rfl
   obtain ⟨A_7, c_7, hv_2, hO_2⟩ := d_16
   have d_17 := hD 9 29 (by kernel_rfl) rfl
   obtain ⟨A_8, c_8, hv_3, hO_3⟩ := d_17
   have d_18 := hD 13 33 (by kernel_rfl) rfl
   obtain ⟨A_9, c_9, hv_4, hO_4⟩ := d_18
   exact out_new (o_bldS (vs := #[(0, .slice A_6 ((fillL zs).length) (c_6)), (1, .slice A_7 ((fillL bs).length) (c_7)), (2, .slice A_8 (8) (c_8)), (3, .slice A_9 (8) (c_9))]) (cs := #[.slice A_6 ((fillL zs).length) (c_6), .slice A_7 ((fillL bs).length) (c_7), .slice A_8 (8) (c_8), .slice A_9 (8) (c_9)]) (e := 22) rfl (bld4 hv_1 hv_2 hv_3 hv_4) (fun _ => by kernel_rfl)) (fun v w_2 hR => by obtain ⟨g_1, rfl, hle_1, hB_1, hb_6⟩ := hR; exact ⟨⟨g_1, [⟨A_6, c_6, fillL zs⟩, ⟨A_7, c_7, fillL bs⟩, ⟨A_8, c_8, putL p 8⟩, ⟨A_9, c_9, putL q 8⟩], rfl, (by simp only [List.map_cons, List.map_nil, Part.val, putL_length]; exact hB_1), (by intro p hp; simp only [List.mem_cons, List.not_mem_nil, or_false] at hp; rcases hp with rfl | rfl | rfl | rfl <;> first | exact ((hO_1).bs).below hb_6 | exact ((hO_2).bs).below hb_6 | exact ((hO_3).bs).below hb_6 | exact ((hO_4).bs).below hb_6), rfl⟩, hb_6⟩))),
(step_ok rfl (fun a' w' hb' hO hD => by
   have d_19 := hD 14 34 (by kernel_rfl) rfl
   obtain ⟨g_2, ps_1, hv_5, hB_2, hP_1, hx_1⟩ := d_19
   exact .inr ⟨_, #[.slice ((some ⟨g_2, 0, none⟩)) (ps_1.length) (ps_1.length)], (exec_call Try.func61 (by kernel_rfl) (by kernel_rfl) _ rfl _ _ (args1 hv_5)), Calls.mono (joinX _ hB_2 hP_1 hx_1 (by omega) (by simp)) (fun e w'' hR => by obtain ⟨A_10, c_10, rfl, ho_6, hb_7⟩ := hR; exact ⟨_, rfl, ⟨_, _, rfl, ho_6.mono hb'.size⟩, hb_7⟩)⟩)),
(step_ok rfl (fun a' w' hb' hO hD => by
   have d_20 : a'.eval (.tmp 21) = .slice A_1 (32) (c_1) := hD 1 21 (by kernel_rfl) rfl
   have d_21 := hD 15 35 (by kernel_rfl) rfl
   obtain ⟨A_11, c_11, hv_6, hO_5⟩ := d_21
   exact .inr ⟨_, #[.slice A_1 (32) (c_1), .slice A_11 ([fillL zs, fillL bs, putL p 8, putL q 8].flatten.length) (c_11)], (exec_call Try.func60 (by kernel_rfl) (by kernel_rfl) _ rfl _ _ (args2 d_20 hv_6)), Calls.mono (TagW_any _ (hS_1.nx hb') (hO_5).bs (by rw [List.length_take, blockL_length]; rfl) rfl rfl (by omega)) (fun e w'' hR => by obtain ⟨A_12, c_12, rfl, ho_7, hb_8⟩ := hR; exact ⟨_, rfl, ⟨_, _, rfl, ho_7.mono hb'.size⟩, hb_8⟩)⟩)),
(step_ok rfl (fun a' w' hb' hO hD => by
   have d_22 := hD 16 36 (by kernel_rfl) rfl
   obtain ⟨A_13, c_13, hv_7, hO_6⟩ := d_22
   exact .inl ⟨_, _, (o_move rfl hv_7), ⟨_, _, rfl, hO_6⟩, Below.refl _ _⟩)),
(step_ok rfl (fun a' w' hb' hO hD => by
   have d_23 := hD 17 19 (by kernel_rfl) rfl
   obtain ⟨A_14, c_14, hv_8, hO_7⟩ := d_23
   exact .inl ⟨_, _, (o_extract rfl hv_8 rfl), ⟨_, _, rfl, hO_7⟩, Below.refl _ _⟩)),
(step_ok rfl (fun a' w' hb' hO hD => by
   have d_24 := hD 17 19 (by kernel_rfl) rfl
   obtain ⟨A_15, c_15, hv_9, hO_8⟩ := d_24
   exact .inl ⟨_, _, (o_extract rfl hv_9 rfl), rfl, Below.refl _ _⟩)),
(step_ok rfl (fun a' w' hb' hO hD => by
   have d_25 := hD 18 37 (by kernel_rfl) rfl
   obtain ⟨A_16, c_16, hv_10, hO_9⟩ := d_25
   exact .inl ⟨_, _, (o_assign rfl hv_10), ⟨_, _, rfl, hO_9⟩, Below.refl _ _⟩)), trivial⟩ (fun a_1 w_3 hs_1 hd_1 hb_9 hO_10 hV_1 => ?_)
 clear t0 t1 t2 t3 hd
 replace hS_1 := hS_1.nx hb_9
 have HB_1 := below_from hb_1 hb_9
 have x_1 := hV_1 3 23 rfl rfl
 obtain ⟨A_17, c_17, hv_11, hO_11⟩ := x_1
 replace hO_11 := hO_11.mono hb_1.size
 have x_2 := hV_1 5 25 rfl rfl
 obtain ⟨A_18, c_18, hv_12, hO_12⟩ := x_2
 replace hO_12 := hO_12.mono hb_1.size
 have x_3 := hV_1 9 29 rfl rfl
 obtain ⟨A_19, c_19, hv_13, hO_13⟩ := x_3
 replace hO_13 := hO_13.mono hb_1.size
 have x_4 := hV_1 13 33 rfl rfl
 obtain ⟨A_20, c_20, hv_14, hO_14⟩ := x_4
 replace hO_14 := hO_14.mono hb_1.size
 have x_5 := hV_1 14 34 rfl rfl
 obtain ⟨g_3, ps_2, hv_15, hB_3, hP_2, hx_2⟩ := x_5
 have x_6 := hV_1 15 35 rfl rfl
 obtain ⟨A_21, c_21, hv_16, hO_15⟩ := x_6
 replace hO_15 := hO_15.mono hb_1.size
 have x_7 := hV_1 16 36 rfl rfl
 obtain ⟨A_22, c_22, hv_17, hO_16⟩ := x_7
 replace hO_16 := hO_16.mono hb_1.size
 have x_8 := hV_1 17 19 rfl rfl
 obtain ⟨A_23, c_23, hv_18, hO_17⟩ := x_8
 replace hO_17 := hO_17.mono hb_1.size
 have x_9 := hV_1 18 37 rfl rfl
 obtain ⟨A_24, c_24, hv_19, hO_18⟩ := x_9
 replace hO_18 := hO_18.mono hb_1.size
 have ta_1_38 : a_1.eval (.tmp 38) = .int .i64 ((0 : Nat) : Int) := hV_1 19 38 rfl rfl
 have x_10 := hV_1 20 11 rfl rfl
 obtain ⟨A_25, c_25, hv_20, hO_19⟩ := x_10
 replace hO_19 := hO_19.mono hb_1.size
 clear hV_1 hO_10
 simp only [List.drop_succ_cons, List.drop_zero]
 refine q_at (v := .int .i64 ((0 : Nat) : Int)) ((pm rfl).trans ta_1_38) ?_
 refine x_nil (hK_3 _ _ ?_)
 refine w2_sr (fun K_4 hK_4 => ?_)
 refine q_mv ((pm rfl).trans hv_20) ?_
 refine q_at (pe hs_1 rfl rfl) ?_
 refine x_nil (hK_4 _ _ ?_)
 refine w2_ret ?_
 refine ret1 rfl hd_1 (pe hs_1 rfl rfl) ?_
 exact ⟨_, _, rfl, (by have h9 := hO_19; simp only [List.flatten_cons, List.flatten_nil, List.append_nil] at h9; unfold macL macIn; rw [hp, hq, List.append_assoc, List.append_assoc]; exact h9), HB_1⟩
set_option maxHeartbeats 1000000 in
theorem SealW_ok {A B C E : Option Addr} {c d f g m k p q : Nat} {ks ns zs bs : List Nat} (w : World) (ha : Bs w A c ks) (hb : Bs w B d ns) (hc : Bs w C f zs) (he : Bs w E g bs) (hm : ks.length = m) (hk : ns.length = k) (hp : zs.length = p) (hq : bs.length = q) (hm32 : m = 32) (hk12 : k = 12) (hpl : p ≤ 17592186044416) (hql : q ≤ 17592186044416) :
  Calls Try.prog 8 #[.slice A (m) (c), .slice B (k) (d), .slice C (p) (f), .slice E (q) (g)] w fun e w' => ∃ A c, e = .returned (.tuple #[.slice A (q + 16) c, .int .i64 0]) ∧ Own w' w.heap.size A c (sealL ks ns zs bs) ∧ Below w.heap.size w w' := by
 refine x_enter 29 Try.func8 rfl rfl (fun a hs hd ha0 => ?_)
 have t0 : a.eval (.tmp 0) = .slice A (m) (c) := ha0 0 _ rfl
 have t1 : a.eval (.tmp 1) = .slice B (k) (d) := ha0 1 _ rfl
 have t2 : a.eval (.tmp 2) = .slice C (p) (f) := ha0 2 _ rfl
 have t3 : a.eval (.tmp 3) = .slice E (q) (g) := ha0 3 _ rfl
 clear ha0
 refine w2_sr (fun K_1 hK_1 => ?_)
 refine q_as (.slice none (0) (0)) rfl ?_
 refine q_as (.int .i64 ((0 : Nat) : Int)) rfl ?_
 refine x_nil (hK_1 _ _ ?_)
 refine w2_sr (fun K_2 hK_2 => ?_)
 refine q_mv ((pm rfl).trans t0) ?_
 refine q_mv ((pm rfl).trans t1) ?_
 refine q_mv ((pm rfl).trans t3) ?_
 refine q_ca (vs := #[.slice A (m) (c), .slice B (k) (d), .int .u32 ((1 : Nat) : Int), .slice E (q) (g)]) Try.func32 (args4 (pe hs rfl rfl) (pe hs rfl rfl) rfl (pe hs rfl rfl)) (XorChaW_ok 1 _ ha hb he hm hk hq (by omega) hm32 hk12 (by omega)) (fun e_1 w_1 hR_1 => ?_)
 obtain ⟨A_1, c_1, rfl, ho_1, hb_1⟩ := hR_1
 refine ⟨_, rfl, ?_⟩
 refine q_mv (pe hs rfl rfl) ?_
 refine q_ex (v := .slice A_1 (q) (c_1)) (pe hs rfl rfl) rfl ?_
 refine q_ex (v := .int .i64 ((0 : Nat) : Int)) (pe hs rfl rfl) rfl ?_
 refine q_at (pe hs rfl rfl) ?_
 refine q_at (v := .int .i64 ((0 : Nat) : Int)) (pe hs rfl rfl) ?_
 refine x_nil (hK_2 _ _ ?_)
 refine w2_seq (fun K_3 hK_3 => ?_)
 refine w2_sr (fun K_4 hK_4 => ?_)
 refine q_mv (v := .int .i64 ((0 : Nat) : Int)) (pe hs rfl rfl) ?_
 refine q_v 20 (.bool (false)) (o_eq (o_neq (m := 0) (n := 0) rfl (pe hs rfl rfl) rfl) rfl) ?_
 refine x_nil (hK_4 _ _ ?_)
 refine w2_condF (pe hs rfl rfl) ?_
 refine w2_skip ?_
 refine hK_3 _ _ ?_
 refine w2_sr (fun K_5 hK_5 => ?_)
 refine q_mv (pe hs rfl rfl) ?_
 refine q_mv ((pm rfl).trans t0) ?_
 refine q_mv ((pm rfl).trans t1) ?_
 refine q_mv ((pm rfl).trans t2) ?_
 refine q_mv (pe hs rfl rfl) ?_
 refine q_ca (vs := #[.slice A (m) (c), .slice B (k) (d), .slice C (p) (f), .slice A_1 (q) (c_1)]) Try.func33 (args4 (pe hs rfl rfl) (pe hs rfl rfl) (pe hs rfl rfl) (pe hs rfl rfl)) (macW_any _ (ha.below hb_1) (hb.below hb_1) (hc.below hb_1) (ho_1).bs hm hk hp (by simp only [xorS_length, hq]) hm32 hk12 (by omega) (by omega)) (fun e_2 w_2 hR_2 => ?_)
 obtain ⟨A_2, c_2, rfl, ho_2, hb_2⟩ := hR_2
 replace ho_2 := ho_2.mono hb_1.size
 replace ho_1 := ho_1.nx hb_2
 have HB_1 := below_from hb_1 hb_2
 refine ⟨_, rfl, ?_⟩
 refine op_ex (d := 28) rfl rfl (o_append rfl (pe hs rfl rfl) (pe hs rfl rfl) ho_1 (ho_2).bs (by rw [xorS_length, hq]) (by simp only [macL_length]) (by omega) HB_1.size) (fun v_1 w_3 hR_3 => ?_)
 obtain ⟨A_3, c_3, rfl, ho_3, hb_3, hg_1, hat_1⟩ := hR_3
 have HB_2 : Below w.heap.size w w_3 := (HB_1).trans hb_3
 clear hg_1 hat_1 ho_1
 refine q_at (pe hs rfl rfl) ?_
 refine q_as (.int .i64 ((0 : Nat) : Int)) rfl ?_
 refine x_nil (hK_5 _ _ ?_)
 refine w2_ret ?_
 refine ret2 rfl hd (pe hs rfl rfl) (pe hs rfl rfl) ?_
 exact ⟨_, _, rfl, ho_3, HB_2⟩
set_option maxHeartbeats 1000000 in
theorem OpenW_ok {A B C E : Option Addr} {c d f g m k p q : Nat} {ks ns zs bs : List Nat} (w : World) (ha : Bs w A c ks) (hb : Bs w B d ns) (hc : Bs w C f zs) (he : Bs w E g bs) (hm : ks.length = m) (hk : ns.length = k) (hp : zs.length = p) (hq : bs.length = q) (hm32 : m = 32) (hk12 : k = 12) (hpl : p ≤ 17592186044416) (hql : q ≤ 17592186044416) :
  Calls Try.prog 13 #[.slice A (m) (c), .slice B (k) (d), .slice C (p) (f), .slice E (q) (g)] w fun e w' => ∃ A c, e = .returned (.tuple #[.slice A (openL ks ns zs bs).1.length c, .int .i64 (((openL ks ns zs bs).2 : Nat) : Int)]) ∧ Own w' w.heap.size A c (openL ks ns zs bs).1 ∧ Below w.heap.size w w' := by
 have hle := he.le
 have hbn : Bs w (subA E 0 g) g (bs.take (q - 16)) := by
  have h := he.sub (l := 0) (q := q - 16) (m := g) (by omega) (by omega) (Nat.le_refl _)
  simpa using h
 have hbt : Bs w (subA E (q - 16) g) (g - (q - 16)) (bs.drop (q - 16)) := by
  have h := he.sub (l := q - 16) (q := q) (m := g) (by omega) (by omega) (Nat.le_refl _)
  rwa [show (bs.drop (q - 16)).take (q - (q - 16)) = bs.drop (q - 16) from List.take_of_length_le (by rw [List.length_drop]; omega)] at h
 have hnl : (bs.take (q - 16)).length = q - 16 := by rw [List.length_take]; omega
 have htl : (bs.drop (q - 16)).length = q - (q - 16) := by rw [List.length_drop, hq]
 refine x_enter 46 Try.func13 rfl rfl (fun a hs hd ha0 => ?_)
 have t0 : a.eval (.tmp 0) = .slice A (m) (c) := ha0 0 _ rfl
 have t1 : a.eval (.tmp 1) = .slice B (k) (d) := ha0 1 _ rfl
 have t2 : a.eval (.tmp 2) = .slice C (p) (f) := ha0 2 _ rfl
 have t3 : a.eval (.tmp 3) = .slice E (q) (g) := ha0 3 _ rfl
 clear ha0
 refine w2_sr (fun K_1 hK_1 => ?_)
 refine q_as (.slice none (0) (0)) rfl ?_
 refine q_as (.int .i64 ((0 : Nat) : Int)) rfl ?_
 refine x_nil (hK_1 _ _ ?_)
 refine w2_seq (fun K_2 hK_2 => ?_)
 refine w2_sr (fun K_3 hK_3 => ?_)
 refine q_mv ((pm rfl).trans t0) ?_
 refine q_v 12 (.int .i64 ((m : Nat) : Int)) (o_len rfl (pe hs rfl rfl)) ?_
 refine q_v 13 (.bool (false)) (o_eq (o_neq (m := m) (n := 32) rfl (pe hs rfl rfl) rfl) (by rw [decide_eq_true hm32]; rfl)) ?_
 refine q_mv (pe hs rfl rfl) ?_
 refine op_valG (e := 14) (d := 15) (v := .slice B (k) (d)) rfl rfl (by kernel_rfl) (pe hs rfl rfl) (o_move rfl ((pm rfl).trans t1)) ?_
 refine op_valG (e := 14) (d := 16) (v := .int .i64 ((k : Nat) : Int)) rfl rfl (by kernel_rfl) (pe hs rfl rfl) (o_len rfl (pe hs rfl rfl)) ?_
 refine op_valG (e := 14) (d := 17) (v := .bool (false)) rfl rfl (by kernel_rfl) (pe hs rfl rfl) (o_eq (o_neq (m := k) (n := 12) rfl (pe hs rfl rfl) rfl) (by rw [decide_eq_true hk12]; rfl)) ?_
 refine q_v 18 (.bool (false)) (o_pickF rfl (pe hs rfl rfl) (pe hs rfl rfl)) ?_
 refine x_nil (hK_3 _ _ ?_)
 refine w2_condF (pe hs rfl rfl) ?_
 refine w2_skip ?_
 refine hK_2 _ _ ?_
 refine w2_seq (fun K_4 hK_4 => ?_)
 refine w2_sr (fun K_5 hK_5 => ?_)
 refine q_mv ((pm rfl).trans t3) ?_
 refine q_v 20 (.int .i64 ((q : Nat) : Int)) (o_len rfl (pe hs rfl rfl)) ?_
 refine q_v 21 (.bool (decide (q < 16))) (o_lss (m := q) (n := 16) rfl (pe hs rfl rfl) rfl) ?_
 refine x_nil (hK_5 _ _ ?_)
 refine w2_split (pe hs rfl rfl) (fun h_1 => ?_) (fun h_1 => ?_)
 ·simp only [DD9] at h_1
  have ho : openL ks ns zs bs = ([], 2) := if_pos (by omega)
  refine w2_sr (fun K_6 hK_6 => ?_)
  refine q_as (.slice none (0) (0)) rfl ?_
  refine q_as (.int .i64 ((2 : Nat) : Int)) rfl ?_
  refine x_nil (hK_6 _ _ ?_)
  refine w2_ret ?_
  refine thn_ret ?_
  refine ret2 rfl hd (pe hs rfl rfl) (pe hs rfl rfl) ?_
  exact ⟨none, 0, by rw [ho]; rfl, by rw [ho]; exact Own.nil _ _, Below.refl _ _⟩
 ·simp only [DD9] at h_1
  refine w2_skip ?_
  refine hK_4 _ _ ?_
  refine w2_sr (fun K_7 hK_7 => ?_)
  refine q_mv ((pm rfl).trans t3) ?_
  refine q_mv ((pm rfl).trans t3) ?_
  refine q_v 24 (.int .i64 ((q : Nat) : Int)) (o_len rfl (pe hs rfl rfl)) ?_
  refine q_v 25 (.int .i64 ((q - 16 : Nat) : Int)) (o_sub64 (m := q) (n := 16) rfl (pe hs rfl rfl) rfl (by omega) (by omega)) ?_
  refine q_v 26 (.slice ((subA E 0 g)) (q - 16) (g)) (o_sliceH (h := q - 16) rfl (pe hs rfl rfl) (pe hs rfl rfl) (by omega)) ?_
  refine q_at (pe hs rfl rfl) ?_
  refine x_nil (hK_7 _ _ ?_)
  refine w2_seq (fun K_8 hK_8 => ?_)
  refine w2_seq (fun K_9 hK_9 => ?_)
  refine x_drawn 12 [fun _ v => v = .slice A (m) (c), fun _ v => v = .slice B (k) (d), fun _ v => v = .slice C (p) (f), fun _ v => v = .slice ((subA E 0 g)) (q - 16) (g), fun ww vv => OwnN w.heap.size (16) (macL ks ns zs (bs.take (q - 16))) ww vv, fun _ v => v = .string (strB (macL ks ns zs (bs.take (q - 16)))), fun _ v => v = .slice E (q) (g), fun _ v => v = .slice E (q) (g), fun _ v => v = .int .i64 ((q : Nat) : Int), fun _ v => v = .int .i64 ((q - 16 : Nat) : Int), fun _ v => v = .slice ((subA E (q - 16) g)) (q - (q - 16)) (g - (q - 16)), fun _ v => v = .string (strB (bs.drop (q - 16)))] [27, 28, 29, 30, 31, 32, 33, 34, 35, 36, 37, 38] hs hd (by kernel_rfl) (by kernel_rfl) (by kernel_rfl) (by kernel_rfl) (by kernel_rfl) ⟨stLit, stLit, stLit, stLit, stOwn, stLit, stLit, stLit, stLit, stLit, stLit, stLit, trivial⟩ ⟨(step_ok rfl (fun a' w' hb' hO hD => by
    have d_1 := (hO 0 (by decide)).trans ((pm rfl).trans t0)
    exact .inl ⟨_, _, (o_move rfl d_1), rfl, Below.refl _ _⟩)),
(step_ok rfl (fun a' w' hb' hO hD => by
    have d_2 := (hO 1 (by decide)).trans ((pm rfl).trans t1)
    exact .inl ⟨_, _, (o_move rfl d_2), rfl, Below.refl _ _⟩)),
(step_ok rfl (fun a' w' hb' hO hD => by
    have d_3 := (hO 2 (by decide)).trans ((pm rfl).trans t2)
    exact .inl ⟨_, _, (o_move rfl d_3), rfl, Below.refl _ _⟩)),
(step_ok rfl (fun a' w' hb' hO hD => by
    have d_4 : a'.eval (.tmp 10) = .slice ((subA E 0 g)) (q - 16) (g) := (hO 10 (by decide)).trans (pe hs rfl rfl)
    exact .inl ⟨_, _, (o_move rfl d_4), rfl, Below.refl _ _⟩)),
(step_ok rfl (fun a' w' hb' hO hD => by
    have d_5 : a'.eval (.tmp 27) = .slice A (m) (c) := hD 0 27 (by kernel_rfl) rfl
    have d_6 : a'.eval (.tmp 28) = .slice B (k) (d) := hD 1 28 (by kernel_rfl) rfl
    have d_7 : a'.eval (.tmp 29) = .slice C (p) (f) := hD 2 29 (by kernel_rfl) rfl
    have d_8 : a'.eval (.tmp 30) = .slice ((subA E 0 g)) (q - 16) (g) := hD 3 30 (by kernel_rfl) rfl
    exact .inr ⟨_, #[.slice A (m) (c), .slice B (k) (d), .slice C (p) (f), .slice ((subA E 0 g)) (q - 16) (g)], (exec_call Try.func33 (by kernel_rfl) (by kernel_rfl) _ rfl _ _ (args4 d_5 d_6 d_7 d_8)), Calls.mono (macW_any _ (ha.below hb') (hb.below hb') (hc.below hb') (hbn.below hb') hm hk hp hnl hm32 hk12 (by omega) (by omega)) (fun e w'' hR => by obtain ⟨A_1, c_1, rfl, ho_1, hb_1⟩ := hR; exact ⟨_, rfl, ⟨_, _, rfl, ho_1.mono hb'.size⟩, hb_1⟩)⟩)),
(step_ok rfl (fun a' w' hb' hO hD => by
    have d_9 := hD 4 31 (by kernel_rfl) rfl
    obtain ⟨A_2, c_2, hv_1, hO_1⟩ := d_9
    exact .inl ⟨_, _, (o_str rfl hv_1 (hO_1).bs (by simp only [macL_length])), rfl, Below.refl _ _⟩)),
(step_ok rfl (fun a' w' hb' hO hD => by
    have d_10 := (hO 3 (by decide)).trans ((pm rfl).trans t3)
    exact .inl ⟨_, _, (o_move rfl d_10), rfl, Below.refl _ _⟩)),
(step_ok rfl (fun a' w' hb' hO hD => by
    have d_11 := (hO 3 (by decide)).trans ((pm rfl).trans t3)
    exact .inl ⟨_, _, (o_move rfl d_11), rfl, Below.refl _ _⟩)),
(step_ok rfl (fun a' w' hb' hO hD => by
    have d_12 : a'.eval (.tmp 34) = .slice E (q) (g) := hD 7 34 (by kernel_rfl) rfl
    exact .inl ⟨_, _, (o_len rfl d_12), rfl, Below.refl _ _⟩)),
(step_ok rfl (fun a' w' hb' hO hD => by
    have d_13 : a'.eval (.tmp 35) = .int .i64 ((q : Nat) : Int) := hD 8 35 (by kernel_rfl) rfl
    exact .inl ⟨_, _, (o_sub64 (m := q) (n := 16) rfl d_13 rfl (by omega) (by omega)), rfl, Below.refl _ _⟩)),
(step_ok rfl (fun a' w' hb' hO hD => by
    have d_14 : a'.eval (.tmp 33) = .slice E (q) (g) := hD 6 33 (by kernel_rfl) rfl
    have d_15 : a'.eval (.tmp 36) = .int .i64 ((q - 16 : Nat) : Int) := hD 9 36 (by kernel_rfl) rfl
    exact .inl ⟨_, _, (o_sliceL (l := q - 16) rfl d_14 d_15 (by omega)), rfl, Below.refl _ _⟩)),
(step_ok rfl (fun a' w' hb' hO hD => by
    have d_16 : a'.eval (.tmp 37) = .slice ((subA E (q - 16) g)) (q - (q - 16)) (g - (q - 16)) := hD 10 37 (by kernel_rfl) rfl
    exact .inl ⟨_, _, (o_str rfl d_16 (hbt.below hb') htl), rfl, Below.refl _ _⟩)), trivial⟩ (fun a_1 w_1 hs_1 hd_1 hb_2 hO_2 hV_1 => ?_)
  have ta_1_0 := (hO_2 0 (by decide)).trans ((pm rfl).trans t0)
  have ta_1_1 := (hO_2 1 (by decide)).trans ((pm rfl).trans t1)
  have ta_1_10 : a_1.eval (.tmp 10) = .slice ((subA E 0 g)) (q - 16) (g) := (hO_2 10 (by decide)).trans (pe hs rfl rfl)
  clear t0 t1 t2 t3 hd
  have x_1 := hV_1 4 31 rfl rfl
  obtain ⟨A_3, c_3, hv_2, hO_3⟩ := x_1
  have ta_1_32 : a_1.eval (.tmp 32) = .string (strB (macL ks ns zs (bs.take (q - 16)))) := hV_1 5 32 rfl rfl
  have ta_1_38 : a_1.eval (.tmp 38) = .string (strB (bs.drop (q - 16))) := hV_1 11 38 rfl rfl
  clear hV_1 hO_2
  simp only [List.drop_succ_cons, List.drop_zero]
  refine q_v 39 (.bool (!decide (strB (macL ks ns zs (bs.take (q - 16))) = strB (bs.drop (q - 16))))) (o_neSD rfl ((pm rfl).trans ta_1_32) ((pm rfl).trans ta_1_38)) ?_
  refine x_nil (hK_9 _ _ ?_)
  refine w2_split (pe hs_1 rfl rfl) (fun h_2 => ?_) (fun h_2 => ?_)
  ·simp only [DD9] at h_2
   have hne : ¬ macL ks ns zs (bs.take (q - 16)) = bs.drop (q - 16) := by
    intro h9; have h8 := h_2; rw [h9] at h8; simp at h8
   have ho : openL ks ns zs bs = ([], 4) := by
    unfold openL; rw [if_neg (by omega), if_neg (by rw [hq]; exact hne)]
   refine w2_sr (fun K_10 hK_10 => ?_)
   refine q_as (.slice none (0) (0)) rfl ?_
   refine q_as (.int .i64 ((4 : Nat) : Int)) rfl ?_
   refine x_nil (hK_10 _ _ ?_)
   refine w2_ret ?_
   refine thn_ret ?_
   refine ret2 rfl hd_1 (pe hs_1 rfl rfl) (pe hs_1 rfl rfl) ?_
   exact ⟨none, 0, by rw [ho]; rfl, by rw [ho]; exact Own.nil _ _, hb_2⟩
  ·simp only [DD9] at h_2
   have hne : macL ks ns zs (bs.take (q - 16)) = bs.drop (q - 16) := by
    exact (strB_inj (xs := macL ks ns zs (bs.take (q - 16))) (fun x hx => tagL_lt _ _ x hx) (fun x hx => he.b8 x (List.mem_of_mem_drop hx))).mp h_2
   have ho : openL ks ns zs bs = (xorS ks ns 1 (bs.take (q - 16)), 0) := by
    unfold openL; rw [if_neg (by omega), hq, if_pos hne]
   refine w2_skip ?_
   refine hK_8 _ _ ?_
   refine w2_sr (fun K_11 hK_11 => ?_)
   refine q_mv ((pm rfl).trans ta_1_0) ?_
   refine q_mv ((pm rfl).trans ta_1_1) ?_
   refine q_mv ((pm rfl).trans ta_1_10) ?_
   refine q_ca (vs := #[.slice A (m) (c), .slice B (k) (d), .int .u32 ((1 : Nat) : Int), .slice ((subA E 0 g)) (q - 16) (g)]) Try.func32 (args4 (pe hs_1 rfl rfl) (pe hs_1 rfl rfl) rfl (pe hs_1 rfl rfl)) (XorChaW_ok 1 _ (ha.below hb_2) (hb.below hb_2) (hbn.below hb_2) hm hk hnl (by omega) hm32 hk12 (by omega)) (fun e_1 w_2 hR_1 => ?_)
   obtain ⟨A_4, c_4, rfl, ho_2, hb_3⟩ := hR_1
   replace ho_2 := ho_2.mono hb_2.size
   replace hO_3 := hO_3.nx hb_3
   have HB_1 := below_from hb_2 hb_3
   refine ⟨_, rfl, ?_⟩
   refine q_ex (v := .slice A_4 (q - 16) (c_4)) (pe hs_1 rfl rfl) rfl ?_
   refine q_ex (v := .int .i64 ((0 : Nat) : Int)) (pe hs_1 rfl rfl) rfl ?_
   refine q_at (pe hs_1 rfl rfl) ?_
   refine q_at (v := .int .i64 ((0 : Nat) : Int)) (pe hs_1 rfl rfl) ?_
   refine x_nil (hK_11 _ _ ?_)
   refine w2_ret ?_
   refine ret2 rfl hd_1 (pe hs_1 rfl rfl) (pe hs_1 rfl rfl) ?_
   exact ⟨_, _, by rw [ho, xorS_length, List.length_take, hq, Nat.min_eq_left (by omega)], by rw [ho]; exact ho_2, HB_1⟩
end Go.Proofs.Ytggalcdkfielkaa
