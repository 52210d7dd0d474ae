/-
 WALKS: the reference's numbers: prime, least, sums.
-/
import Derived.Test.YtikjcikedbcfmaaRefNum
import Derived.Test.YtikjcikedbcfmaaOpsZ
import Derived.Test.YtikjcikedbcfmaaDrawn
import Derived.Test.YtikjcikedbcfmaaZero
namespace Go.Proofs.Ytikjcikedbcfmaa
open Go.RowKit
set_option linter.unusedVariables false
set_option linter.unusedSimpArgs false
set_option maxRecDepth 100000
attribute [local irreducible] wpList wpListIn putsR

def rndK (xs : List Nat) : Nat → List Nat
 | 0 => xs
 | k + 1 => roundD (rndK xs k)
theorem roundD_le {l : List Nat} (h : l.length = 16) (hM : ∀ j, l.getD j 0 ≤ 65535 * 17592186044416) : ∀ j, (roundD l).getD j 0 ≤ 65535 * 17592186044416 := by
 intro j
 have hc := carryK_c hM 16
 have hl := carryK_length l 16
 have hb : ∀ i, (carryK l 16).1.getD i 0 < 65536 := by
  intro i
  by_cases hi : i < 16
  ·exact carryK_below l 16 i hi (by omega)
  ·rw [List.getD_eq_getElem?_getD, List.getElem?_eq_none (by omega)]
   decide
 unfold roundD
 dsimp only
 have h0 := hb 0
 have h15 := hb 15
 have hj := hb j
 by_cases e15 : 15 = j
 ·subst e15
  rw [getD_set_eq (by simp only [List.length_set]; omega)]
  omega
 ·rw [getD_set_ne e15]
  by_cases e0 : 0 = j
  ·subst e0
   rw [getD_set_eq (by simp only [List.length_set]; omega), getD_set_eq (by omega), getD_set_ne (by decide)]
   omega
  ·rw [getD_set_ne e0, getD_set_ne e0]
   omega
theorem rndK_ok {xs : List Nat} (hl : xs.length = 16) (hM : ∀ j, xs.getD j 0 ≤ 65535 * 17592186044416) : ∀ R, (rndK xs R).length = 16 ∧ ∀ j, (rndK xs R).getD j 0 ≤ 65535 * 17592186044416
 | 0 => ⟨hl, hM⟩
 | R + 1 => ⟨roundD_length (rndK_ok hl hM R).1, roundD_le (rndK_ok hl hM R).1 (rndK_ok hl hM R).2⟩
def primeK : Nat → List Nat
 | 0 => List.replicate 16 0
 | k + 1 => (primeK k).set k 65535
theorem primeK_length : ∀ k, (primeK k).length = 16
 | 0 => List.length_replicate
 | k + 1 => by rw [primeK, List.length_set]; exact primeK_length k
theorem primeK_16 : ((primeK 16).set 0 65517).set 15 32767 = digN P := by decide +kernel
theorem rnd3 (xs : List Nat) : rndK xs 3 = roundD (roundD (roundD xs)) := rfl
theorem and16_lt (x : Nat) : x % 65536 < 65536 := Nat.mod_lt _ (by decide)
theorem prime_any (w : World) :
  Calls Try.prog 35 #[] w fun e w' => e = .returned (.agg (iws .u64 (digN P)).toArray) ∧ Below w.heap.size w w' := by
 refine x_enter 12 Try.func35 rfl rfl (fun a hs hd ha0 => ?_)
 clear ha0
 refine w2_sr (fun K_1 hK_1 => ?_)
 refine op_ex (d := 0) rfl rfl (o_alloc (zs := (iws .u64 (List.replicate 16 0)).toArray) rfl (fun _ => by kernel_rfl)) (fun v_1 w_1 hR_1 => ?_)
 obtain ⟨g_1, rfl, hle_1, hB_1, hb_1⟩ := hR_1
 have ge_1 : w.heap.size ≤ g_1 := hle_1
 refine x_nil (hK_1 _ _ ?_)
 refine w2_sr (fun K_2 hK_2 => ?_)
 refine op_ex (d := 1) rfl rfl (o_alloc (zs := (iws .u64 (List.replicate 16 0)).toArray) rfl (fun _ => by kernel_rfl)) (fun v_2 w_2 hR_2 => ?_)
 obtain ⟨g_2, rfl, hle_2, hB_2, hb_2⟩ := hR_2
 have ne_1 : g_1 ≠ g_2 := Nat.ne_of_lt (Nat.lt_of_lt_of_le hB_1.lt hle_2)
 have ge_2 : w.heap.size ≤ g_2 := Nat.le_trans hb_1.size hle_2
 replace hB_1 := hB_1.nx hb_2
 have HB_1 := below_from hb_1 hb_2
 refine x_nil (hK_2 _ _ ?_)
 refine w2_seq (fun K_3 hK_3 => ?_)
 refine w2_sr (fun K_4 hK_4 => ?_)
 refine q_v 3 (.int .i64 ((0 : Nat) : Int)) (o_move rfl rfl) ?_
 refine x_nil (hK_4 _ _ ?_)
 refine w2_block (fun K_5 hK_5 => ?_)
 refine x_loop (fun nn aa ww => ∃ (K : Nat), nn = 16 - K ∧ aa.tmps.size = 12 ∧ aa.defers = [] ∧ aa.eval (.tmp 0) = .pointer (some ⟨g_1, 0, none⟩) ∧ aa.eval (.tmp 1) = .pointer (some ⟨g_2, 0, none⟩) ∧ aa.eval (.tmp 3) = .int .i64 ((K : Nat) : Int) ∧ K ≤ 16 ∧ Blk ww g_1 (iws .u64 (List.replicate 16 0)).toArray 32 ∧ Blk ww g_2 (iws .u64 (primeK K)).toArray 32 ∧ Below w.heap.size w ww) (16) ?_ ?_
 ·exact ⟨0, rfl, (by rw [putsR_size]; exact hs), (by rw [putsR_defers]; exact hd), (pe hs rfl rfl), (pe hs rfl rfl), (pe hs rfl rfl), by omega, hB_1, hB_2, HB_1⟩
 ·skip
  clear hd hB_1 hB_2 HB_1
  rintro nna_1 a_1 w_3 ⟨K, hm_1, hs_1, hd_1, ta_1_0, ta_1_1, ta_1_3, hK, BR, BA, HBL⟩ K_6 hK_6
  subst hm_1
  have hpl := primeK_length K
  refine w2_sr (fun K_7 hK_7 => ?_)
  refine q_v 4 (.bool (decide (K < 16))) (o_lss (m := K) (n := 16) rfl ((pm rfl).trans ta_1_3) rfl) ?_
  refine x_nil (hK_7 _ _ ?_)
  refine w2_seq (fun K_8 hK_8 => ?_)
  refine w2_split (pe hs_1 rfl rfl) (fun h_1 => ?_) (fun h_1 => ?_)
  ·simp only [DD9] at h_1
   refine w2_skip ?_
   refine hK_8 _ _ ?_
   refine w2_seq (fun K_9 hK_9 => ?_)
   refine w2_block (fun K_10 hK_10 => ?_)
   refine w2_sr (fun K_11 hK_11 => ?_)
   refine q_mv ((pm rfl).trans ta_1_3) ?_
   refine q_at (pe hs_1 rfl rfl) ?_
   refine x_nil (hK_11 _ _ ?_)
   refine x_region (by kernel_rfl) ?_
   refine q_mv (pe hs_1 rfl rfl) ?_
   refine op_val (d := 7) (v := .pointer (some ⟨g_2, K, none⟩)) rfl rfl (zero_off (o_ixA (k := 0) (i := K) (n := 16) (e := 23) rfl ((pm rfl).trans ta_1_1) (pe hs_1 rfl rfl) (by omega) (fun _ => by kernel_rfl) (fun _ => by kernel_rfl))) ?_
   refine op_do rfl rfl (o_storeW rfl (pe hs_1 rfl rfl) rfl BA (by rw [hpl]; omega) ⟨by kernel_rfl, by kernel_rfl⟩) (fun w_4 hR_3 => ?_)
   obtain ⟨hB_3, hX_1⟩ := hR_3
   replace BR := hX_1.blk BR ne_1
   have HB_2 := hX_1.below HBL HBL.size (fun k hk => hk ▸ ge_2)
   clear BA
   refine x_nil (hK_10 _ _ ?_)
   refine hK_9 _ _ ?_
   refine x_region (by kernel_rfl) ?_
   refine q_v 8 (.int .i64 ((K + 1 : Nat) : Int)) (o_add64 (m := K) (n := 1) rfl ((pm rfl).trans ta_1_3) rfl (by omega)) ?_
   refine q_mv (pe hs_1 rfl rfl) ?_
   refine x_nil ?_
   refine hK_6 _ _ _ ⟨K + 1, rfl, (by rw [putsR_size]; exact hs_1), (by rw [putsR_defers]; exact hd_1), ((pm rfl).trans ta_1_0), ((pm rfl).trans ta_1_1), (pe hs_1 rfl rfl), (by omega), BR, hB_3, HB_2⟩ ?_
   omega
  ·simp only [DD9] at h_1
   obtain rfl : K = 16 := by omega
   refine w2_exit ?_
   refine thn_exit ?_
   refine thn_exit ?_
   refine exb_hit ?_
   refine hK_5 _ _ ?_
   refine hK_3 _ _ ?_
   refine w2_sr (fun K_12 hK_12 => ?_)
   refine op_val (d := 9) (v := .pointer (some ⟨g_2, 0, none⟩)) rfl rfl (zero_off (o_ixA (k := 0) (i := 0) (n := 16) (e := 23) rfl ((pm rfl).trans ta_1_1) rfl (by omega) (fun _ => by kernel_rfl) (fun _ => by kernel_rfl))) ?_
   refine op_do rfl rfl (o_storeW rfl (pe hs_1 rfl rfl) rfl BA (by rw [hpl]; omega) ⟨by kernel_rfl, by kernel_rfl⟩) (fun w_5 hR_4 => ?_)
   obtain ⟨hB_4, hX_2⟩ := hR_4
   replace BR := hX_2.blk BR ne_1
   have HB_3 := hX_2.below HBL HBL.size (fun k hk => hk ▸ ge_2)
   clear BA
   refine op_val (d := 10) (v := .pointer (some ⟨g_2, 15, none⟩)) rfl rfl (zero_off (o_ixA (k := 0) (i := 15) (n := 16) (e := 23) rfl ((pm rfl).trans ta_1_1) rfl (by omega) (fun _ => by kernel_rfl) (fun _ => by kernel_rfl))) ?_
   refine op_do rfl rfl (o_storeW rfl (pe hs_1 rfl rfl) rfl hB_4 (by simp only [List.length_set, hpl]; omega) ⟨by kernel_rfl, by kernel_rfl⟩) (fun w_6 hR_5 => ?_)
   obtain ⟨hB_5, hX_3⟩ := hR_5
   replace BR := hX_3.blk BR ne_1
   have HB_4 := hX_3.below HB_3 HB_3.size (fun k hk => hk ▸ ge_2)
   clear hB_4
   refine x_nil (hK_12 _ _ ?_)
   refine w2_seq (fun K_13 hK_13 => ?_)
   rw [primeK_16] at hB_5
   refine x_region (by kernel_rfl) ?_
   refine q_v 11 (.agg (iws .u64 (digN P)).toArray) (o_loadI rfl ((pm rfl).trans ta_1_1) hB_5 (by rw [digN_length]; exact ⟨by kernel_rfl, by kernel_rfl⟩)) ?_
   refine op_do rfl rfl (o_storeI rfl ((pm rfl).trans ta_1_0) (pe hs_1 rfl rfl) BR (by rw [(digN_length _)]; exact ⟨by kernel_rfl, by kernel_rfl⟩) (by rw [digN_length]; simp [iws])) (fun w_7 hR_6 => ?_)
   obtain ⟨hB_6, hX_4⟩ := hR_6
   have HB_5 := hX_4.below HB_4 HB_4.size (fun k hk => hk ▸ ge_1)
   clear BR
   refine x_nil (hK_13 _ _ ?_)
   refine w2_ret ?_
   refine retC rfl hd_1 ((pm rfl).trans ta_1_0) (loadI hB_6 (by rw [(digN_length _)]; exact ⟨by kernel_rfl, by kernel_rfl⟩)) ?_
   exact ⟨rfl, HB_5⟩
set_option maxHeartbeats 1000000 in
theorem least_any {xs : List Nat} (w : World) (hl : xs.length = 16) (hM : ∀ j, xs.getD j 0 ≤ 65535 * 17592186044416) :
  Calls Try.prog 33 #[.agg (iws .u64 (xs)).toArray] w fun e w' => e = .returned (.agg (iws .u64 (digN (valD xs % P))).toArray) ∧ Below w.heap.size w w' := by
 refine x_enter 105 Try.func33 rfl rfl (fun a hs hd ha0 => ?_)
 have t0 : a.eval (.tmp 0) = .agg (iws .u64 (xs)).toArray := ha0 0 _ rfl
 clear ha0
 refine w2_sr (fun K_1 hK_1 => ?_)
 refine op_ex (d := 1) rfl rfl (o_boxI rfl ((pm rfl).trans t0)) (fun v_1 w_1 hR_1 => ?_)
 obtain ⟨g_1, rfl, hle_1, hB_1, hb_1⟩ := hR_1
 have ge_1 : w.heap.size ≤ g_1 := hle_1
 refine op_ex (d := 2) rfl rfl (o_alloc (zs := (iws .u64 (List.replicate 16 0)).toArray) rfl (fun _ => by kernel_rfl)) (fun v_2 w_2 hR_2 => ?_)
 obtain ⟨g_2, rfl, hle_2, hB_2, hb_2⟩ := hR_2
 have ne_1 : g_1 ≠ g_2 := Nat.ne_of_lt (Nat.lt_of_lt_of_le hB_1.lt hle_2)
 have ge_2 : w.heap.size ≤ g_2 := Nat.le_trans hb_1.size hle_2
 replace hB_1 := hB_1.nx hb_2
 have HB_1 := below_from hb_1 hb_2
 refine x_nil (hK_1 _ _ ?_)
 refine w2_seq (fun K_2 hK_2 => ?_)
 refine w2_sr (fun K_3 hK_3 => ?_)
 refine q_v 11 (.int .i64 ((0 : Nat) : Int)) (o_move rfl rfl) ?_
 refine x_nil (hK_3 _ _ ?_)
 refine w2_block (fun K_4 hK_4 => ?_)
 refine x_loop (fun nn aa ww => ∃ (R : Nat), nn = 3 - R ∧ aa.tmps.size = 105 ∧ aa.defers = [] ∧ aa.eval (.tmp 0) = .agg (iws .u64 (xs)).toArray ∧ aa.eval (.tmp 1) = .pointer (some ⟨g_1, 0, none⟩) ∧ aa.eval (.tmp 2) = .pointer (some ⟨g_2, 0, none⟩) ∧ aa.eval (.tmp 11) = .int .i64 ((R : Nat) : Int) ∧ R ≤ 3 ∧ Blk ww g_1 (iws .u64 (rndK xs R)).toArray 32 ∧ Blk ww g_2 (iws .u64 (List.replicate 16 0)).toArray 32 ∧ Below w.heap.size w ww) (3) ?_ ?_
 ·exact ⟨0, rfl, (by rw [putsR_size]; exact hs), (by rw [putsR_defers]; exact hd), ((pm rfl).trans t0), (pe hs rfl rfl), (pe hs rfl rfl), (pe hs rfl rfl), by omega, hB_1, hB_2, HB_1⟩
 ·skip
  clear t0 hd hB_1 hB_2 HB_1
  rintro nna_1 a_1 w_3 ⟨R, hm_1, hs_1, hd_1, ta_1_0, ta_1_1, ta_1_2, ta_1_11, hR3, BA, BR, HBL⟩ K_5 hK_5
  subst hm_1
  obtain ⟨hrl, hrM⟩ := rndK_ok hl hM R
  refine w2_sr (fun K_6 hK_6 => ?_)
  refine q_v 12 (.bool (decide (R < 3))) (o_lss (m := R) (n := 3) rfl ((pm rfl).trans ta_1_11) rfl) ?_
  refine x_nil (hK_6 _ _ ?_)
  refine w2_seq (fun K_7 hK_7 => ?_)
  refine w2_split (pe hs_1 rfl rfl) (fun h_1 => ?_) (fun h_1 => ?_)
  ·simp only [DD9] at h_1
   refine w2_skip ?_
   refine hK_7 _ _ ?_
   refine w2_seq (fun K_8 hK_8 => ?_)
   refine w2_block (fun K_9 hK_9 => ?_)
   refine w2_sr (fun K_10 hK_10 => ?_)
   refine q_as (.int .u64 ((0 : Nat) : Int)) rfl ?_
   refine x_nil (hK_10 _ _ ?_)
   refine w2_seq (fun K_11 hK_11 => ?_)
   refine w2_sr (fun K_12 hK_12 => ?_)
   refine q_v 13 (.int .i64 ((0 : Nat) : Int)) (o_move rfl rfl) ?_
   refine x_nil (hK_12 _ _ ?_)
   refine w2_block (fun K_13 hK_13 => ?_)
   refine x_loop (fun nn aa ww => ∃ (K : Nat), nn = 16 - K ∧ aa.tmps.size = 105 ∧ aa.defers = [] ∧ aa.eval (.tmp 0) = .agg (iws .u64 (xs)).toArray ∧ aa.eval (.tmp 1) = .pointer (some ⟨g_1, 0, none⟩) ∧ aa.eval (.tmp 2) = .pointer (some ⟨g_2, 0, none⟩) ∧ aa.eval (.tmp 3) = .int .u64 (((carryK (rndK xs R) K).2 : Nat) : Int) ∧ aa.eval (.tmp 11) = .int .i64 ((R : Nat) : Int) ∧ aa.eval (.tmp 12) = .bool (decide (R < 3)) ∧ aa.eval (.tmp 13) = .int .i64 ((K : Nat) : Int) ∧ K ≤ 16 ∧ Blk ww g_1 (iws .u64 ((carryK (rndK xs R) K).1)).toArray 32 ∧ Blk ww g_2 (iws .u64 (List.replicate 16 0)).toArray 32 ∧ Below w.heap.size w ww) (16) ?_ ?_
   ·exact ⟨0, rfl, (by rw [putsR_size]; exact hs_1), (by rw [putsR_defers]; exact hd_1), ((pm rfl).trans ta_1_0), ((pm rfl).trans ta_1_1), ((pm rfl).trans ta_1_2), (pe hs_1 rfl rfl), ((pm rfl).trans ta_1_11), (pe hs_1 rfl rfl), (pe hs_1 rfl rfl), by omega, BA, BR, HBL⟩
   ·skip
    clear ta_1_0 ta_1_1 ta_1_2 ta_1_11 hd_1 BA BR HBL
    rintro nna_2 a_2 w_4 ⟨K, hm_2, hs_2, hd_2, ta_2_0, ta_2_1, ta_2_2, ta_2_3, ta_2_11, ta_2_12, ta_2_13, hK, BA, BR, HBL⟩ K_14 hK_14
    subst hm_2
    have hcl : (carryK (rndK xs R) K).1.length = 16 := (carryK_length _ K).trans hrl
    have hcc := carryK_c hrM K
    have hca := carryK_above (rndK xs R) K K (Nat.le_refl _)
    have hcm := hrM K
    refine w2_sr (fun K_15 hK_15 => ?_)
    refine q_v 14 (.bool (decide (K < 16))) (o_lss (m := K) (n := 16) rfl ((pm rfl).trans ta_2_13) rfl) ?_
    refine x_nil (hK_15 _ _ ?_)
    refine w2_seq (fun K_16 hK_16 => ?_)
    refine w2_split (pe hs_2 rfl rfl) (fun h_2 => ?_) (fun h_2 => ?_)
    ·simp only [DD9] at h_2
     refine w2_skip ?_
     refine hK_16 _ _ ?_
     refine w2_seq (fun K_17 hK_17 => ?_)
     refine w2_block (fun K_18 hK_18 => ?_)
     refine w2_sr (fun K_19 hK_19 => ?_)
     refine q_mv ((pm rfl).trans ta_2_13) ?_
     refine q_at (pe hs_2 rfl rfl) ?_
     refine x_nil (hK_19 _ _ ?_)
     refine w2_sr (fun K_20 hK_20 => ?_)
     refine q_mv ((pm rfl).trans ta_2_3) ?_
     refine q_mv (pe hs_2 rfl rfl) ?_
     refine op_val (d := 18) (v := .pointer (some ⟨g_1, K, none⟩)) rfl rfl (zero_off (o_ixA (k := 0) (i := K) (n := 16) (e := 23) rfl ((pm rfl).trans ta_2_1) (pe hs_2 rfl rfl) (by omega) (fun _ => by kernel_rfl) (fun _ => by kernel_rfl))) ?_
     refine q_v 19 (.int .u64 ((((carryK (rndK xs R) K).1).getD (K) 0 : Nat) : Int)) (o_loadW rfl (pe hs_2 rfl rfl) BA (by rw [hcl]; omega) rfl ⟨by kernel_rfl, by kernel_rfl⟩) ?_
     refine q_v 20 (.int .u64 ((((carryK (rndK xs R) K).2) + (((carryK (rndK xs R) K).1).getD (K) 0) : Nat) : Int)) (o_addU (m := ((carryK (rndK xs R) K).2)) (n := (((carryK (rndK xs R) K).1).getD (K) 0)) (((carryK (rndK xs R) K).2) + (((carryK (rndK xs R) K).1).getD (K) 0)) rfl (pe hs_2 rfl rfl) (pe hs_2 rfl rfl) (by rw [IntKind.wrap_u64]; omega)) ?_
     refine q_at (pe hs_2 rfl rfl) ?_
     refine x_nil (hK_20 _ _ ?_)
     refine w2_sr (fun K_21 hK_21 => ?_)
     refine q_mv (pe hs_2 rfl rfl) ?_
     refine q_mv (pe hs_2 rfl rfl) ?_
     refine q_v 23 (.int .u64 ((((carryK (rndK xs R) K).2 + (carryK (rndK xs R) K).1.getD (K) 0) % 65536 : Nat) : Int)) (o_eq (o_bits (m := (((carryK (rndK xs R) K).2) + (((carryK (rndK xs R) K).1).getD (K) 0))) (n := 65535) ((((carryK (rndK xs R) K).2) + (((carryK (rndK xs R) K).1).getD (K) 0)) &&& 65535) rfl (pe hs_2 rfl rfl) rfl (by decide) (u64_and_nat _ _ (by omega) (by omega))) (by rw [and_m16])) ?_
     refine op_val (d := 24) (v := .pointer (some ⟨g_1, K, none⟩)) rfl rfl (zero_off (o_ixA (k := 0) (i := K) (n := 16) (e := 23) rfl ((pm rfl).trans ta_2_1) (pe hs_2 rfl rfl) (by omega) (fun _ => by kernel_rfl) (fun _ => by kernel_rfl))) ?_
     refine op_do rfl rfl (o_storeW rfl (pe hs_2 rfl rfl) (pe hs_2 rfl rfl) BA (by rw [hcl]; omega) ⟨by kernel_rfl, by kernel_rfl⟩) (fun w_5 hR_3 => ?_)
     obtain ⟨hB_3, hX_1⟩ := hR_3
     replace BR := hX_1.blk BR (Ne.symm ne_1)
     have HB_2 := hX_1.below HBL HBL.size (fun k hk => hk ▸ ge_1)
     clear BA
     refine x_nil (hK_21 _ _ ?_)
     refine x_region (by kernel_rfl) ?_
     refine q_mv (pe hs_2 rfl rfl) ?_
     refine q_v 26 (.int .u64 (((((carryK (rndK xs R) K).2) + (((carryK (rndK xs R) K).1).getD (K) 0)) / 2 ^ 16 : Nat) : Int)) (o_shr (m := (((carryK (rndK xs R) K).2) + (((carryK (rndK xs R) K).1).getD (K) 0))) (n := 16) rfl (pe hs_2 rfl rfl) rfl (by decide)) ?_
     refine q_at (pe hs_2 rfl rfl) ?_
     refine x_nil (hK_18 _ _ ?_)
     refine hK_17 _ _ ?_
     refine x_region (by kernel_rfl) ?_
     refine q_v 27 (.int .i64 ((K + 1 : Nat) : Int)) (o_add64 (m := K) (n := 1) rfl ((pm rfl).trans ta_2_13) rfl (by omega)) ?_
     refine q_mv (pe hs_2 rfl rfl) ?_
     refine x_nil ?_
     refine hK_14 _ _ _ ⟨K + 1, rfl, (by rw [putsR_size]; exact hs_2), (by rw [putsR_defers]; exact hd_2), ((pm rfl).trans ta_2_0), ((pm rfl).trans ta_2_1), ((pm rfl).trans ta_2_2), (pe hs_2 rfl rfl), ((pm rfl).trans ta_2_11), ((pm rfl).trans ta_2_12), (pe hs_2 rfl rfl), (by omega), hB_3, BR, HB_2⟩ ?_
     omega
    ·simp only [DD9] at h_2
     obtain rfl : K = 16 := by omega
     refine w2_exit ?_
     refine thn_exit ?_
     refine thn_exit ?_
     refine exb_hit ?_
     refine hK_13 _ _ ?_
     refine hK_11 _ _ ?_
     refine w2_seq (fun K_22 hK_22 => ?_)
     have h0b : (carryK (rndK xs R) 16).1.getD 0 0 < 65536 := carryK_below (rndK xs R) 16 0 (by decide) (by omega)
     have h15b : (carryK (rndK xs R) 16).1.getD 15 0 < 65536 := carryK_below (rndK xs R) 16 15 (by decide) (by omega)
     refine x_region (by kernel_rfl) ?_
     refine op_val (d := 28) (v := .pointer (some ⟨g_1, 0, none⟩)) rfl rfl (zero_off (o_ixA (k := 0) (i := 0) (n := 16) (e := 23) rfl ((pm rfl).trans ta_2_1) rfl (by omega) (fun _ => by kernel_rfl) (fun _ => by kernel_rfl))) ?_
     refine q_v 29 (.int .u64 ((((carryK (rndK xs R) 16).1).getD (0) 0 : Nat) : Int)) (o_loadW rfl (pe hs_2 rfl rfl) BA (by rw [hcl]; omega) rfl ⟨by kernel_rfl, by kernel_rfl⟩) ?_
     refine q_mv ((pm rfl).trans ta_2_3) ?_
     refine q_v 31 (.int .u64 ((38 * (carryK (rndK xs R) 16).2 : Nat) : Int)) (o_eq (o_mulU (m := 38) (n := ((carryK (rndK xs R) 16).2)) (38 * ((carryK (rndK xs R) 16).2) % 18446744073709551616) rfl rfl (pe hs_2 rfl rfl) (by rw [IntKind.wrap_u64]; simp)) (by rw [Nat.mod_eq_of_lt (by omega)])) ?_
     refine q_v 32 (.int .u64 (((((carryK (rndK xs R) 16).1).getD (0) 0) + (38 * (carryK (rndK xs R) 16).2) : Nat) : Int)) (o_addU (m := (((carryK (rndK xs R) 16).1).getD (0) 0)) (n := (38 * (carryK (rndK xs R) 16).2)) ((((carryK (rndK xs R) 16).1).getD (0) 0) + (38 * (carryK (rndK xs R) 16).2)) rfl (pe hs_2 rfl rfl) (pe hs_2 rfl rfl) (by rw [IntKind.wrap_u64]; omega)) ?_
     refine op_val (d := 33) (v := .pointer (some ⟨g_1, 0, none⟩)) rfl rfl (zero_off (o_ixA (k := 0) (i := 0) (n := 16) (e := 23) rfl ((pm rfl).trans ta_2_1) rfl (by omega) (fun _ => by kernel_rfl) (fun _ => by kernel_rfl))) ?_
     refine op_do rfl rfl (o_storeW rfl (pe hs_2 rfl rfl) (pe hs_2 rfl rfl) BA (by rw [hcl]; omega) ⟨by kernel_rfl, by kernel_rfl⟩) (fun w_6 hR_4 => ?_)
     obtain ⟨hB_4, hX_2⟩ := hR_4
     replace BR := hX_2.blk BR (Ne.symm ne_1)
     have HB_3 := hX_2.below HBL HBL.size (fun k hk => hk ▸ ge_1)
     clear BA
     refine x_nil (hK_22 _ _ ?_)
     refine w2_seq (fun K_23 hK_23 => ?_)
     have e15 : (((carryK (rndK xs R) 16).1.set (0) ((carryK (rndK xs R) 16).1.getD (0) 0 + 38 * (carryK (rndK xs R) 16).2))).getD 15 0 = (carryK (rndK xs R) 16).1.getD 15 0 := getD_set_ne (by decide)
     have e0 : (((carryK (rndK xs R) 16).1.set (0) ((carryK (rndK xs R) 16).1.getD (0) 0 + 38 * (carryK (rndK xs R) 16).2))).getD 0 0 = (carryK (rndK xs R) 16).1.getD 0 0 + 38 * (carryK (rndK xs R) 16).2 := getD_set_eq (by omega)
     refine x_region (by kernel_rfl) ?_
     refine op_val (d := 34) (v := .pointer (some ⟨g_1, 0, none⟩)) rfl rfl (zero_off (o_ixA (k := 0) (i := 0) (n := 16) (e := 23) rfl ((pm rfl).trans ta_2_1) rfl (by omega) (fun _ => by kernel_rfl) (fun _ => by kernel_rfl))) ?_
     refine q_v 35 (.int .u64 (((((carryK (rndK xs R) 16).1).set (0) ((((carryK (rndK xs R) 16).1).getD (0) 0) + (38 * (carryK (rndK xs R) 16).2))).getD (0) 0 : Nat) : Int)) (o_loadW rfl (pe hs_2 rfl rfl) hB_4 (by simp only [List.length_set, hcl]; omega) rfl ⟨by kernel_rfl, by kernel_rfl⟩) ?_
     refine op_val (d := 36) (v := .pointer (some ⟨g_1, 15, none⟩)) rfl rfl (zero_off (o_ixA (k := 0) (i := 15) (n := 16) (e := 23) rfl ((pm rfl).trans ta_2_1) rfl (by omega) (fun _ => by kernel_rfl) (fun _ => by kernel_rfl))) ?_
     refine q_v 37 (.int .u64 (((((carryK (rndK xs R) 16).1).set (0) ((((carryK (rndK xs R) 16).1).getD (0) 0) + (38 * (carryK (rndK xs R) 16).2))).getD (15) 0 : Nat) : Int)) (o_loadW rfl (pe hs_2 rfl rfl) hB_4 (by simp only [List.length_set, hcl]; omega) rfl ⟨by kernel_rfl, by kernel_rfl⟩) ?_
     refine q_v 38 (.int .u64 ((((((carryK (rndK xs R) 16).1).set (0) ((((carryK (rndK xs R) 16).1).getD (0) 0) + (38 * (carryK (rndK xs R) 16).2))).getD (15) 0) / 2 ^ 15 : Nat) : Int)) (o_shr (m := ((((carryK (rndK xs R) 16).1).set (0) ((((carryK (rndK xs R) 16).1).getD (0) 0) + (38 * (carryK (rndK xs R) 16).2))).getD (15) 0)) (n := 15) rfl (pe hs_2 rfl rfl) rfl (by decide)) ?_
     refine q_v 39 (.int .u64 ((19 * (((carryK (rndK xs R) 16).1.set (0) ((carryK (rndK xs R) 16).1.getD (0) 0 + 38 * (carryK (rndK xs R) 16).2)).getD (15) 0 / 2 ^ 15) : Nat) : Int)) (o_eq (o_mulU (m := 19) (n := (((((carryK (rndK xs R) 16).1).set (0) ((((carryK (rndK xs R) 16).1).getD (0) 0) + (38 * (carryK (rndK xs R) 16).2))).getD (15) 0) / 2 ^ 15)) (19 * (((((carryK (rndK xs R) 16).1).set (0) ((((carryK (rndK xs R) 16).1).getD (0) 0) + (38 * (carryK (rndK xs R) 16).2))).getD (15) 0) / 2 ^ 15) % 18446744073709551616) rfl rfl (pe hs_2 rfl rfl) (by rw [IntKind.wrap_u64]; simp)) (by rw [Nat.mod_eq_of_lt (by omega)])) ?_
     refine q_v 40 (.int .u64 ((((((carryK (rndK xs R) 16).1).set (0) ((((carryK (rndK xs R) 16).1).getD (0) 0) + (38 * (carryK (rndK xs R) 16).2))).getD (0) 0) + (19 * (((carryK (rndK xs R) 16).1.set (0) ((carryK (rndK xs R) 16).1.getD (0) 0 + 38 * (carryK (rndK xs R) 16).2)).getD (15) 0 / 2 ^ 15)) : Nat) : Int)) (o_addU (m := ((((carryK (rndK xs R) 16).1).set (0) ((((carryK (rndK xs R) 16).1).getD (0) 0) + (38 * (carryK (rndK xs R) 16).2))).getD (0) 0)) (n := (19 * (((carryK (rndK xs R) 16).1.set (0) ((carryK (rndK xs R) 16).1.getD (0) 0 + 38 * (carryK (rndK xs R) 16).2)).getD (15) 0 / 2 ^ 15))) (((((carryK (rndK xs R) 16).1).set (0) ((((carryK (rndK xs R) 16).1).getD (0) 0) + (38 * (carryK (rndK xs R) 16).2))).getD (0) 0) + (19 * (((carryK (rndK xs R) 16).1.set (0) ((carryK (rndK xs R) 16).1.getD (0) 0 + 38 * (carryK (rndK xs R) 16).2)).getD (15) 0 / 2 ^ 15))) rfl (pe hs_2 rfl rfl) (pe hs_2 rfl rfl) (by rw [IntKind.wrap_u64]; omega)) ?_
     refine op_val (d := 41) (v := .pointer (some ⟨g_1, 0, none⟩)) rfl rfl (zero_off (o_ixA (k := 0) (i := 0) (n := 16) (e := 23) rfl ((pm rfl).trans ta_2_1) rfl (by omega) (fun _ => by kernel_rfl) (fun _ => by kernel_rfl))) ?_
     refine op_do rfl rfl (o_storeW rfl (pe hs_2 rfl rfl) (pe hs_2 rfl rfl) hB_4 (by simp only [List.length_set, hcl]; omega) ⟨by kernel_rfl, by kernel_rfl⟩) (fun w_7 hR_5 => ?_)
     obtain ⟨hB_5, hX_3⟩ := hR_5
     replace BR := hX_3.blk BR (Ne.symm ne_1)
     have HB_4 := hX_3.below HB_3 HB_3.size (fun k hk => hk ▸ ge_1)
     clear hB_4
     refine x_nil (hK_23 _ _ ?_)
     have e15' : ((((carryK (rndK xs R) 16).1.set (0) ((carryK (rndK xs R) 16).1.getD (0) 0 + 38 * (carryK (rndK xs R) 16).2)).set (0) (((carryK (rndK xs R) 16).1.set (0) ((carryK (rndK xs R) 16).1.getD (0) 0 + 38 * (carryK (rndK xs R) 16).2)).getD (0) 0 + 19 * (((carryK (rndK xs R) 16).1.set (0) ((carryK (rndK xs R) 16).1.getD (0) 0 + 38 * (carryK (rndK xs R) 16).2)).getD (15) 0 / 2 ^ 15)))).getD 15 0 = (carryK (rndK xs R) 16).1.getD 15 0 := (getD_set_ne (by decide)).trans e15
     refine x_region (by kernel_rfl) ?_
     refine op_val (d := 42) (v := .pointer (some ⟨g_1, 15, none⟩)) rfl rfl (zero_off (o_ixA (k := 0) (i := 15) (n := 16) (e := 23) rfl ((pm rfl).trans ta_2_1) rfl (by omega) (fun _ => by kernel_rfl) (fun _ => by kernel_rfl))) ?_
     refine q_v 43 (.int .u64 ((((((carryK (rndK xs R) 16).1).set (0) ((((carryK (rndK xs R) 16).1).getD (0) 0) + (38 * (carryK (rndK xs R) 16).2))).set (0) (((((carryK (rndK xs R) 16).1).set (0) ((((carryK (rndK xs R) 16).1).getD (0) 0) + (38 * (carryK (rndK xs R) 16).2))).getD (0) 0) + (19 * (((carryK (rndK xs R) 16).1.set (0) ((carryK (rndK xs R) 16).1.getD (0) 0 + 38 * (carryK (rndK xs R) 16).2)).getD (15) 0 / 2 ^ 15)))).getD (15) 0 : Nat) : Int)) (o_loadW rfl (pe hs_2 rfl rfl) hB_5 (by simp only [List.length_set, List.length_set, hcl]; omega) rfl ⟨by kernel_rfl, by kernel_rfl⟩) ?_
     refine q_v 44 (.int .u64 (((((carryK (rndK xs R) 16).1.set (0) ((carryK (rndK xs R) 16).1.getD (0) 0 + 38 * (carryK (rndK xs R) 16).2)).set (0) (((carryK (rndK xs R) 16).1.set (0) ((carryK (rndK xs R) 16).1.getD (0) 0 + 38 * (carryK (rndK xs R) 16).2)).getD (0) 0 + 19 * (((carryK (rndK xs R) 16).1.set (0) ((carryK (rndK xs R) 16).1.getD (0) 0 + 38 * (carryK (rndK xs R) 16).2)).getD (15) 0 / 2 ^ 15))).getD (15) 0 % 32768 : Nat) : Int)) (o_eq (o_bits (m := (((((carryK (rndK xs R) 16).1).set (0) ((((carryK (rndK xs R) 16).1).getD (0) 0) + (38 * (carryK (rndK xs R) 16).2))).set (0) (((((carryK (rndK xs R) 16).1).set (0) ((((carryK (rndK xs R) 16).1).getD (0) 0) + (38 * (carryK (rndK xs R) 16).2))).getD (0) 0) + (19 * (((carryK (rndK xs R) 16).1.set (0) ((carryK (rndK xs R) 16).1.getD (0) 0 + 38 * (carryK (rndK xs R) 16).2)).getD (15) 0 / 2 ^ 15)))).getD (15) 0)) (n := 32767) ((((((carryK (rndK xs R) 16).1).set (0) ((((carryK (rndK xs R) 16).1).getD (0) 0) + (38 * (carryK (rndK xs R) 16).2))).set (0) (((((carryK (rndK xs R) 16).1).set (0) ((((carryK (rndK xs R) 16).1).getD (0) 0) + (38 * (carryK (rndK xs R) 16).2))).getD (0) 0) + (19 * (((carryK (rndK xs R) 16).1.set (0) ((carryK (rndK xs R) 16).1.getD (0) 0 + 38 * (carryK (rndK xs R) 16).2)).getD (15) 0 / 2 ^ 15)))).getD (15) 0) &&& 32767) rfl (pe hs_2 rfl rfl) rfl (by decide) (u64_and_nat _ _ (by omega) (by omega))) (by rw [and_m15])) ?_
     refine op_val (d := 45) (v := .pointer (some ⟨g_1, 15, none⟩)) rfl rfl (zero_off (o_ixA (k := 0) (i := 15) (n := 16) (e := 23) rfl ((pm rfl).trans ta_2_1) rfl (by omega) (fun _ => by kernel_rfl) (fun _ => by kernel_rfl))) ?_
     refine op_do rfl rfl (o_storeW rfl (pe hs_2 rfl rfl) (pe hs_2 rfl rfl) hB_5 (by simp only [List.length_set, List.length_set, hcl]; omega) ⟨by kernel_rfl, by kernel_rfl⟩) (fun w_8 hR_6 => ?_)
     obtain ⟨hB_6, hX_4⟩ := hR_6
     replace BR := hX_4.blk BR (Ne.symm ne_1)
     have HB_5 := hX_4.below HB_4 HB_4.size (fun k hk => hk ▸ ge_1)
     clear hB_5
     refine x_nil (hK_9 _ _ ?_)
     refine hK_8 _ _ ?_
     refine x_region (by kernel_rfl) ?_
     refine q_v 46 (.int .i64 ((R + 1 : Nat) : Int)) (o_add64 (m := R) (n := 1) rfl ((pm rfl).trans ta_2_11) rfl (by omega)) ?_
     refine q_mv (pe hs_2 rfl rfl) ?_
     refine x_nil ?_
     refine hK_5 _ _ _ ⟨R + 1, rfl, (by rw [putsR_size]; exact hs_2), (by rw [putsR_defers]; exact hd_2), ((pm rfl).trans ta_2_0), ((pm rfl).trans ta_2_1), ((pm rfl).trans ta_2_2), (pe hs_2 rfl rfl), (by omega), hB_6, BR, HB_5⟩ ?_
     omega
  ·simp only [DD9] at h_1
   obtain rfl : R = 3 := by omega
   refine w2_exit ?_
   refine thn_exit ?_
   refine thn_exit ?_
   refine exb_hit ?_
   refine hK_4 _ _ ?_
   refine hK_2 _ _ ?_
   refine w2_seq (fun K_24 hK_24 => ?_)
   obtain ⟨X3, hX3⟩ : ∃ q, q = rndK xs 3 := ⟨_, rfl⟩
   rw [← hX3] at BA
   obtain ⟨hrl3, hrM3⟩ : X3.length = 16 ∧ ∀ j, X3.getD j 0 ≤ 65535 * 17592186044416 := by rw [hX3]; exact rndK_ok hl hM 3
   refine x_region (by kernel_rfl) ?_
   refine q_as (.int .u64 ((0 : Nat) : Int)) rfl ?_
   refine x_nil (hK_24 _ _ ?_)
   refine w2_seq (fun K_25 hK_25 => ?_)
   refine w2_sr (fun K_26 hK_26 => ?_)
   refine q_v 47 (.int .i64 ((0 : Nat) : Int)) (o_move rfl rfl) ?_
   refine x_nil (hK_26 _ _ ?_)
   refine w2_block (fun K_27 hK_27 => ?_)
   refine x_loop (fun nn aa ww => ∃ (K : Nat), nn = 16 - K ∧ aa.tmps.size = 105 ∧ aa.defers = [] ∧ aa.eval (.tmp 0) = .agg (iws .u64 (xs)).toArray ∧ aa.eval (.tmp 1) = .pointer (some ⟨g_1, 0, none⟩) ∧ aa.eval (.tmp 2) = .pointer (some ⟨g_2, 0, none⟩) ∧ aa.eval (.tmp 5) = .int .u64 (((carryK X3 K).2 : Nat) : Int) ∧ aa.eval (.tmp 11) = .int .i64 ((3 : Nat) : Int) ∧ aa.eval (.tmp 12) = .bool (decide (3 < 3)) ∧ aa.eval (.tmp 47) = .int .i64 ((K : Nat) : Int) ∧ K ≤ 16 ∧ Blk ww g_1 (iws .u64 ((carryK X3 K).1)).toArray 32 ∧ Blk ww g_2 (iws .u64 (List.replicate 16 0)).toArray 32 ∧ Below w.heap.size w ww) (16) ?_ ?_
   ·exact ⟨0, rfl, (by rw [putsR_size]; exact hs_1), (by rw [putsR_defers]; exact hd_1), ((pm rfl).trans ta_1_0), ((pm rfl).trans ta_1_1), ((pm rfl).trans ta_1_2), (pe hs_1 rfl rfl), ((pm rfl).trans ta_1_11), (pe hs_1 rfl rfl), (pe hs_1 rfl rfl), by omega, BA, BR, HBL⟩
   ·skip
    clear ta_1_0 ta_1_1 ta_1_2 ta_1_11 hd_1 BA BR HBL
    rintro nna_3 a_3 w_9 ⟨K, hm_3, hs_3, hd_3, ta_3_0, ta_3_1, ta_3_2, ta_3_5, ta_3_11, ta_3_12, ta_3_47, hK, BA, BR, HBL⟩ K_28 hK_28
    subst hm_3
    have hcl : (carryK X3 K).1.length = 16 := (carryK_length _ K).trans hrl3
    have hcc := carryK_c hrM3 K
    have hca := carryK_above X3 K K (Nat.le_refl _)
    have hcm := hrM3 K
    refine w2_sr (fun K_29 hK_29 => ?_)
    refine q_v 48 (.bool (decide (K < 16))) (o_lss (m := K) (n := 16) rfl ((pm rfl).trans ta_3_47) rfl) ?_
    refine x_nil (hK_29 _ _ ?_)
    refine w2_seq (fun K_30 hK_30 => ?_)
    refine w2_split (pe hs_3 rfl rfl) (fun h_3 => ?_) (fun h_3 => ?_)
    ·simp only [DD9] at h_3
     refine w2_skip ?_
     refine hK_30 _ _ ?_
     refine w2_seq (fun K_31 hK_31 => ?_)
     refine w2_block (fun K_32 hK_32 => ?_)
     refine w2_sr (fun K_33 hK_33 => ?_)
     refine q_mv ((pm rfl).trans ta_3_47) ?_
     refine q_at (pe hs_3 rfl rfl) ?_
     refine x_nil (hK_33 _ _ ?_)
     refine w2_sr (fun K_34 hK_34 => ?_)
     refine q_mv ((pm rfl).trans ta_3_5) ?_
     refine q_mv (pe hs_3 rfl rfl) ?_
     refine op_val (d := 52) (v := .pointer (some ⟨g_1, K, none⟩)) rfl rfl (zero_off (o_ixA (k := 0) (i := K) (n := 16) (e := 23) rfl ((pm rfl).trans ta_3_1) (pe hs_3 rfl rfl) (by omega) (fun _ => by kernel_rfl) (fun _ => by kernel_rfl))) ?_
     refine q_v 53 (.int .u64 ((((carryK X3 K).1).getD (K) 0 : Nat) : Int)) (o_loadW rfl (pe hs_3 rfl rfl) BA (by rw [hcl]; omega) rfl ⟨by kernel_rfl, by kernel_rfl⟩) ?_
     refine q_v 54 (.int .u64 ((((carryK X3 K).2) + (((carryK X3 K).1).getD (K) 0) : Nat) : Int)) (o_addU (m := ((carryK X3 K).2)) (n := (((carryK X3 K).1).getD (K) 0)) (((carryK X3 K).2) + (((carryK X3 K).1).getD (K) 0)) rfl (pe hs_3 rfl rfl) (pe hs_3 rfl rfl) (by rw [IntKind.wrap_u64]; omega)) ?_
     refine q_at (pe hs_3 rfl rfl) ?_
     refine x_nil (hK_34 _ _ ?_)
     refine w2_sr (fun K_35 hK_35 => ?_)
     refine q_mv (pe hs_3 rfl rfl) ?_
     refine q_mv (pe hs_3 rfl rfl) ?_
     refine q_v 57 (.int .u64 ((((carryK X3 K).2 + (carryK X3 K).1.getD (K) 0) % 65536 : Nat) : Int)) (o_eq (o_bits (m := (((carryK X3 K).2) + (((carryK X3 K).1).getD (K) 0))) (n := 65535) ((((carryK X3 K).2) + (((carryK X3 K).1).getD (K) 0)) &&& 65535) rfl (pe hs_3 rfl rfl) rfl (by decide) (u64_and_nat _ _ (by omega) (by omega))) (by rw [and_m16])) ?_
     refine op_val (d := 58) (v := .pointer (some ⟨g_1, K, none⟩)) rfl rfl (zero_off (o_ixA (k := 0) (i := K) (n := 16) (e := 23) rfl ((pm rfl).trans ta_3_1) (pe hs_3 rfl rfl) (by omega) (fun _ => by kernel_rfl) (fun _ => by kernel_rfl))) ?_
     refine op_do rfl rfl (o_storeW rfl (pe hs_3 rfl rfl) (pe hs_3 rfl rfl) BA (by rw [hcl]; omega) ⟨by kernel_rfl, by kernel_rfl⟩) (fun w_10 hR_7 => ?_)
     obtain ⟨hB_7, hX_5⟩ := hR_7
     replace BR := hX_5.blk BR (Ne.symm ne_1)
     have HB_6 := hX_5.below HBL HBL.size (fun k hk => hk ▸ ge_1)
     clear BA
     refine x_nil (hK_35 _ _ ?_)
     refine x_region (by kernel_rfl) ?_
     refine q_mv (pe hs_3 rfl rfl) ?_
     refine q_v 60 (.int .u64 (((((carryK X3 K).2) + (((carryK X3 K).1).getD (K) 0)) / 2 ^ 16 : Nat) : Int)) (o_shr (m := (((carryK X3 K).2) + (((carryK X3 K).1).getD (K) 0))) (n := 16) rfl (pe hs_3 rfl rfl) rfl (by decide)) ?_
     refine q_at (pe hs_3 rfl rfl) ?_
     refine x_nil (hK_32 _ _ ?_)
     refine hK_31 _ _ ?_
     refine x_region (by kernel_rfl) ?_
     refine q_v 61 (.int .i64 ((K + 1 : Nat) : Int)) (o_add64 (m := K) (n := 1) rfl ((pm rfl).trans ta_3_47) rfl (by omega)) ?_
     refine q_mv (pe hs_3 rfl rfl) ?_
     refine x_nil ?_
     refine hK_28 _ _ _ ⟨K + 1, rfl, (by rw [putsR_size]; exact hs_3), (by rw [putsR_defers]; exact hd_3), ((pm rfl).trans ta_3_0), ((pm rfl).trans ta_3_1), ((pm rfl).trans ta_3_2), (pe hs_3 rfl rfl), ((pm rfl).trans ta_3_11), ((pm rfl).trans ta_3_12), (pe hs_3 rfl rfl), (by omega), hB_7, BR, HB_6⟩ ?_
     omega
    ·simp only [DD9] at h_3
     obtain rfl : K = 16 := by omega
     refine w2_exit ?_
     refine thn_exit ?_
     refine thn_exit ?_
     refine exb_hit ?_
     refine hK_27 _ _ ?_
     refine hK_25 _ _ ?_
     refine w2_seq (fun K_36 hK_36 => ?_)
     obtain ⟨V, hV, hVP, hVm⟩ := preD_dig hl hM (Nat.le_refl _)
     rw [show (carryK X3 16).1 = digN V from by rw [hX3, rnd3]; exact hV] at BA
     refine x_region (by kernel_rfl) ?_
     refine q_ca (vs := #[]) Try.func35 (args0) (prime_any _) (fun e_1 w_11 hR_8 => ?_)
     obtain ⟨rfl, hb_4⟩ := hR_8
     replace BA := BA.nx hb_4
     replace BR := BR.nx hb_4
     have HB_7 := below_from HBL hb_4
     refine ⟨_, rfl, ?_⟩
     refine op_ex (d := 7) rfl rfl (o_alloc (zs := (iws .u64 (List.replicate 16 0)).toArray) rfl (fun _ => by kernel_rfl)) (fun v_3 w_12 hR_9 => ?_)
     obtain ⟨g_3, rfl, hle_3, hB_8, hb_5⟩ := hR_9
     have ne_2 : g_1 ≠ g_3 := Nat.ne_of_lt (Nat.lt_of_lt_of_le BA.lt hle_3)
     have ne_3 : g_2 ≠ g_3 := Nat.ne_of_lt (Nat.lt_of_lt_of_le BR.lt hle_3)
     have ge_3 : w.heap.size ≤ g_3 := Nat.le_trans HB_7.size hle_3
     replace BA := BA.nx hb_5
     replace BR := BR.nx hb_5
     have HB_8 := below_from HB_7 hb_5
     refine op_do rfl rfl (o_storeI rfl (pe hs_3 rfl rfl) (pe hs_3 rfl rfl) hB_8 (by rw [(digN_length _)]; exact ⟨by kernel_rfl, by kernel_rfl⟩) (by rw [digN_length]; simp [iws])) (fun w_13 hR_10 => ?_)
     obtain ⟨hB_9, hX_6⟩ := hR_10
     replace BA := hX_6.blk BA ne_2
     replace BR := hX_6.blk BR ne_3
     have HB_9 := hX_6.below HB_8 HB_8.size (fun k hk => hk ▸ ge_3)
     clear hB_8
     refine x_nil ?_
     have hV16 : V < 65536 ^ 16 := by rw [pow16, P_eq]; rw [P_eq] at hVP; omega
     refine hK_36 _ _ ?_
     refine x_cut (fun aa ww => aa.tmps.size = 105 ∧ aa.defers = [] ∧ aa.eval (.tmp 1) = .pointer (some ⟨g_1, 0, none⟩) ∧ aa.eval (.tmp 2) = .pointer (some ⟨g_2, 0, none⟩) ∧ aa.eval (.tmp 7) = .pointer (some ⟨g_3, 0, none⟩) ∧ P ≤ V ∧ Blk ww g_1 (iws .u64 (digN V)).toArray 32 ∧ Blk ww g_2 (iws .u64 (List.replicate 16 0)).toArray 32 ∧ Blk ww g_3 (iws .u64 (digN P)).toArray 32 ∧ Below w.heap.size w ww) (fun K_37 hK_37 => ?_) ?_
     ·skip
      refine w2_sr (fun K_38 hK_38 => ?_)
      refine q_as (.int .i64 ((15 : Nat) : Int)) rfl ?_
      refine x_nil (hK_38 _ _ ?_)
      refine w2_block (fun K_39 hK_39 => ?_)
      refine x_loop (fun nn aa ww => ∃ (K : Nat), nn = 16 - K ∧ aa.tmps.size = 105 ∧ aa.defers = [] ∧ aa.eval (.tmp 0) = .agg (iws .u64 (xs)).toArray ∧ aa.eval (.tmp 1) = .pointer (some ⟨g_1, 0, none⟩) ∧ aa.eval (.tmp 2) = .pointer (some ⟨g_2, 0, none⟩) ∧ aa.eval (.tmp 5) = .int .u64 (((carryK X3 16).2 : Nat) : Int) ∧ aa.eval (.tmp 7) = .pointer (some ⟨g_3, 0, none⟩) ∧ aa.eval (.tmp 8) = .int .i64 (15 - (K : Int)) ∧ aa.eval (.tmp 11) = .int .i64 ((3 : Nat) : Int) ∧ aa.eval (.tmp 12) = .bool (decide (3 < 3)) ∧ aa.eval (.tmp 47) = .int .i64 ((16 : Nat) : Int) ∧ aa.eval (.tmp 48) = .bool (decide (16 < 16)) ∧ aa.eval (.tmp 62) = .agg (iws .u64 (digN P)).toArray ∧ K ≤ 16 ∧ V / 65536 ^ (16 - K) = P / 65536 ^ (16 - K) ∧ Blk ww g_1 (iws .u64 (digN V)).toArray 32 ∧ Blk ww g_2 (iws .u64 (List.replicate 16 0)).toArray 32 ∧ Blk ww g_3 (iws .u64 (digN P)).toArray 32 ∧ Below w.heap.size w ww) (16) ?_ ?_
      ·exact ⟨0, rfl, (by rw [putsR_size]; exact hs_3), (by rw [putsR_defers]; exact hd_3), ((pm rfl).trans ta_3_0), ((pm rfl).trans ta_3_1), ((pm rfl).trans ta_3_2), ((pm rfl).trans ta_3_5), (pe hs_3 rfl rfl), (pe hs_3 rfl rfl), ((pm rfl).trans ta_3_11), ((pm rfl).trans ta_3_12), ((pm rfl).trans ta_3_47), (pe hs_3 rfl rfl), (pe hs_3 rfl rfl), by omega, (Nat.div_eq_of_lt hV16).trans (Nat.div_eq_of_lt P_lt16).symm, BA, BR, hB_9, HB_9⟩
      ·skip
       clear ta_3_0 ta_3_1 ta_3_2 ta_3_11 ta_3_12 ta_3_5 ta_3_47 hd_3 BA BR hB_9 HB_9
       rintro nna_4 a_4 w_14 ⟨K, hm_4, hs_4, hd_4, ta_4_0, ta_4_1, ta_4_2, ta_4_5, ta_4_7, ta_4_8, ta_4_11, ta_4_12, ta_4_47, ta_4_48, ta_4_62, hK, hE, BA, BR, BP, HBL⟩ K_40 hK_40
       subst hm_4
       refine w2_seq (fun K_41 hK_41 => ?_)
       refine w2_sr (fun K_42 hK_42 => ?_)
       refine q_mv ((pm rfl).trans ta_4_8) ?_
       refine q_v 64 (.bool (decide (((0 : Nat) : Int) ≤ 15 - (K : Int)))) (o_geqZZ (m := 15 - (K : Int)) (n := ((0 : Nat) : Int)) rfl (pe hs_4 rfl rfl) rfl) ?_
       refine x_nil (hK_42 _ _ ?_)
       refine w2_split (pe hs_4 rfl rfl) (fun h_4 => ?_) (fun h_4 => ?_)
       ·simp only [DD9] at h_4
        have hK15 : K ≤ 15 := by have h9 := h_4; omega
        have hE1 : V / 65536 ^ (15 - K + 1) = P / 65536 ^ (15 - K + 1) := by rw [show 15 - K + 1 = 16 - K by omega]; exact hE
        refine w2_skip ?_
        refine hK_41 _ _ ?_
        refine w2_seq (fun K_43 hK_43 => ?_)
        refine w2_block (fun K_44 hK_44 => ?_)
        refine w2_seq (fun K_45 hK_45 => ?_)
        refine x_drawn 6 [fun _ v => v = .int .i64 ((15 - K : Nat) : Int), fun _ v => v = .pointer (some ⟨g_1, 15 - K, none⟩), fun _ v => v = .int .u64 (((digN V).getD (15 - K) 0 : Nat) : Int), fun _ v => v = .int .i64 ((15 - K : Nat) : Int), fun _ v => v = .pointer (some ⟨g_3, 15 - K, none⟩), fun _ v => v = .int .u64 (((digN P).getD (15 - K) 0 : Nat) : Int)] [67, 68, 69, 70, 71, 72] hs_4 hd_4 (by kernel_rfl) (by kernel_rfl) (by kernel_rfl) (by kernel_rfl) (by kernel_rfl) ⟨stLit, stLit, stLit, stLit, stLit, stLit, trivial⟩ ⟨(step_ok rfl (fun a' w' hb' hO hD => by
          have d_1 := (hO 8 (by decide)).trans ((pm rfl).trans ta_4_8)
          have e0 : (.int .i64 (15 - (K : Int)) : Value) = .int .i64 ((15 - K : Nat) : Int) := (congrArg (Value.int .i64) (by omega))
          exact .inl ⟨_, _, (o_move rfl d_1), e0, Below.refl _ _⟩)),
(step_ok rfl (fun a' w' hb' hO hD => by
          have d_2 := (hO 1 (by decide)).trans ((pm rfl).trans ta_4_1)
          have d_3 : a'.eval (.tmp 67) = .int .i64 ((15 - K : Nat) : Int) := hD 0 67 (by kernel_rfl) rfl
          exact .inl ⟨_, _, (zero_off (o_ixA (k := 0) (i := 15 - K) (n := 16) (e := 23) rfl d_2 d_3 (by omega) (fun _ => by kernel_rfl) (fun _ => by kernel_rfl))), rfl, Below.refl _ _⟩)),
(step_ok rfl (fun a' w' hb' hO hD => by
          have d_4 : a'.eval (.tmp 68) = .pointer (some ⟨g_1, 15 - K, none⟩) := hD 1 68 (by kernel_rfl) rfl
          exact .inl ⟨_, _, (o_loadW rfl d_4 (BA.nx hb') (by rw [(digN_length _)]; omega) rfl ⟨by kernel_rfl, by kernel_rfl⟩), rfl, Below.refl _ _⟩)),
(step_ok rfl (fun a' w' hb' hO hD => by
          have d_5 := (hO 8 (by decide)).trans ((pm rfl).trans ta_4_8)
          have e0 : (.int .i64 (15 - (K : Int)) : Value) = .int .i64 ((15 - K : Nat) : Int) := (congrArg (Value.int .i64) (by omega))
          exact .inl ⟨_, _, (o_move rfl d_5), e0, Below.refl _ _⟩)),
(step_ok rfl (fun a' w' hb' hO hD => by
          have d_6 := (hO 7 (by decide)).trans ((pm rfl).trans ta_4_7)
          have d_7 : a'.eval (.tmp 70) = .int .i64 ((15 - K : Nat) : Int) := hD 3 70 (by kernel_rfl) rfl
          exact .inl ⟨_, _, (zero_off (o_ixA (k := 0) (i := 15 - K) (n := 16) (e := 23) rfl d_6 d_7 (by omega) (fun _ => by kernel_rfl) (fun _ => by kernel_rfl))), rfl, Below.refl _ _⟩)),
(step_ok rfl (fun a' w' hb' hO hD => by
          have d_8 : a'.eval (.tmp 71) = .pointer (some ⟨g_3, 15 - K, none⟩) := hD 4 71 (by kernel_rfl) rfl
          exact .inl ⟨_, _, (o_loadW rfl d_8 (BP.nx hb') (by rw [(digN_length _)]; omega) rfl ⟨by kernel_rfl, by kernel_rfl⟩), rfl, Below.refl _ _⟩)), trivial⟩ (fun a_5 w_15 hs_5 hd_5 hb_6 hO_1 hV_1 => ?_)
        have ta_5_0 := (hO_1 0 (by decide)).trans ((pm rfl).trans ta_4_0)
        have ta_5_1 := (hO_1 1 (by decide)).trans ((pm rfl).trans ta_4_1)
        have ta_5_2 := (hO_1 2 (by decide)).trans ((pm rfl).trans ta_4_2)
        have ta_5_11 := (hO_1 11 (by decide)).trans ((pm rfl).trans ta_4_11)
        have ta_5_12 := (hO_1 12 (by decide)).trans ((pm rfl).trans ta_4_12)
        have ta_5_5 := (hO_1 5 (by decide)).trans ((pm rfl).trans ta_4_5)
        have ta_5_47 := (hO_1 47 (by decide)).trans ((pm rfl).trans ta_4_47)
        have ta_5_48 := (hO_1 48 (by decide)).trans ((pm rfl).trans ta_4_48)
        have ta_5_62 := (hO_1 62 (by decide)).trans ((pm rfl).trans ta_4_62)
        have ta_5_7 := (hO_1 7 (by decide)).trans ((pm rfl).trans ta_4_7)
        have ta_5_8 := (hO_1 8 (by decide)).trans ((pm rfl).trans ta_4_8)
        have ta_5_63 : a_5.eval (.tmp 63) = .int .i64 (15 - (K : Int)) := (hO_1 63 (by decide)).trans (pe hs_4 rfl rfl)
        have ta_5_64 : a_5.eval (.tmp 64) = .bool (decide (((0 : Nat) : Int) ≤ 15 - (K : Int))) := (hO_1 64 (by decide)).trans (pe hs_4 rfl rfl)
        clear ta_4_0 ta_4_1 ta_4_2 ta_4_11 ta_4_12 ta_4_5 ta_4_47 ta_4_48 ta_4_62 ta_4_7 ta_4_8 hd_4
        replace BA := BA.nx hb_6
        replace BR := BR.nx hb_6
        replace BP := BP.nx hb_6
        have HB_10 := below_from HBL hb_6
        have ta_5_67 : a_5.eval (.tmp 67) = .int .i64 ((15 - K : Nat) : Int) := hV_1 0 67 rfl rfl
        have ta_5_68 : a_5.eval (.tmp 68) = .pointer (some ⟨g_1, 15 - K, none⟩) := hV_1 1 68 rfl rfl
        have ta_5_69 : a_5.eval (.tmp 69) = .int .u64 (((digN V).getD (15 - K) 0 : Nat) : Int) := hV_1 2 69 rfl rfl
        have ta_5_70 : a_5.eval (.tmp 70) = .int .i64 ((15 - K : Nat) : Int) := hV_1 3 70 rfl rfl
        have ta_5_71 : a_5.eval (.tmp 71) = .pointer (some ⟨g_3, 15 - K, none⟩) := hV_1 4 71 rfl rfl
        have ta_5_72 : a_5.eval (.tmp 72) = .int .u64 (((digN P).getD (15 - K) 0 : Nat) : Int) := hV_1 5 72 rfl rfl
        clear hV_1 hO_1
        simp only [List.drop_succ_cons, List.drop_zero]
        refine q_v 73 (.bool (!decide (((digN V).getD (15 - K) 0) = ((digN P).getD (15 - K) 0)))) (o_neq (m := ((digN V).getD (15 - K) 0)) (n := ((digN P).getD (15 - K) 0)) rfl ((pm rfl).trans ta_5_69) ((pm rfl).trans ta_5_72)) ?_
        refine x_nil (hK_45 _ _ ?_)
        refine w2_split (pe hs_5 rfl rfl) (fun h_5 => ?_) (fun h_5 => ?_)
        ·simp only [DD9] at h_5
         have hne9 := h_5
         refine w2_seq (fun K_46 hK_46 => ?_)
         refine w2_seq (fun K_47 hK_47 => ?_)
         refine x_drawn 6 [fun _ v => v = .int .i64 ((15 - K : Nat) : Int), fun _ v => v = .pointer (some ⟨g_1, 15 - K, none⟩), fun _ v => v = .int .u64 (((digN V).getD (15 - K) 0 : Nat) : Int), fun _ v => v = .int .i64 ((15 - K : Nat) : Int), fun _ v => v = .pointer (some ⟨g_3, 15 - K, none⟩), fun _ v => v = .int .u64 (((digN P).getD (15 - K) 0 : Nat) : Int)] [74, 75, 76, 77, 78, 79] hs_5 hd_5 (by kernel_rfl) (by kernel_rfl) (by kernel_rfl) (by kernel_rfl) (by kernel_rfl) ⟨stLit, stLit, stLit, stLit, stLit, stLit, trivial⟩ ⟨(step_ok rfl (fun a' w' hb' hO hD => by
           have d_9 := (hO 8 (by decide)).trans ((pm rfl).trans ta_5_8)
           have e0 : (.int .i64 (15 - (K : Int)) : Value) = .int .i64 ((15 - K : Nat) : Int) := (congrArg (Value.int .i64) (by omega))
           exact .inl ⟨_, _, (o_move rfl d_9), e0, Below.refl _ _⟩)),
(step_ok rfl (fun a' w' hb' hO hD => by
           have d_10 := (hO 1 (by decide)).trans ((pm rfl).trans ta_5_1)
           have d_11 : a'.eval (.tmp 74) = .int .i64 ((15 - K : Nat) : Int) := hD 0 74 (by kernel_rfl) rfl
           exact .inl ⟨_, _, (zero_off (o_ixA (k := 0) (i := 15 - K) (n := 16) (e := 23) rfl d_10 d_11 (by omega) (fun _ => by kernel_rfl) (fun _ => by kernel_rfl))), rfl, Below.refl _ _⟩)),
(step_ok rfl (fun a' w' hb' hO hD => by
           have d_12 : a'.eval (.tmp 75) = .pointer (some ⟨g_1, 15 - K, none⟩) := hD 1 75 (by kernel_rfl) rfl
           exact .inl ⟨_, _, (o_loadW rfl d_12 (BA.nx hb') (by rw [(digN_length _)]; omega) rfl ⟨by kernel_rfl, by kernel_rfl⟩), rfl, Below.refl _ _⟩)),
(step_ok rfl (fun a' w' hb' hO hD => by
           have d_13 := (hO 8 (by decide)).trans ((pm rfl).trans ta_5_8)
           have e0 : (.int .i64 (15 - (K : Int)) : Value) = .int .i64 ((15 - K : Nat) : Int) := (congrArg (Value.int .i64) (by omega))
           exact .inl ⟨_, _, (o_move rfl d_13), e0, Below.refl _ _⟩)),
(step_ok rfl (fun a' w' hb' hO hD => by
           have d_14 := (hO 7 (by decide)).trans ((pm rfl).trans ta_5_7)
           have d_15 : a'.eval (.tmp 77) = .int .i64 ((15 - K : Nat) : Int) := hD 3 77 (by kernel_rfl) rfl
           exact .inl ⟨_, _, (zero_off (o_ixA (k := 0) (i := 15 - K) (n := 16) (e := 23) rfl d_14 d_15 (by omega) (fun _ => by kernel_rfl) (fun _ => by kernel_rfl))), rfl, Below.refl _ _⟩)),
(step_ok rfl (fun a' w' hb' hO hD => by
           have d_16 : a'.eval (.tmp 78) = .pointer (some ⟨g_3, 15 - K, none⟩) := hD 4 78 (by kernel_rfl) rfl
           exact .inl ⟨_, _, (o_loadW rfl d_16 (BP.nx hb') (by rw [(digN_length _)]; omega) rfl ⟨by kernel_rfl, by kernel_rfl⟩), rfl, Below.refl _ _⟩)), trivial⟩ (fun a_6 w_16 hs_6 hd_6 hb_7 hO_2 hV_2 => ?_)
         have ta_6_1 := (hO_2 1 (by decide)).trans ((pm rfl).trans ta_5_1)
         have ta_6_2 := (hO_2 2 (by decide)).trans ((pm rfl).trans ta_5_2)
         have ta_6_7 := (hO_2 7 (by decide)).trans ((pm rfl).trans ta_5_7)
         clear ta_5_0 ta_5_1 ta_5_2 ta_5_11 ta_5_12 ta_5_5 ta_5_47 ta_5_48 ta_5_62 ta_5_7 ta_5_8 ta_5_63 ta_5_64 ta_5_67 ta_5_68 ta_5_69 ta_5_70 ta_5_71 ta_5_72 hd_5
         replace BA := BA.nx hb_7
         replace BR := BR.nx hb_7
         replace BP := BP.nx hb_7
         have HB_11 := below_from HB_10 hb_7
         have ta_6_76 : a_6.eval (.tmp 76) = .int .u64 (((digN V).getD (15 - K) 0 : Nat) : Int) := hV_2 2 76 rfl rfl
         have ta_6_79 : a_6.eval (.tmp 79) = .int .u64 (((digN P).getD (15 - K) 0 : Nat) : Int) := hV_2 5 79 rfl rfl
         clear hV_2 hO_2
         simp only [List.drop_succ_cons, List.drop_zero]
         refine q_v 80 (.bool (decide (((digN V).getD (15 - K) 0) < ((digN P).getD (15 - K) 0)))) (o_lss (m := ((digN V).getD (15 - K) 0)) (n := ((digN P).getD (15 - K) 0)) rfl ((pm rfl).trans ta_6_76) ((pm rfl).trans ta_6_79)) ?_
         refine x_nil (hK_47 _ _ ?_)
         refine w2_split (pe hs_6 rfl rfl) (fun h_6 => ?_) (fun h_6 => ?_)
         ·simp only [DD9] at h_6
          have hVlt : V < P := dig_lt (by omega) hE1 h_6
          refine w2_sr (fun K_48 hK_48 => ?_)
          refine q_v 81 (.agg (iws .u64 (digN V)).toArray) (o_loadI rfl ((pm rfl).trans ta_6_1) BA (by rw [digN_length]; exact ⟨by kernel_rfl, by kernel_rfl⟩)) ?_
          refine op_do rfl rfl (o_storeI rfl ((pm rfl).trans ta_6_2) (pe hs_6 rfl rfl) BR (by rw [(digN_length _)]; exact ⟨by kernel_rfl, by kernel_rfl⟩) (by rw [digN_length]; simp [iws])) (fun w_17 hR_11 => ?_)
          obtain ⟨hB_10, hX_7⟩ := hR_11
          replace BA := hX_7.blk BA ne_1
          replace BP := hX_7.blk BP (Ne.symm ne_3)
          have HB_12 := hX_7.below HB_11 HB_11.size (fun k hk => hk ▸ ge_2)
          clear BR
          refine x_nil (hK_48 _ _ ?_)
          refine w2_ret ?_
          refine thn_ret ?_
          refine exb_ret ?_
          refine thn_ret ?_
          refine thn_ret ?_
          refine exb_ret ?_
          refine thn_ret ?_
          refine retC rfl hd_6 ((pm rfl).trans ta_6_2) (loadI hB_10 (by rw [(digN_length _)]; exact ⟨by kernel_rfl, by kernel_rfl⟩)) ?_
          exact ⟨by rw [← hVm, Nat.mod_eq_of_lt hVlt], HB_12⟩
         ·simp only [DD9] at h_6
          have hge9 : P ≤ V := Nat.le_of_lt (dig_lt (by omega) hE1.symm (by have h9 := h_6; omega))
          refine w2_skip ?_
          refine hK_46 _ _ ?_
          refine w2_exit ?_
          refine exb_out rfl ?_
          refine thn_exit ?_
          refine thn_exit ?_
          refine exb_hit ?_
          refine hK_39 _ _ ?_
          exact hK_37 _ _ ⟨(by rw [putsR_size]; exact hs_6), (by rw [putsR_defers]; exact hd_6), ((pm rfl).trans ta_6_1), ((pm rfl).trans ta_6_2), ((pm rfl).trans ta_6_7), hge9, BA, BR, BP, HB_11⟩
        ·simp only [DD9] at h_5
         have hE2 := dig_eq (by omega) hE1 (by have h9 := h_5; omega)
         refine w2_skip ?_
         refine hK_44 _ _ ?_
         refine hK_43 _ _ ?_
         refine x_region (by kernel_rfl) ?_
         refine q_mv ((pm rfl).trans ta_5_8) ?_
         refine q_v 66 (.int .i64 (15 - ((K + 1 : Nat) : Int))) (o_eq (o_subZZ (m := 15 - (K : Int)) (n := ((1 : Nat) : Int)) rfl (pe hs_5 rfl rfl) rfl (by omega)) (congrArg (Value.int .i64) (by omega))) ?_
         refine q_at (pe hs_5 rfl rfl) ?_
         refine x_nil ?_
         refine hK_40 _ _ _ ⟨K + 1, rfl, (by rw [putsR_size]; exact hs_5), (by rw [putsR_defers]; exact hd_5), ((pm rfl).trans ta_5_0), ((pm rfl).trans ta_5_1), ((pm rfl).trans ta_5_2), ((pm rfl).trans ta_5_5), ((pm rfl).trans ta_5_7), (pe hs_5 rfl rfl), ((pm rfl).trans ta_5_11), ((pm rfl).trans ta_5_12), ((pm rfl).trans ta_5_47), ((pm rfl).trans ta_5_48), ((pm rfl).trans ta_5_62), (by omega), (by rw [show 16 - (K + 1) = 15 - K by omega]; exact hE2), BA, BR, BP, HB_10⟩ ?_
         omega
       ·simp only [DD9] at h_4
        obtain rfl : K = 16 := by have h9 := h_4; omega
        have hge9 : P ≤ V := by have h9 : V / 65536 ^ 0 = P / 65536 ^ 0 := hE; rw [Nat.pow_zero, Nat.div_one, Nat.div_one] at h9; omega
        refine w2_exit ?_
        refine thn_exit ?_
        refine thn_exit ?_
        refine exb_hit ?_
        refine hK_39 _ _ ?_
        exact hK_37 _ _ ⟨(by rw [putsR_size]; exact hs_4), (by rw [putsR_defers]; exact hd_4), ((pm rfl).trans ta_4_1), ((pm rfl).trans ta_4_2), ((pm rfl).trans ta_4_7), hge9, BA, BR, BP, HBL⟩
     ·skip
      clear ta_3_0 ta_3_1 ta_3_2 ta_3_11 ta_3_12 ta_3_5 ta_3_47 hd_3 BA BR hB_9 HB_9
      rintro a_7 w_18 ⟨hs_7, hd_7, ta_7_1, ta_7_2, ta_7_7, hge, BA, BR, BP, HBL⟩
      refine w2_sr (fun K_49 hK_49 => ?_)
      refine q_as (.int .i64 ((0 : Nat) : Int)) rfl ?_
      refine x_nil (hK_49 _ _ ?_)
      refine w2_seq (fun K_50 hK_50 => ?_)
      refine w2_sr (fun K_51 hK_51 => ?_)
      refine q_v 82 (.int .i64 ((0 : Nat) : Int)) (o_move rfl rfl) ?_
      refine x_nil (hK_51 _ _ ?_)
      refine w2_block (fun K_52 hK_52 => ?_)
      refine x_loop (fun nn aa ww => ∃ (K : Nat), nn = 16 - K ∧ aa.tmps.size = 105 ∧ aa.defers = [] ∧ aa.eval (.tmp 1) = .pointer (some ⟨g_1, 0, none⟩) ∧ aa.eval (.tmp 2) = .pointer (some ⟨g_2, 0, none⟩) ∧ aa.eval (.tmp 7) = .pointer (some ⟨g_3, 0, none⟩) ∧ aa.eval (.tmp 9) = .int .i64 ((zK (subE V P) (digN V) K).2) ∧ aa.eval (.tmp 82) = .int .i64 ((K : Nat) : Int) ∧ K ≤ 16 ∧ Blk ww g_1 (iws .u64 ((zK (subE V P) (digN V) K).1)).toArray 32 ∧ Blk ww g_2 (iws .u64 (List.replicate 16 0)).toArray 32 ∧ Blk ww g_3 (iws .u64 (digN P)).toArray 32 ∧ Below w.heap.size w ww) (16) ?_ ?_
      ·exact ⟨0, rfl, (by rw [putsR_size]; exact hs_7), (by rw [putsR_defers]; exact hd_7), ((pm rfl).trans ta_7_1), ((pm rfl).trans ta_7_2), ((pm rfl).trans ta_7_7), (pe hs_7 rfl rfl), (pe hs_7 rfl rfl), by omega, BA, BR, BP, HBL⟩
      ·skip
       clear ta_7_1 ta_7_2 ta_7_7 hd_7 BA BR BP HBL
       rintro nna_8 a_8 w_19 ⟨K, hm_5, hs_8, hd_8, ta_8_1, ta_8_2, ta_8_7, ta_8_9, ta_8_82, hK, BA, BR, BP, HBL⟩ K_53 hK_53
       subst hm_5
       have hzl : (zK (subE V P) (digN V) K).1.length = 16 := (zK_length _ _ K).trans (digN_length _)
       have hza := zK_above (subE V P) (digN V) K K (Nat.le_refl _)
       have hzc := zK_c (digN V) (subE_le V P) K
       have hvl := digN_le V K
       have hpl := digN_le P K
       have hsl := subE_le V P K
       refine w2_sr (fun K_54 hK_54 => ?_)
       refine q_v 83 (.bool (decide (K < 16))) (o_lss (m := K) (n := 16) rfl ((pm rfl).trans ta_8_82) rfl) ?_
       refine x_nil (hK_54 _ _ ?_)
       refine w2_seq (fun K_55 hK_55 => ?_)
       refine w2_split (pe hs_8 rfl rfl) (fun h_7 => ?_) (fun h_7 => ?_)
       ·simp only [DD9] at h_7
        refine w2_skip ?_
        refine hK_55 _ _ ?_
        refine w2_seq (fun K_56 hK_56 => ?_)
        refine w2_block (fun K_57 hK_57 => ?_)
        refine w2_sr (fun K_58 hK_58 => ?_)
        refine q_mv ((pm rfl).trans ta_8_82) ?_
        refine q_at (pe hs_8 rfl rfl) ?_
        refine x_nil (hK_58 _ _ ?_)
        refine w2_seq (fun K_59 hK_59 => ?_)
        refine x_drawn 10 [fun _ v => v = .int .i64 ((zK (subE V P) (digN V) K).2), fun _ v => v = .int .i64 ((K : Nat) : Int), fun _ v => v = .pointer (some ⟨g_1, K, none⟩), fun _ v => v = .int .u64 ((((zK (subE V P) (digN V) K).1).getD (K) 0 : Nat) : Int), fun _ v => v = .int .i64 ((((zK (subE V P) (digN V) K).1).getD (K) 0 : Nat) : Int), fun _ v => v = .int .i64 ((K : Nat) : Int), fun _ v => v = .pointer (some ⟨g_3, K, none⟩), fun _ v => v = .int .u64 (((digN P).getD (K) 0 : Nat) : Int), fun _ v => v = .int .i64 (((digN P).getD (K) 0 : Nat) : Int), fun _ v => v = .int .i64 ((((((zK (subE V P) (digN V) K).1).getD (K) 0) : Nat) : Int) - ((((digN P).getD (K) 0) : Nat) : Int))] [85, 86, 87, 88, 89, 90, 91, 92, 93, 94] hs_8 hd_8 (by kernel_rfl) (by kernel_rfl) (by kernel_rfl) (by kernel_rfl) (by kernel_rfl) ⟨stLit, stLit, stLit, stLit, stLit, stLit, stLit, stLit, stLit, stLit, trivial⟩ ⟨(step_ok rfl (fun a' w' hb' hO hD => by
          have d_17 := (hO 9 (by decide)).trans ((pm rfl).trans ta_8_9)
          exact .inl ⟨_, _, (o_move rfl d_17), rfl, Below.refl _ _⟩)),
(step_ok rfl (fun a' w' hb' hO hD => by
          have d_18 : a'.eval (.tmp 10) = .int .i64 ((K : Nat) : Int) := (hO 10 (by decide)).trans (pe hs_8 rfl rfl)
          exact .inl ⟨_, _, (o_move rfl d_18), rfl, Below.refl _ _⟩)),
(step_ok rfl (fun a' w' hb' hO hD => by
          have d_19 := (hO 1 (by decide)).trans ((pm rfl).trans ta_8_1)
          have d_20 : a'.eval (.tmp 86) = .int .i64 ((K : Nat) : Int) := hD 1 86 (by kernel_rfl) rfl
          exact .inl ⟨_, _, (zero_off (o_ixA (k := 0) (i := K) (n := 16) (e := 23) rfl d_19 d_20 (by omega) (fun _ => by kernel_rfl) (fun _ => by kernel_rfl))), rfl, Below.refl _ _⟩)),
(step_ok rfl (fun a' w' hb' hO hD => by
          have d_21 : a'.eval (.tmp 87) = .pointer (some ⟨g_1, K, none⟩) := hD 2 87 (by kernel_rfl) rfl
          exact .inl ⟨_, _, (o_loadW rfl d_21 (BA.nx hb') (by rw [hzl]; omega) rfl ⟨by kernel_rfl, by kernel_rfl⟩), rfl, Below.refl _ _⟩)),
(step_ok rfl (fun a' w' hb' hO hD => by
          have d_22 : a'.eval (.tmp 88) = .int .u64 ((((zK (subE V P) (digN V) K).1).getD (K) 0 : Nat) : Int) := hD 3 88 (by kernel_rfl) rfl
          exact .inl ⟨_, _, (o_conv (m := (((zK (subE V P) (digN V) K).1).getD (K) 0)) (r := ((zK (subE V P) (digN V) K).1).getD (K) 0) rfl d_22 ⟨.int .u64, fun _ => by kernel_rfl⟩ (fun _ => by kernel_rfl) (IntWalk.i64_in _ (by omega))), rfl, Below.refl _ _⟩)),
(step_ok rfl (fun a' w' hb' hO hD => by
          have d_23 : a'.eval (.tmp 10) = .int .i64 ((K : Nat) : Int) := (hO 10 (by decide)).trans (pe hs_8 rfl rfl)
          exact .inl ⟨_, _, (o_move rfl d_23), rfl, Below.refl _ _⟩)),
(step_ok rfl (fun a' w' hb' hO hD => by
          have d_24 := (hO 7 (by decide)).trans ((pm rfl).trans ta_8_7)
          have d_25 : a'.eval (.tmp 90) = .int .i64 ((K : Nat) : Int) := hD 5 90 (by kernel_rfl) rfl
          exact .inl ⟨_, _, (zero_off (o_ixA (k := 0) (i := K) (n := 16) (e := 23) rfl d_24 d_25 (by omega) (fun _ => by kernel_rfl) (fun _ => by kernel_rfl))), rfl, Below.refl _ _⟩)),
(step_ok rfl (fun a' w' hb' hO hD => by
          have d_26 : a'.eval (.tmp 91) = .pointer (some ⟨g_3, K, none⟩) := hD 6 91 (by kernel_rfl) rfl
          exact .inl ⟨_, _, (o_loadW rfl d_26 (BP.nx hb') (by rw [(digN_length _)]; omega) rfl ⟨by kernel_rfl, by kernel_rfl⟩), rfl, Below.refl _ _⟩)),
(step_ok rfl (fun a' w' hb' hO hD => by
          have d_27 : a'.eval (.tmp 92) = .int .u64 (((digN P).getD (K) 0 : Nat) : Int) := hD 7 92 (by kernel_rfl) rfl
          exact .inl ⟨_, _, (o_conv (m := ((digN P).getD (K) 0)) (r := (digN P).getD (K) 0) rfl d_27 ⟨.int .u64, fun _ => by kernel_rfl⟩ (fun _ => by kernel_rfl) (IntWalk.i64_in _ (by omega))), rfl, Below.refl _ _⟩)),
(step_ok rfl (fun a' w' hb' hO hD => by
          have d_28 : a'.eval (.tmp 89) = .int .i64 ((((zK (subE V P) (digN V) K).1).getD (K) 0 : Nat) : Int) := hD 4 89 (by kernel_rfl) rfl
          have d_29 : a'.eval (.tmp 93) = .int .i64 (((digN P).getD (K) 0 : Nat) : Int) := hD 8 93 (by kernel_rfl) rfl
          exact .inl ⟨_, _, (o_subZ (m := (((zK (subE V P) (digN V) K).1).getD (K) 0)) (n := ((digN P).getD (K) 0)) rfl d_28 d_29 (by omega) (by omega)), rfl, Below.refl _ _⟩)), trivial⟩ (fun a_9 w_20 hs_9 hd_9 hb_8 hO_3 hV_3 => ?_)
        have ta_9_1 := (hO_3 1 (by decide)).trans ((pm rfl).trans ta_8_1)
        have ta_9_2 := (hO_3 2 (by decide)).trans ((pm rfl).trans ta_8_2)
        have ta_9_7 := (hO_3 7 (by decide)).trans ((pm rfl).trans ta_8_7)
        have ta_9_82 := (hO_3 82 (by decide)).trans ((pm rfl).trans ta_8_82)
        have ta_9_10 : a_9.eval (.tmp 10) = .int .i64 ((K : Nat) : Int) := (hO_3 10 (by decide)).trans (pe hs_8 rfl rfl)
        clear ta_8_1 ta_8_2 ta_8_7 ta_8_9 ta_8_82 hd_8
        replace BA := BA.nx hb_8
        replace BR := BR.nx hb_8
        replace BP := BP.nx hb_8
        have HB_13 := below_from HBL hb_8
        have ta_9_85 : a_9.eval (.tmp 85) = .int .i64 ((zK (subE V P) (digN V) K).2) := hV_3 0 85 rfl rfl
        have ta_9_94 : a_9.eval (.tmp 94) = .int .i64 ((((((zK (subE V P) (digN V) K).1).getD (K) 0) : Nat) : Int) - ((((digN P).getD (K) 0) : Nat) : Int)) := hV_3 9 94 rfl rfl
        clear hV_3 hO_3
        simp only [List.drop_succ_cons, List.drop_zero]
        refine q_v 95 (.int .i64 ((zK (subE V P) (digN V) K).2 + subE V P K)) (o_eq (o_addZZ (m := (zK (subE V P) (digN V) K).2) (n := (((((zK (subE V P) (digN V) K).1).getD (K) 0) : Nat) : Int) - ((((digN P).getD (K) 0) : Nat) : Int)) rfl ((pm rfl).trans ta_9_85) ((pm rfl).trans ta_9_94) (by omega)) (congrArg (Value.int .i64) (by have h9 : subE V P K = (((digN V).getD K 0 : Nat) : Int) - (((digN P).getD K 0 : Nat) : Int) := rfl; omega))) ?_
        refine q_at (pe hs_9 rfl rfl) ?_
        refine x_nil (hK_59 _ _ ?_)
        refine w2_sr (fun K_60 hK_60 => ?_)
        refine q_mv ((pm rfl).trans ta_9_10) ?_
        refine q_mv (pe hs_9 rfl rfl) ?_
        refine q_v 98 (.int .i64 (((zK (subE V P) (digN V) K).2 + subE V P K) % 65536)) (o_andZ (m := (zK (subE V P) (digN V) K).2 + subE V P K) rfl (pe hs_9 rfl rfl) rfl) ?_
        refine q_v 99 (.int .u64 (((((zK (subE V P) (digN V) K).2 + subE V P K) % 65536).toNat : Nat) : Int)) (o_convZN (m := ((zK (subE V P) (digN V) K).2 + subE V P K) % 65536) rfl (pe hs_9 rfl rfl) ⟨.int .i64, fun _ => by kernel_rfl⟩ (fun _ => by kernel_rfl) (by omega) (by omega)) ?_
        refine op_val (d := 100) (v := .pointer (some ⟨g_1, K, none⟩)) rfl rfl (zero_off (o_ixA (k := 0) (i := K) (n := 16) (e := 23) rfl ((pm rfl).trans ta_9_1) (pe hs_9 rfl rfl) (by omega) (fun _ => by kernel_rfl) (fun _ => by kernel_rfl))) ?_
        refine op_do rfl rfl (o_storeW rfl (pe hs_9 rfl rfl) (pe hs_9 rfl rfl) BA (by rw [hzl]; omega) ⟨by kernel_rfl, by kernel_rfl⟩) (fun w_21 hR_12 => ?_)
        obtain ⟨hB_11, hX_8⟩ := hR_12
        replace BR := hX_8.blk BR (Ne.symm ne_1)
        replace BP := hX_8.blk BP (Ne.symm ne_2)
        have HB_14 := hX_8.below HB_13 HB_13.size (fun k hk => hk ▸ ge_1)
        clear BA
        refine x_nil (hK_60 _ _ ?_)
        refine x_region (by kernel_rfl) ?_
        refine q_mv (pe hs_9 rfl rfl) ?_
        refine q_v 102 (.int .i64 (((zK (subE V P) (digN V) K).2 + subE V P K) / 65536)) (o_shrZ (m := (zK (subE V P) (digN V) K).2 + subE V P K) rfl (pe hs_9 rfl rfl) rfl) ?_
        refine q_at (pe hs_9 rfl rfl) ?_
        refine x_nil (hK_57 _ _ ?_)
        refine hK_56 _ _ ?_
        refine x_region (by kernel_rfl) ?_
        refine q_v 103 (.int .i64 ((K + 1 : Nat) : Int)) (o_add64 (m := K) (n := 1) rfl ((pm rfl).trans ta_9_82) rfl (by omega)) ?_
        refine q_mv (pe hs_9 rfl rfl) ?_
        refine x_nil ?_
        refine hK_53 _ _ _ ⟨K + 1, rfl, (by rw [putsR_size]; exact hs_9), (by rw [putsR_defers]; exact hd_9), ((pm rfl).trans ta_9_1), ((pm rfl).trans ta_9_2), ((pm rfl).trans ta_9_7), (pe hs_9 rfl rfl), (pe hs_9 rfl rfl), (by omega), hB_11, BR, BP, HB_14⟩ ?_
        omega
       ·simp only [DD9] at h_7
        obtain rfl : K = 16 := by omega
        refine w2_exit ?_
        refine thn_exit ?_
        refine thn_exit ?_
        refine exb_hit ?_
        refine hK_52 _ _ ?_
        refine hK_50 _ _ ?_
        refine w2_sr (fun K_61 hK_61 => ?_)
        refine q_v 104 (.agg (iws .u64 ((zK (subE V P) (digN V) 16).1)).toArray) (o_loadI rfl ((pm rfl).trans ta_8_1) BA (by rw [hzl]; exact ⟨by kernel_rfl, by kernel_rfl⟩)) ?_
        refine op_do rfl rfl (o_storeI rfl ((pm rfl).trans ta_8_2) (pe hs_8 rfl rfl) BR (by rw [hzl]; exact ⟨by kernel_rfl, by kernel_rfl⟩) (by rw [hzl]; simp [iws])) (fun w_22 hR_13 => ?_)
        obtain ⟨hB_12, hX_9⟩ := hR_13
        replace BA := hX_9.blk BA ne_1
        replace BP := hX_9.blk BP (Ne.symm ne_3)
        have HB_15 := hX_9.below HBL HBL.size (fun k hk => hk ▸ ge_2)
        clear BR
        refine x_nil (hK_61 _ _ ?_)
        refine w2_ret ?_
        refine retC rfl hd_8 ((pm rfl).trans ta_8_2) (loadI hB_12 (by rw [hzl]; exact ⟨by kernel_rfl, by kernel_rfl⟩)) ?_
        exact ⟨by rw [← hVm, mod_sub hge hVP, sub_all hge hVP], HB_15⟩
end Go.Proofs.Ytikjcikedbcfmaa
