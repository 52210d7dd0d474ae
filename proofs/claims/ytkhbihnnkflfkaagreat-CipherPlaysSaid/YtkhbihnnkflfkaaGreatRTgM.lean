/-
 OpsZ · RTag · RAead, IN ONE TEXT.
-/
import Derived.Test.YtkhbihnnkflfkaaGreatEz
import Derived.Test.YtkhbihnnkflfkaaGreatOps3
import Derived.Test.YtkhbihnnkflfkaaGreatRWdM
import Derived.Test.YtkhbihnnkflfkaaGreatRMth
import Derived.Test.YtkhbihnnkflfkaaGreatZero
import Derived.Test.YtkhbihnnkflfkaaGreatOps4
import Derived.Test.YtkhbihnnkflfkaaGreatMem9
import Derived.Test.YtkhbihnnkflfkaaGreatOpsM
/-
 OPERATIONS on whole numbers that may be below nought.
-/
namespace Go.Proofs.YtkhbihnnkflfkaaGreat
open Go.RowKit
set_option maxRecDepth 100000
set_option maxHeartbeats 8000000
set_option linter.unusedVariables false
set_option linter.unusedSimpArgs false
section
variable {o : Oper} {ev : Operand → Value} {w : World} {x y z : Operand} {T U : TypeId} {m n : Int}
end
end Go.Proofs.YtkhbihnnkflfkaaGreat
/-
 WALKS: the reference's Poly1305: carry, times, whole, Tag.
-/
namespace Go.Proofs.YtkhbihnnkflfkaaGreat
open Go.RowKit
set_option maxHeartbeats 8000000
set_option linter.unusedVariables false
set_option linter.unusedSimpArgs false
set_option maxRecDepth 100000
attribute [local irreducible] wpList wpListIn putsR

variable {V q : Nat} {bs : List Nat}
theorem and_m4 (x : Nat) : x &&& 3 = x % 4 := Nat.and_two_pow_sub_one_eq_mod x 2
theorem and_m8 (x : Nat) : x &&& 255 = x % 256 := Nat.and_two_pow_sub_one_eq_mod x 8
theorem carryW_any {xs : List Nat} (w : World) (hl : xs.length = 17) (hM : ∀ j, xs.getD j 0 ≤ 255 * 4294967296) :
  Calls Tryz.prog 107 #[.agg (iws .u64 (xs)).toArray] w fun e w' => e = .returned (.agg (iws .u64 (dgP (car2 (valB 256 xs)))).toArray) ∧ Below w.heap.size w w' := by
 refine x_enter 38 Tryz.func107 rfl rfl (fun a hs hd ha0 => ?_)
 have t0 := tA 0 ha0
 clear ha0
 iterate 2 refine e1 ?_
 refine q_x (o_boxI rfl ev) (fun v_1 w_1 hR_1 => ?_)
 obtain ⟨g_1, rfl, hle_1, hB_1, hb_1⟩ := hR_1
 have ge_1 : w.heap.size ≤ g_1 := hle_1
 refine q_x (o_alloc (zs := (iws .u64 (List.replicate 17 0)).toArray) rfl (fun _ => by kernel_rfl)) (fun v_2 w_2 hR_2 => ?_)
 obtain ⟨g_2, rfl, hle_2, hB_2, hb_2⟩ := hR_2
 have ne_1 : g_1 ≠ g_2 := Nat.ne_of_lt (Nat.lt_of_lt_of_le hB_1.lt hle_2)
 have ge_2 : w.heap.size ≤ g_2 := Nat.le_trans hb_1.size hle_2
 replace hB_1 := hB_1.nx hb_2
 have HB_1 := below_from hb_1 hb_2
 iterate 4 refine e1 ?_
 refine q_v 5 (.int .i64 ((0 : Nat) : Int)) (o_move rfl rfl) ?_
 iterate 2 refine e1 ?_
 refine x_loop (fun nn aa ww => ∃ (R : Nat), nn = 3 - R ∧ aa.tmps.size = 38 ∧ aa.defers = [] ∧ aa.eval (.tmp 1) = .pointer (some ⟨g_1, 0, none⟩) ∧ aa.eval (.tmp 2) = .pointer (some ⟨g_2, 0, none⟩) ∧ aa.eval (.tmp 5) = .int .i64 ((R : Nat) : Int) ∧ R ≤ 3 ∧ Blk ww g_1 (iws .u64 (rndP xs R)).toArray 124 ∧ Blk ww g_2 (iws .u64 (List.replicate 17 0)).toArray 124 ∧ Below w.heap.size w ww) (3) ?_ ?_
 ·exact ⟨0, rfl, (psz hs), (pdf hd), ev, ev, ev, by omega, hB_1, hB_2, HB_1⟩
 ·skip
  rintro nna_1 a_1 w_3 ⟨R, hm_1, hs_1, hd_1, ta_1_1, ta_1_2, ta_1_5, hR3, BA, BR, HBL⟩ K_5 hK_5
  subst hm_1
  obtain ⟨hrl, hrM⟩ := rndP_ok hl hM R hR3
  iterate 2 refine e1 ?_
  refine q_w (o_lss (n := 3) rfl ev rfl) ?_
  iterate 2 refine e1 ?_
  refine w2_split (pe hs_1 rfl rfl) (fun h_1 => ?_) (fun h_1 => ?_)
  ·simp only [DD9] at h_1
   iterate 6 refine e1 ?_
   refine q_as (.int .u64 ((0 : Nat) : Int)) rfl ?_
   iterate 4 refine e1 ?_
   refine q_v 7 (.int .i64 ((0 : Nat) : Int)) (o_move rfl rfl) ?_
   iterate 2 refine e1 ?_
   refine x_loop (fun nn aa ww => ∃ (K : Nat), nn = 16 - K ∧ aa.tmps.size = 38 ∧ aa.defers = [] ∧ aa.eval (.tmp 1) = .pointer (some ⟨g_1, 0, none⟩) ∧ aa.eval (.tmp 2) = .pointer (some ⟨g_2, 0, none⟩) ∧ aa.eval (.tmp 3) = .int .u64 (((ripK (rndP xs R) K).2 : Nat) : Int) ∧ aa.eval (.tmp 5) = .int .i64 ((R : Nat) : Int) ∧ aa.eval (.tmp 7) = .int .i64 ((K : Nat) : Int) ∧ K ≤ 16 ∧ Blk ww g_1 (iws .u64 ((ripK (rndP xs R) K).1)).toArray 124 ∧ Blk ww g_2 (iws .u64 (List.replicate 17 0)).toArray 124 ∧ Below w.heap.size w ww) (16) ?_ ?_
   ·exact ⟨0, rfl, (psz hs_1), (pdf hd_1), ev, ev, ev, ev, ev, by omega, BA, BR, HBL⟩
   ·skip
    clear ta_1_1 ta_1_2 ta_1_5 hd_1 BA BR HBL
    rintro nna_2 a_2 w_4 ⟨K, hm_2, hs_2, hd_2, ta_2_1, ta_2_2, ta_2_3, ta_2_5, ta_2_7, hK, BA, BR, HBL⟩ K_14 hK_14
    subst hm_2
    have hcl : (ripK (rndP xs R) K).1.length = 17 := (ripK_length _ K).trans hrl
    have hcc := ripK_c hrM K
    have hca := ripK_above (rndP xs R) K K (Nat.le_refl _)
    have hcm := hrM K
    iterate 2 refine e1 ?_
    refine q_w (o_lss (n := 16) rfl ev rfl) ?_
    iterate 2 refine e1 ?_
    refine w2_split (pe hs_2 rfl rfl) (fun h_2 => ?_) (fun h_2 => ?_)
    ·simp only [DD9] at h_2
     iterate 13 refine e1 ?_
     refine q_v _ (.pointer (some ⟨g_1, K, none⟩)) (zero_off (o_ixA (k := 0) (i := K) (n := 17) (e := 38) rfl ev ev (by omega) (fun _ => by kernel_rfl) (fun _ => by kernel_rfl))) ?_
     refine q_w (o_loadW rfl ev BA (by rw [hcl]; omega) rfl ⟨by kernel_rfl, by kernel_rfl⟩) ?_
     refine q_w (o_addU (((ripK (rndP xs R) K).2) + (((ripK (rndP xs R) K).1).getD (K) 0)) rfl ev ev (by rw [IntKind.wrap_u64]; omega)) ?_
     iterate 6 refine e1 ?_
     refine q_v 17 (.int .u64 ((((ripK (rndP xs R) K).2 + (ripK (rndP xs R) K).1.getD (K) 0) % 256 : Nat) : Int)) (o_eq (o_bits (m := (((ripK (rndP xs R) K).2) + (((ripK (rndP xs R) K).1).getD (K) 0))) (n := 255) ((((ripK (rndP xs R) K).2) + (((ripK (rndP xs R) K).1).getD (K) 0)) &&& 255) rfl ev rfl (by decide) (u64_and_nat _ _ (by omega) (by omega))) (by rw [and_m8])) ?_
     refine q_v _ (.pointer (some ⟨g_1, K, none⟩)) (zero_off (o_ixA (k := 0) (i := K) (n := 17) (e := 38) rfl ev ev (by omega) (fun _ => by kernel_rfl) (fun _ => by kernel_rfl))) ?_
     refine q_d (o_storeW rfl ev ev BA (by rw [hcl]; omega) ⟨by kernel_rfl, by kernel_rfl⟩) (fun w_5 hR_3 => ?_)
     obtain ⟨hB_3, hX_1⟩ := hR_3
     replace BR := hX_1.blk BR (Ne.symm ne_1)
     have HB_2 := hX_1.below HBL HBL.size (fun k hk => hk ▸ ge_1)
     clear BA
     iterate 3 refine e1 ?_
     refine q_v 20 (.int .u64 ((((ripK (rndP xs R) K).2 + (ripK (rndP xs R) K).1.getD (K) 0) / 256 : Nat) : Int)) (o_eq (o_shr (m := (((ripK (rndP xs R) K).2) + (((ripK (rndP xs R) K).1).getD (K) 0))) (n := 8) rfl ev rfl (by decide)) rfl) ?_
     iterate 4 refine e1 ?_
     refine q_w (o_add64 (n := 1) rfl ev rfl (by omega)) ?_
     refine e1 ?_
     refine x_nil ?_
     refine hK_14 _ _ _ ⟨K + 1, rfl, (psz hs_2), (pdf hd_2), ev, ev, ev, ev, ev, (by omega), hB_3, BR, HB_2⟩ ?_
     omega
    ·simp only [DD9] at h_2
     obtain rfl : K = 16 := by omega
     have htp := topP_le hrM
     iterate 8 refine e1 ?_
     refine q_v _ (.pointer (some ⟨g_1, 16, none⟩)) (zero_off (o_ixA (k := 0) (i := 16) (n := 17) (e := 38) rfl ev rfl (by omega) (fun _ => by kernel_rfl) (fun _ => by kernel_rfl))) ?_
     refine q_w (o_loadW rfl ev BA (by rw [hcl]; omega) rfl ⟨by kernel_rfl, by kernel_rfl⟩) ?_
     refine q_v 25 (.int .u64 ((topP (rndP xs R) : Nat) : Int)) (o_eq (o_addU (m := ((ripK (rndP xs R) 16).2)) (n := (((ripK (rndP xs R) 16).1).getD (16) 0)) (((ripK (rndP xs R) 16).2) + (((ripK (rndP xs R) 16).1).getD (16) 0)) rfl ev ev (by rw [IntKind.wrap_u64]; omega)) rfl) ?_
     iterate 5 refine e1 ?_
     refine q_v 27 (.int .u64 ((topP (rndP xs R) % 4 : Nat) : Int)) (o_eq (o_bits (m := (topP (rndP xs R))) (n := 3) ((topP (rndP xs R)) &&& 3) rfl ev rfl (by decide) (u64_and_nat _ _ (by omega) (by omega))) (by rw [and_m4])) ?_
     refine q_v _ (.pointer (some ⟨g_1, 16, none⟩)) (zero_off (o_ixA (k := 0) (i := 16) (n := 17) (e := 38) rfl ev rfl (by omega) (fun _ => by kernel_rfl) (fun _ => by kernel_rfl))) ?_
     refine q_d (o_storeW rfl ev ev BA (by rw [hcl]; omega) ⟨by kernel_rfl, by kernel_rfl⟩) (fun w_6 hR_4 => ?_)
     obtain ⟨hB_4, hX_2⟩ := hR_4
     replace BR := hX_2.blk BR (Ne.symm ne_1)
     have HB_3 := hX_2.below HBL HBL.size (fun k hk => hk ▸ ge_1)
     clear BA
     refine e1 ?_
     have h130 : ((ripK (rndP xs R) 16).1.set (16) (topP (rndP xs R) % 4)).getD (0) 0 < 256 := by rw [getDB_ne (by decide)]; exact ripK_below (rndP xs R) 16 0 (by decide) (by omega)
     refine e1 ?_
     refine q_v _ (.pointer (some ⟨g_1, 0, none⟩)) (zero_off (o_ixA (k := 0) (i := 0) (n := 17) (e := 38) rfl ev rfl (by omega) (fun _ => by kernel_rfl) (fun _ => by kernel_rfl))) ?_
     refine q_w (o_loadW rfl ev hB_4 (by simp only [List.length_set, hcl]; omega) rfl ⟨by kernel_rfl, by kernel_rfl⟩) ?_
     refine e1 ?_
     refine q_v 32 (.int .u64 ((topP (rndP xs R) / 4 : Nat) : Int)) (o_eq (o_shr (m := (topP (rndP xs R))) (n := 2) rfl ev rfl (by decide)) rfl) ?_
     refine q_v 33 (.int .u64 ((5 * (topP (rndP xs R) / 4) : Nat) : Int)) (o_eq (o_mulU (m := 5) (n := (topP (rndP xs R) / 4)) (5 * (topP (rndP xs R) / 4) % 18446744073709551616) rfl rfl ev (by rw [IntKind.wrap_u64]; simp)) (by rw [Nat.mod_eq_of_lt (by omega)])) ?_
     refine q_w (o_addU (((((ripK (rndP xs R) 16).1).set (16) (topP (rndP xs R) % 4)).getD (0) 0) + (5 * (topP (rndP xs R) / 4))) rfl ev ev (by rw [IntKind.wrap_u64]; omega)) ?_
     refine q_v _ (.pointer (some ⟨g_1, 0, none⟩)) (zero_off (o_ixA (k := 0) (i := 0) (n := 17) (e := 38) rfl ev rfl (by omega) (fun _ => by kernel_rfl) (fun _ => by kernel_rfl))) ?_
     refine q_d (o_storeW rfl ev ev hB_4 (by simp only [List.length_set, hcl]; omega) ⟨by kernel_rfl, by kernel_rfl⟩) (fun w_7 hR_5 => ?_)
     obtain ⟨hB_5, hX_3⟩ := hR_5
     replace BR := hX_3.blk BR (Ne.symm ne_1)
     have HB_4 := hX_3.below HB_3 HB_3.size (fun k hk => hk ▸ ge_1)
     iterate 3 refine e1 ?_
     refine q_w (o_add64 (n := 1) rfl ev rfl (by omega)) ?_
     refine e1 ?_
     refine x_nil ?_
     refine hK_5 _ _ _ ⟨R + 1, rfl, (psz hs_2), (pdf hd_2), ev, ev, ev, (by omega), hB_5, BR, HB_4⟩ ?_
     omega
  ·simp only [DD9] at h_1
   obtain rfl : R = 3 := by omega
   iterate 7 refine e1 ?_
   refine q_w (o_loadI rfl ev BA (by rw [hrl]; exact ⟨by kernel_rfl, by kernel_rfl⟩)) ?_
   refine q_d (o_storeI rfl ev ev BR (by rw [hrl]; exact ⟨by kernel_rfl, by kernel_rfl⟩) (by rw [hrl]; simp [iws])) (fun w_8 hR_6 => ?_)
   obtain ⟨hB_6, hX_4⟩ := hR_6
   replace BA := hX_4.blk BA ne_1
   have HB_5 := hX_4.below HBL HBL.size (fun k hk => hk ▸ ge_2)
   clear BR
   iterate 2 refine e1 ?_
   refine retC rfl hd_1 ((pm rfl).trans ta_1_2) (loadI hB_6 (by rw [hrl]; exact ⟨by kernel_rfl, by kernel_rfl⟩)) ?_
   exact ⟨by rw [← (carry_val hl hM).1], HB_5⟩
theorem carryD_any (w : World) (h : V < 1361129467683753853853498429727072845824) : Calls Tryz.prog 107 #[.agg (iws .u64 (dgP V)).toArray] w fun e w' => e = .returned (.agg (iws .u64 (dgP V)).toArray) ∧ Below w.heap.size w w' := by
 have h1 := carryW_any w (dgP_length V) (fun j => Nat.le_trans (dgP_le V j) (by decide))
 rw [valB_dgP h, car2_small h] at h1
 exact h1
theorem timesW_any {xa xb : List Nat} (w : World) (la : xa.length = 17) (lb : xb.length = 17) (ha255 : ∀ j, xa.getD j 0 ≤ 255) (hb255 : ∀ j, xb.getD j 0 ≤ 255) :
  Calls Tryz.prog 106 #[.agg (iws .u64 (xa)).toArray, .agg (iws .u64 (xb)).toArray] w fun e w' => e = .returned (.agg (iws .u64 (dgP (timP xa xb))).toArray) ∧ Below w.heap.size w w' := by
 refine x_enter 52 Tryz.func106 rfl rfl (fun a hs hd ha0 => ?_)
 have t0 := tA 0 ha0
 have t1 := tA 1 ha0
 clear ha0
 iterate 2 refine e1 ?_
 refine q_x (o_boxI rfl ev) (fun v_1 w_1 hR_1 => ?_)
 obtain ⟨g_1, rfl, hle_1, hB_1, hb_1⟩ := hR_1
 refine q_x (o_boxI rfl ev) (fun v_2 w_2 hR_2 => ?_)
 obtain ⟨g_2, rfl, hle_2, hB_2, hb_2⟩ := hR_2
 replace hB_1 := hB_1.nx hb_2
 have HB_1 := below_from hb_1 hb_2
 refine q_x (o_alloc (zs := (iws .u64 (List.replicate 17 0)).toArray) rfl (fun _ => by kernel_rfl)) (fun v_3 w_3 hR_3 => ?_)
 obtain ⟨g_3, rfl, hle_3, hB_3, hb_3⟩ := hR_3
 have ne_2 : g_1 ≠ g_3 := Nat.ne_of_lt (Nat.lt_of_lt_of_le hB_1.lt hle_3)
 have ne_3 : g_2 ≠ g_3 := Nat.ne_of_lt (Nat.lt_of_lt_of_le hB_2.lt hle_3)
 have ge_3 : w.heap.size ≤ g_3 := Nat.le_trans HB_1.size hle_3
 obtain ⟨hB_1, hB_2⟩ := nx2 hb_3 hB_1 hB_2
 have HB_2 := below_from HB_1 hb_3
 iterate 3 refine e1 ?_
 refine q_x (o_alloc (zs := (iws .u64 (List.replicate 17 0)).toArray) rfl (fun _ => by kernel_rfl)) (fun v_4 w_4 hR_4 => ?_)
 obtain ⟨g_4, rfl, hle_4, hB_4, hb_4⟩ := hR_4
 have ne_4 : g_1 ≠ g_4 := Nat.ne_of_lt (Nat.lt_of_lt_of_le hB_1.lt hle_4)
 have ne_5 : g_2 ≠ g_4 := Nat.ne_of_lt (Nat.lt_of_lt_of_le hB_2.lt hle_4)
 have ne_6 : g_3 ≠ g_4 := Nat.ne_of_lt (Nat.lt_of_lt_of_le hB_3.lt hle_4)
 have ge_4 : w.heap.size ≤ g_4 := Nat.le_trans HB_2.size hle_4
 obtain ⟨hB_1, hB_2, hB_3⟩ := nx3 hb_4 hB_1 hB_2 hB_3
 have HB_3 := below_from HB_2 hb_4
 iterate 4 refine e1 ?_
 refine q_v 8 (.int .i64 ((0 : Nat) : Int)) (o_move rfl rfl) ?_
 iterate 2 refine e1 ?_
 refine x_loop (fun nn aa ww => ∃ (I : Nat), nn = 17 - I ∧ aa.tmps.size = 52 ∧ aa.defers = [] ∧ aa.eval (.tmp 2) = .pointer (some ⟨g_1, 0, none⟩) ∧ aa.eval (.tmp 3) = .pointer (some ⟨g_2, 0, none⟩) ∧ aa.eval (.tmp 4) = .pointer (some ⟨g_3, 0, none⟩) ∧ aa.eval (.tmp 5) = .pointer (some ⟨g_4, 0, none⟩) ∧ aa.eval (.tmp 8) = .int .i64 ((I : Nat) : Int) ∧ I ≤ 17 ∧ Blk ww g_1 (iws .u64 (xa)).toArray 124 ∧ Blk ww g_2 (iws .u64 (xb)).toArray 124 ∧ Blk ww g_3 (iws .u64 (List.replicate 17 0)).toArray 124 ∧ Blk ww g_4 (iws .u64 ((tmI xa xb I))).toArray 124 ∧ Below w.heap.size w ww) (17) ?_ ?_
 ·exact ⟨0, rfl, (psz hs), (pdf hd), ev, ev, ev, ev, ev, by omega, hB_1, hB_2, hB_3, hB_4, HB_3⟩
 ·skip
  rintro nna_1 a_1 w_5 ⟨I, hm_1, hs_1, hd_1, ta_1_2, ta_1_3, ta_1_4, ta_1_5, ta_1_8, hI, BA, BB, BR, BT, HBL⟩ K_6 hK_6
  subst hm_1
  have hml := tmI_length xa xb I
  have hmM := tmI_le ha255 hb255 I
  iterate 2 refine e1 ?_
  refine q_w (o_lss (n := 17) rfl ev rfl) ?_
  iterate 2 refine e1 ?_
  refine w2_split (pe hs_1 rfl rfl) (fun h_1 => ?_) (fun h_1 => ?_)
  ·simp only [DD9] at h_1
   iterate 11 refine e1 ?_
   refine q_v 11 (.int .i64 ((0 : Nat) : Int)) (o_move rfl rfl) ?_
   iterate 2 refine e1 ?_
   refine x_loop (fun nn aa ww => ∃ (J : Nat), nn = 17 - J ∧ aa.tmps.size = 52 ∧ aa.defers = [] ∧ aa.eval (.tmp 2) = .pointer (some ⟨g_1, 0, none⟩) ∧ aa.eval (.tmp 3) = .pointer (some ⟨g_2, 0, none⟩) ∧ aa.eval (.tmp 4) = .pointer (some ⟨g_3, 0, none⟩) ∧ aa.eval (.tmp 5) = .pointer (some ⟨g_4, 0, none⟩) ∧ aa.eval (.tmp 6) = .int .i64 ((I : Nat) : Int) ∧ aa.eval (.tmp 8) = .int .i64 ((I : Nat) : Int) ∧ aa.eval (.tmp 11) = .int .i64 ((J : Nat) : Int) ∧ J ≤ 17 ∧ Blk ww g_1 (iws .u64 (xa)).toArray 124 ∧ Blk ww g_2 (iws .u64 (xb)).toArray 124 ∧ Blk ww g_3 (iws .u64 (List.replicate 17 0)).toArray 124 ∧ Blk ww g_4 (iws .u64 ((tmJ (tmI xa xb I) xb (xa.getD I 0) I J))).toArray 124 ∧ Below w.heap.size w ww) (17) ?_ ?_
   ·exact ⟨0, rfl, (psz hs_1), (pdf hd_1), ev, ev, ev, ev, ev, ev, ev, by omega, BA, BB, BR, BT, HBL⟩
   ·skip
    clear ta_1_2 ta_1_3 ta_1_4 ta_1_5 ta_1_8 hd_1 BA BB BR BT HBL
    rintro nna_2 a_2 w_6 ⟨J, hm_2, hs_2, hd_2, ta_2_2, ta_2_3, ta_2_4, ta_2_5, ta_2_6, ta_2_8, ta_2_11, hJ, BA, BB, BR, BT, HBL⟩ K_14 hK_14
    subst hm_2
    have hjl : (tmJ (tmI xa xb I) xb (xa.getD I 0) I J).length = 17 := (tmJ_length _ _ _ _ J).trans hml
    have hjM := tmJ_le (i := I) hmM hb255 (ha255 I) J (I + J)
    have hjN := tmJ_le (i := I) hmM hb255 (ha255 I) J (I + J - 17)
    have hxl := ha255 I
    have hyl := hb255 J
    have hxy := Nat.mul_le_mul hxl hyl
    have hxz := Nat.mul_le_mul (Nat.mul_le_mul_left 320 hxl) hyl
    iterate 2 refine e1 ?_
    refine q_w (o_lss (n := 17) rfl ev rfl) ?_
    iterate 2 refine e1 ?_
    refine w2_split (pe hs_2 rfl rfl) (fun h_2 => ?_) (fun h_2 => ?_)
    ·simp only [DD9] at h_2
     iterate 13 refine e1 ?_
     refine q_w (o_add64 rfl ev ev (by omega)) ?_
     refine q_w (o_lss (n := 17) rfl ev rfl) ?_
     refine e1 ?_
     refine w2_split (pe hs_2 rfl rfl) (fun h_3 => ?_) (fun h_3 => ?_)
     ·simp only [DD9] at h_3
      refine y_drawn 12 [iI .i64 I, iI .i64 J, iV (.int .i64 ((I + J : Nat) : Int)), iP g_4 (I + J), iV (.int .u64 ((((tmJ (tmI xa xb I) xb (xa.getD I 0) I J)).getD (I + J) 0 : Nat) : Int)), iI .i64 I, iP g_1 I, iV (.int .u64 ((xa.getD (I) 0 : Nat) : Int)), iI .i64 J, iP g_2 J, iV (.int .u64 ((xb.getD (J) 0 : Nat) : Int)), iV (.int .u64 ((xa.getD (I) 0 * xb.getD (J) 0 : Nat) : Int))] [18, 19, 20, 21, 22, 23, 24, 25, 26, 27, 28, 29] hs_2 hd_2 ⟨sx, sx, (step_ok rfl fun a' w' hb' hO hD => oV (o_add64 (m := I) (n := J) rfl ed ed (by omega)) rfl), (step_ok rfl fun a' w' hb' hO hD => oV (zero_off (o_ixA (k := 0) (i := I + J) (n := 17) (e := 38) rfl ed ed (by omega) (fun _ => by kernel_rfl) (fun _ => by kernel_rfl))) rfl), (step_ok rfl fun a' w' hb' hO hD => oV (o_loadW rfl ed (BT.nx hb') (by rw [hjl]; omega) rfl ⟨by kernel_rfl, by kernel_rfl⟩) rfl), sx, (step_ok rfl fun a' w' hb' hO hD => oV (zero_off (o_ixA (k := 0) (i := I) (n := 17) (e := 38) rfl ed ed (by omega) (fun _ => by kernel_rfl) (fun _ => by kernel_rfl))) rfl), (step_ok rfl fun a' w' hb' hO hD => oV (o_loadW rfl ed (BA.nx hb') (by rw [la]; omega) rfl ⟨by kernel_rfl, by kernel_rfl⟩) rfl), sx, (step_ok rfl fun a' w' hb' hO hD => oV (zero_off (o_ixA (k := 0) (i := J) (n := 17) (e := 38) rfl ed ed (by omega) (fun _ => by kernel_rfl) (fun _ => by kernel_rfl))) rfl), (step_ok rfl fun a' w' hb' hO hD => oV (o_loadW rfl ed (BB.nx hb') (by rw [lb]; omega) rfl ⟨by kernel_rfl, by kernel_rfl⟩) rfl),
(step_ok rfl (fun a' w' hb' hO hD => by
        have d_16 : a'.eval (.tmp 25) = .int .u64 ((xa.getD (I) 0 : Nat) : Int) := hD 7 25 (by kernel_rfl) rfl
        have d_17 : a'.eval (.tmp 28) = .int .u64 ((xb.getD (J) 0 : Nat) : Int) := hD 10 28 (by kernel_rfl) rfl
        have e0 : (.int .u64 (((xa.getD (I) 0) * (xb.getD (J) 0) % 18446744073709551616 : Nat) : Int) : Value) = .int .u64 ((xa.getD (I) 0 * xb.getD (J) 0 : Nat) : Int) := (by rw [Nat.mod_eq_of_lt (by omega)])
        exact .inl ⟨_, _, (o_mulU (m := (xa.getD (I) 0)) (n := (xb.getD (J) 0)) ((xa.getD (I) 0) * (xb.getD (J) 0) % 18446744073709551616) rfl d_16 d_17 (by rw [IntKind.wrap_u64]; simp)), e0, Below.refl _ _⟩)), trivial⟩ (fun a_3 w_7 hs_3 hd_3 hb_5 hO_1 hV_1 => ?_)
      have ta_3_2 := fK 2 hO_1
      have ta_3_3 := fK 3 hO_1
      have ta_3_4 := fK 4 hO_1
      have ta_3_5 := fK 5 hO_1
      have ta_3_8 := fK 8 hO_1
      have ta_3_6 := fK 6 hO_1
      have ta_3_11 := fK 11 hO_1
      obtain ⟨BA, BB, BR, BT⟩ := nx4 hb_5 BA BB BR BT
      have HB_4 := below_from HBL hb_5
      have ta_3_20 := fV 20 hV_1
      have ta_3_22 := fV 22 hV_1
      have ta_3_29 := fV 29 hV_1
      simp only [List.drop_succ_cons, List.drop_zero]
      refine q_w (o_addU ((((tmJ (tmI xa xb I) xb (xa.getD I 0) I J)).getD (I + J) 0) + (xa.getD (I) 0 * xb.getD (J) 0)) rfl ev ev (by rw [IntKind.wrap_u64]; omega)) ?_
      refine q_v _ (.pointer (some ⟨g_4, I + J, none⟩)) (zero_off (o_ixA (k := 0) (i := I + J) (n := 17) (e := 38) rfl ev ev (by omega) (fun _ => by kernel_rfl) (fun _ => by kernel_rfl))) ?_
      refine q_d (o_storeW rfl ev ev BT (by rw [hjl]; omega) ⟨by kernel_rfl, by kernel_rfl⟩) (fun w_8 hR_5 => ?_)
      obtain ⟨hB_5, hX_1⟩ := hR_5
      replace BA := hX_1.blk BA ne_4
      replace BB := hX_1.blk BB ne_5
      replace BR := hX_1.blk BR ne_6
      have HB_5 := hX_1.below HB_4 HB_4.size (fun k hk => hk ▸ ge_4)
      clear BT
      iterate 3 refine e1 ?_
      refine q_w (o_add64 (n := 1) rfl ev rfl (by omega)) ?_
      refine e1 ?_
      refine x_nil ?_
      refine hK_14 _ _ _ ⟨J + 1, rfl, (psz hs_3), (pdf hd_3), ev, ev, ev, ev, ev, ev, ev, (by omega), BA, BB, BR, (by rw [tmJ, if_pos (by omega)]; exact hB_5), HB_5⟩ ?_
      omega
     ·simp only [DD9] at h_3
      refine y_drawn 14 [iI .i64 I, iI .i64 J, iV (.int .i64 ((I + J : Nat) : Int)), iV (.int .i64 (((I + J) - 17 : Nat) : Int)), iV (.pointer (some ⟨g_4, (I + J) - 17, none⟩)), iV (.int .u64 ((((tmJ (tmI xa xb I) xb (xa.getD I 0) I J)).getD ((I + J) - 17) 0 : Nat) : Int)), iI .i64 I, iP g_1 I, iV (.int .u64 ((xa.getD (I) 0 : Nat) : Int)), iV (.int .u64 ((320 * xa.getD (I) 0 : Nat) : Int)), iI .i64 J, iP g_2 J, iV (.int .u64 ((xb.getD (J) 0 : Nat) : Int)), iV (.int .u64 ((320 * xa.getD (I) 0 * xb.getD (J) 0 : Nat) : Int))] [32, 33, 34, 35, 36, 37, 38, 39, 40, 41, 42, 43, 44, 45] hs_2 hd_2 ⟨sx, sx, (step_ok rfl fun a' w' hb' hO hD => oV (o_add64 (m := I) (n := J) rfl ed ed (by omega)) rfl), (step_ok rfl fun a' w' hb' hO hD => oV (o_sub64 (m := (I + J)) (n := 17) rfl ed rfl (by omega) (by omega)) rfl), (step_ok rfl fun a' w' hb' hO hD => oV (zero_off (o_ixA (k := 0) (i := (I + J) - 17) (n := 17) (e := 38) rfl ed ed (by omega) (fun _ => by kernel_rfl) (fun _ => by kernel_rfl))) rfl), (step_ok rfl fun a' w' hb' hO hD => oV (o_loadW rfl ed (BT.nx hb') (by rw [hjl]; omega) rfl ⟨by kernel_rfl, by kernel_rfl⟩) rfl), sx, (step_ok rfl fun a' w' hb' hO hD => oV (zero_off (o_ixA (k := 0) (i := I) (n := 17) (e := 38) rfl ed ed (by omega) (fun _ => by kernel_rfl) (fun _ => by kernel_rfl))) rfl), (step_ok rfl fun a' w' hb' hO hD => oV (o_loadW rfl ed (BA.nx hb') (by rw [la]; omega) rfl ⟨by kernel_rfl, by kernel_rfl⟩) rfl),
(step_ok rfl (fun a' w' hb' hO hD => by
        have d_30 : a'.eval (.tmp 40) = .int .u64 ((xa.getD (I) 0 : Nat) : Int) := hD 8 40 (by kernel_rfl) rfl
        have e0 : (.int .u64 ((320 * (xa.getD (I) 0) % 18446744073709551616 : Nat) : Int) : Value) = .int .u64 ((320 * xa.getD (I) 0 : Nat) : Int) := (by rw [Nat.mod_eq_of_lt (by omega)])
        exact .inl ⟨_, _, (o_mulU (m := 320) (n := (xa.getD (I) 0)) (320 * (xa.getD (I) 0) % 18446744073709551616) rfl rfl d_30 (by rw [IntKind.wrap_u64]; simp)), e0, Below.refl _ _⟩)), sx, (step_ok rfl fun a' w' hb' hO hD => oV (zero_off (o_ixA (k := 0) (i := J) (n := 17) (e := 38) rfl ed ed (by omega) (fun _ => by kernel_rfl) (fun _ => by kernel_rfl))) rfl), (step_ok rfl fun a' w' hb' hO hD => oV (o_loadW rfl ed (BB.nx hb') (by rw [lb]; omega) rfl ⟨by kernel_rfl, by kernel_rfl⟩) rfl),
(step_ok rfl (fun a' w' hb' hO hD => by
        have d_35 : a'.eval (.tmp 41) = .int .u64 ((320 * xa.getD (I) 0 : Nat) : Int) := hD 9 41 (by kernel_rfl) rfl
        have d_36 : a'.eval (.tmp 44) = .int .u64 ((xb.getD (J) 0 : Nat) : Int) := hD 12 44 (by kernel_rfl) rfl
        have e0 : (.int .u64 (((320 * xa.getD (I) 0) * (xb.getD (J) 0) % 18446744073709551616 : Nat) : Int) : Value) = .int .u64 ((320 * xa.getD (I) 0 * xb.getD (J) 0 : Nat) : Int) := (by rw [Nat.mod_eq_of_lt (by omega)])
        exact .inl ⟨_, _, (o_mulU (m := (320 * xa.getD (I) 0)) (n := (xb.getD (J) 0)) ((320 * xa.getD (I) 0) * (xb.getD (J) 0) % 18446744073709551616) rfl d_35 d_36 (by rw [IntKind.wrap_u64]; simp)), e0, Below.refl _ _⟩)), trivial⟩ (fun a_4 w_9 hs_4 hd_4 hb_6 hO_2 hV_2 => ?_)
      have ta_4_2 := fK 2 hO_2
      have ta_4_3 := fK 3 hO_2
      have ta_4_4 := fK 4 hO_2
      have ta_4_5 := fK 5 hO_2
      have ta_4_8 := fK 8 hO_2
      have ta_4_6 := fK 6 hO_2
      have ta_4_11 := fK 11 hO_2
      obtain ⟨BA, BB, BR, BT⟩ := nx4 hb_6 BA BB BR BT
      have HB_6 := below_from HBL hb_6
      have ta_4_35 := fV 35 hV_2
      have ta_4_37 := fV 37 hV_2
      have ta_4_45 := fV 45 hV_2
      simp only [List.drop_succ_cons, List.drop_zero]
      refine q_w (o_addU ((((tmJ (tmI xa xb I) xb (xa.getD I 0) I J)).getD ((I + J) - 17) 0) + (320 * xa.getD (I) 0 * xb.getD (J) 0)) rfl ev ev (by rw [IntKind.wrap_u64]; omega)) ?_
      refine q_v _ (.pointer (some ⟨g_4, (I + J) - 17, none⟩)) (zero_off (o_ixA (k := 0) (i := (I + J) - 17) (n := 17) (e := 38) rfl ev ev (by omega) (fun _ => by kernel_rfl) (fun _ => by kernel_rfl))) ?_
      refine q_d (o_storeW rfl ev ev BT (by rw [hjl]; omega) ⟨by kernel_rfl, by kernel_rfl⟩) (fun w_10 hR_6 => ?_)
      obtain ⟨hB_6, hX_2⟩ := hR_6
      replace BA := hX_2.blk BA ne_4
      replace BB := hX_2.blk BB ne_5
      replace BR := hX_2.blk BR ne_6
      have HB_7 := hX_2.below HB_6 HB_6.size (fun k hk => hk ▸ ge_4)
      clear BT
      iterate 3 refine e1 ?_
      refine q_w (o_add64 (n := 1) rfl ev rfl (by omega)) ?_
      refine e1 ?_
      refine x_nil ?_
      refine hK_14 _ _ _ ⟨J + 1, rfl, (psz hs_4), (pdf hd_4), ev, ev, ev, ev, ev, ev, ev, (by omega), BA, BB, BR, (by rw [tmJ, if_neg (by omega)]; exact hB_6), HB_7⟩ ?_
      omega
    ·simp only [DD9] at h_2
     obtain rfl : J = 17 := by omega
     iterate 7 refine e1 ?_
     refine q_w (o_add64 (n := 1) rfl ev rfl (by omega)) ?_
     refine e1 ?_
     refine x_nil ?_
     refine hK_6 _ _ _ ⟨I + 1, rfl, (psz hs_2), (pdf hd_2), ev, ev, ev, ev, ev, (by omega), BA, BB, BR, BT, HBL⟩ ?_
     omega
  ·simp only [DD9] at h_1
   obtain rfl : I = 17 := by omega
   iterate 6 refine e1 ?_
   obtain ⟨hl9, hM9⟩ := timP_ok ha255 hb255
   refine e1 ?_
   refine q_w (o_loadI rfl ev BT (by rw [hl9]; exact ⟨by kernel_rfl, by kernel_rfl⟩)) ?_
   refine e1 ?_
   refine k_c Tryz.func107 (carryW_any _ hl9 hM9) ?_
   rintro e_1 w_11 ⟨rfl, hb_8⟩
   obtain ⟨BA, BB, BR, BT⟩ := nx4 hb_8 BA BB BR BT
   have HB_8 := below_from HBL hb_8
   refine ⟨_, rfl, ?_⟩
   refine q_d (o_storeI rfl ev ev BR (by rw [(dgP_length _)]; exact ⟨by kernel_rfl, by kernel_rfl⟩) (by rw [dgP_length]; simp [iws])) (fun w_12 hR_8 => ?_)
   obtain ⟨hB_7, hX_3⟩ := hR_8
   replace BA := hX_3.blk BA ne_2
   replace BB := hX_3.blk BB ne_3
   replace BT := hX_3.blk BT (Ne.symm ne_6)
   have HB_9 := hX_3.below HB_8 HB_8.size (fun k hk => hk ▸ ge_3)
   clear BR
   iterate 2 refine e1 ?_
   refine retC rfl hd_1 ((pm rfl).trans ta_1_4) (loadI hB_7 (by rw [(dgP_length _)]; exact ⟨by kernel_rfl, by kernel_rfl⟩)) ?_
   exact ⟨rfl, HB_9⟩
theorem wholeW_any (w : World) (hV : V < 1361129467683753853853498429727072845824) :
  Calls Tryz.prog 108 #[.agg (iws .u64 (dgP V)).toArray] w fun e w' => e = .returned (.agg (iws .u64 (dgP (V % 1361129467683753853853498429727072845819))).toArray) ∧ Below w.heap.size w w' := by
 refine x_enter 38 Tryz.func108 rfl rfl (fun a hs hd ha0 => ?_)
 have t0 := tA 0 ha0
 clear ha0
 iterate 2 refine e1 ?_
 refine q_x (o_boxI rfl ev) (fun v_1 w_1 hR_1 => ?_)
 obtain ⟨g_1, rfl, hle_1, hB_1, hb_1⟩ := hR_1
 have ge_1 : w.heap.size ≤ g_1 := hle_1
 refine q_x (o_alloc (zs := (iws .u64 (List.replicate 17 0)).toArray) rfl (fun _ => by kernel_rfl)) (fun v_2 w_2 hR_2 => ?_)
 obtain ⟨g_2, rfl, hle_2, hB_2, hb_2⟩ := hR_2
 have ne_1 : g_1 ≠ g_2 := Nat.ne_of_lt (Nat.lt_of_lt_of_le hB_1.lt hle_2)
 have ge_2 : w.heap.size ≤ g_2 := Nat.le_trans hb_1.size hle_2
 replace hB_1 := hB_1.nx hb_2
 have HB_1 := below_from hb_1 hb_2
 iterate 3 refine e1 ?_
 refine q_w (o_loadI rfl ev hB_1 (by rw [dgP_length]; exact ⟨by kernel_rfl, by kernel_rfl⟩)) ?_
 refine e1 ?_
 refine k_c Tryz.func107 (carryD_any _ hV) ?_
 rintro e_1 w_3 ⟨rfl, hb_4⟩
 obtain ⟨hB_1, hB_2⟩ := nx2 hb_4 hB_1 hB_2
 have HB_2 := below_from HB_1 hb_4
 refine ⟨_, rfl, ?_⟩
 refine e1 ?_
 refine k_c Tryz.func107 (carryD_any _ hV) ?_
 rintro e_2 w_4 ⟨rfl, hb_6⟩
 obtain ⟨hB_1, hB_2⟩ := nx2 hb_6 hB_1 hB_2
 have HB_3 := below_from HB_2 hb_6
 refine ⟨_, rfl, ?_⟩
 refine q_d (o_storeI rfl ev ev hB_1 (by rw [(dgP_length _)]; exact ⟨by kernel_rfl, by kernel_rfl⟩) (by simp [iws, dgP_length])) (fun w_5 hR_5 => ?_)
 obtain ⟨hB_3, hX_1⟩ := hR_5
 replace hB_2 := hX_1.blk hB_2 (Ne.symm ne_1)
 have HB_4 := hX_1.below HB_3 HB_3.size (fun k hk => hk ▸ ge_1)
 iterate 3 refine e1 ?_
 refine q_w (o_loadI rfl ev hB_3 (by rw [dgP_length]; exact ⟨by kernel_rfl, by kernel_rfl⟩)) ?_
 refine q_x (o_alloc (zs := (iws .u64 (List.replicate 17 0)).toArray) rfl (fun _ => by kernel_rfl)) (fun v_3 w_6 hR_6 => ?_)
 obtain ⟨g_3, rfl, hle_3, hB_4, hb_7⟩ := hR_6
 have ne_2 : g_2 ≠ g_3 := Nat.ne_of_lt (Nat.lt_of_lt_of_le hB_2.lt hle_3)
 have ne_3 : g_1 ≠ g_3 := Nat.ne_of_lt (Nat.lt_of_lt_of_le hB_3.lt hle_3)
 have ge_3 : w.heap.size ≤ g_3 := Nat.le_trans HB_4.size hle_3
 obtain ⟨hB_2, hB_3⟩ := nx2 hb_7 hB_2 hB_3
 have HB_5 := below_from HB_4 hb_7
 refine q_d (o_storeI rfl ev ev hB_4 (by rw [(dgP_length _)]; exact ⟨by kernel_rfl, by kernel_rfl⟩) (by rw [dgP_length]; simp [iws])) (fun w_7 hR_7 => ?_)
 obtain ⟨hB_5, hX_2⟩ := hR_7
 replace hB_2 := hX_2.blk hB_2 ne_2
 replace hB_3 := hX_2.blk hB_3 ne_3
 have HB_6 := hX_2.below HB_5 HB_5.size (fun k hk => hk ▸ ge_3)
 iterate 2 refine e1 ?_
 have hd0 := dgP_le V 0
 refine e1 ?_
 refine q_v _ (.pointer (some ⟨g_3, 0, none⟩)) (zero_off (o_ixA (k := 0) (i := 0) (n := 17) (e := 38) rfl ev rfl (by omega) (fun _ => by kernel_rfl) (fun _ => by kernel_rfl))) ?_
 refine q_w (o_loadW rfl ev hB_5 (by rw [(dgP_length _)]; omega) rfl ⟨by kernel_rfl, by kernel_rfl⟩) ?_
 refine q_w (o_addU (n := 5) (((dgP V).getD (0) 0) + 5) rfl ev rfl (by rw [IntKind.wrap_u64]; omega)) ?_
 refine q_v _ (.pointer (some ⟨g_3, 0, none⟩)) (zero_off (o_ixA (k := 0) (i := 0) (n := 17) (e := 38) rfl ev rfl (by omega) (fun _ => by kernel_rfl) (fun _ => by kernel_rfl))) ?_
 refine q_d (o_storeW rfl ev ev hB_5 (by rw [(dgP_length _)]; omega) ⟨by kernel_rfl, by kernel_rfl⟩) (fun w_8 hR_8 => ?_)
 obtain ⟨hB_6, hX_3⟩ := hR_8
 replace hB_2 := hX_3.blk hB_2 ne_2
 replace hB_3 := hX_3.blk hB_3 ne_3
 have HB_7 := hX_3.below HB_6 HB_6.size (fun k hk => hk ▸ ge_3)
 iterate 3 refine e1 ?_
 refine q_as (.int .u64 ((0 : Nat) : Int)) rfl ?_
 iterate 4 refine e1 ?_
 refine q_v 14 (.int .i64 ((0 : Nat) : Int)) (o_move rfl rfl) ?_
 refine x_nil ?_
 obtain ⟨l9, hl9⟩ : ∃ q, q = (dgP V).set (0) ((dgP V).getD (0) 0 + 5) := ⟨_, rfl⟩
 rw [← hl9] at hB_6
 have hl17 : l9.length = 17 := by rw [hl9, List.length_set]; exact dgP_length V
 have hlM : ∀ j, l9.getD j 0 ≤ 255 * 2 := by intro j; rw [hl9]; exact set_le (fun k => Nat.le_trans (dgP_le V k) (by decide)) (by omega) j
 iterate 2 refine e1 ?_
 refine x_loop (fun nn aa ww => ∃ (K : Nat), nn = 17 - K ∧ aa.tmps.size = 38 ∧ aa.defers = [] ∧ aa.eval (.tmp 1) = .pointer (some ⟨g_1, 0, none⟩) ∧ aa.eval (.tmp 2) = .pointer (some ⟨g_2, 0, none⟩) ∧ aa.eval (.tmp 3) = .pointer (some ⟨g_3, 0, none⟩) ∧ aa.eval (.tmp 4) = .int .u64 (((ripK l9 K).2 : Nat) : Int) ∧ aa.eval (.tmp 14) = .int .i64 ((K : Nat) : Int) ∧ K ≤ 17 ∧ Blk ww g_1 (iws .u64 (dgP V)).toArray 124 ∧ Blk ww g_2 (iws .u64 (List.replicate 17 0)).toArray 124 ∧ Blk ww g_3 (iws .u64 ((ripK l9 K).1)).toArray 124 ∧ Below w.heap.size w ww) (17) ?_ ?_
 ·exact ⟨0, rfl, (psz hs), (pdf hd), ev, ev, ev, ev, ev, by omega, hB_3, hB_2, hB_6, HB_7⟩
 ·skip
  rintro nna_1 a_1 w_9 ⟨K, hm_1, hs_1, hd_1, ta_1_1, ta_1_2, ta_1_3, ta_1_4, ta_1_14, hK, BA, BR, BG, HBL⟩ K_9 hK_9
  subst hm_1
  have hcl : (ripK l9 K).1.length = 17 := (ripK_length _ K).trans hl17
  have hcc := ripK_c hlM K
  have hca := ripK_above l9 K K (Nat.le_refl _)
  have hcm := hlM K
  iterate 2 refine e1 ?_
  refine q_w (o_lss (n := 17) rfl ev rfl) ?_
  iterate 2 refine e1 ?_
  refine w2_split (pe hs_1 rfl rfl) (fun h_1 => ?_) (fun h_1 => ?_)
  ·simp only [DD9] at h_1
   iterate 13 refine e1 ?_
   refine q_v _ (.pointer (some ⟨g_3, K, none⟩)) (zero_off (o_ixA (k := 0) (i := K) (n := 17) (e := 38) rfl ev ev (by omega) (fun _ => by kernel_rfl) (fun _ => by kernel_rfl))) ?_
   refine q_w (o_loadW rfl ev BG (by rw [hcl]; omega) rfl ⟨by kernel_rfl, by kernel_rfl⟩) ?_
   refine q_w (o_addU (((ripK l9 K).2) + (((ripK l9 K).1).getD (K) 0)) rfl ev ev (by rw [IntKind.wrap_u64]; omega)) ?_
   iterate 6 refine e1 ?_
   refine q_v 24 (.int .u64 ((((ripK l9 K).2 + (ripK l9 K).1.getD (K) 0) % 256 : Nat) : Int)) (o_eq (o_bits (m := (((ripK l9 K).2) + (((ripK l9 K).1).getD (K) 0))) (n := 255) ((((ripK l9 K).2) + (((ripK l9 K).1).getD (K) 0)) &&& 255) rfl ev rfl (by decide) (u64_and_nat _ _ (by omega) (by omega))) (by rw [and_m8])) ?_
   refine q_v _ (.pointer (some ⟨g_3, K, none⟩)) (zero_off (o_ixA (k := 0) (i := K) (n := 17) (e := 38) rfl ev ev (by omega) (fun _ => by kernel_rfl) (fun _ => by kernel_rfl))) ?_
   refine q_d (o_storeW rfl ev ev BG (by rw [hcl]; omega) ⟨by kernel_rfl, by kernel_rfl⟩) (fun w_10 hR_9 => ?_)
   obtain ⟨hB_7, hX_4⟩ := hR_9
   replace BA := hX_4.blk BA ne_3
   replace BR := hX_4.blk BR ne_2
   have HB_8 := hX_4.below HBL HBL.size (fun k hk => hk ▸ ge_3)
   clear BG
   iterate 3 refine e1 ?_
   refine q_v 27 (.int .u64 ((((ripK l9 K).2 + (ripK l9 K).1.getD (K) 0) / 256 : Nat) : Int)) (o_eq (o_shr (m := (((ripK l9 K).2) + (((ripK l9 K).1).getD (K) 0))) (n := 8) rfl ev rfl (by decide)) rfl) ?_
   iterate 4 refine e1 ?_
   refine q_w (o_add64 (n := 1) rfl ev rfl (by omega)) ?_
   refine e1 ?_
   refine x_nil ?_
   refine hK_9 _ _ _ ⟨K + 1, rfl, (psz hs_1), (pdf hd_1), ev, ev, ev, ev, ev, (by omega), BA, BR, hB_7, HB_8⟩ ?_
   omega
  ·simp only [DD9] at h_1
   obtain rfl : K = 17 := by omega
   iterate 7 refine e1 ?_
   rw [hl9, five_rip hV] at BG
   have hg16 := dgP_le (V + 5) 16
   refine e1 ?_
   refine q_v _ (.pointer (some ⟨g_3, 16, none⟩)) (zero_off (o_ixA (k := 0) (i := 16) (n := 17) (e := 38) rfl ev rfl (by omega) (fun _ => by kernel_rfl) (fun _ => by kernel_rfl))) ?_
   refine q_w (o_loadW rfl ev BG (by rw [(dgP_length _)]; omega) rfl ⟨by kernel_rfl, by kernel_rfl⟩) ?_
   refine q_w (o_geq (n := 4) rfl ev rfl) ?_
   refine e1 ?_
   refine w2_split (pe hs_1 rfl rfl) (fun h_2 => ?_) (fun h_2 => ?_)
   ·simp only [DD9] at h_2
    have hbig := whole_big hV h_2
    iterate 2 refine e1 ?_
    refine q_v _ (.pointer (some ⟨g_3, 16, none⟩)) (zero_off (o_ixA (k := 0) (i := 16) (n := 17) (e := 38) rfl ev rfl (by omega) (fun _ => by kernel_rfl) (fun _ => by kernel_rfl))) ?_
    refine q_w (o_loadW rfl ev BG (by rw [(dgP_length _)]; omega) rfl ⟨by kernel_rfl, by kernel_rfl⟩) ?_
    refine q_v 34 (.int .u64 (((dgP (V + 5)).getD (16) 0 % 4 : Nat) : Int)) (o_eq (o_bits (m := ((dgP (V + 5)).getD (16) 0)) (n := 3) (((dgP (V + 5)).getD (16) 0) &&& 3) rfl ev rfl (by decide) (u64_and_nat _ _ (by omega) (by omega))) (by rw [and_m4])) ?_
    refine q_v _ (.pointer (some ⟨g_3, 16, none⟩)) (zero_off (o_ixA (k := 0) (i := 16) (n := 17) (e := 38) rfl ev rfl (by omega) (fun _ => by kernel_rfl) (fun _ => by kernel_rfl))) ?_
    refine q_d (o_storeW rfl ev ev BG (by rw [(dgP_length _)]; omega) ⟨by kernel_rfl, by kernel_rfl⟩) (fun w_11 hR_10 => ?_)
    obtain ⟨hB_8, hX_5⟩ := hR_10
    replace BA := hX_5.blk BA ne_3
    replace BR := hX_5.blk BR ne_2
    have HB_9 := hX_5.below HBL HBL.size (fun k hk => hk ▸ ge_3)
    clear BG
    iterate 2 refine e1 ?_
    rw [hbig] at hB_8
    refine e1 ?_
    refine q_w (o_loadI rfl ev hB_8 (by rw [dgP_length]; exact ⟨by kernel_rfl, by kernel_rfl⟩)) ?_
    refine q_d (o_storeI rfl ev ev BR (by rw [(dgP_length _)]; exact ⟨by kernel_rfl, by kernel_rfl⟩) (by rw [dgP_length]; simp [iws])) (fun w_12 hR_11 => ?_)
    obtain ⟨hB_9, hX_6⟩ := hR_11
    replace BA := hX_6.blk BA ne_1
    have HB_10 := hX_6.below HB_9 HB_9.size (fun k hk => hk ▸ ge_2)
    clear BR
    iterate 3 refine e1 ?_
    refine retC rfl hd_1 ((pm rfl).trans ta_1_2) (loadI hB_9 (by rw [(dgP_length _)]; exact ⟨by kernel_rfl, by kernel_rfl⟩)) ?_
    exact ⟨rfl, HB_10⟩
   ·simp only [DD9] at h_2
    have hsm := whole_small hV (by have h9 := h_2; omega)
    iterate 4 refine e1 ?_
    refine q_w (o_loadI rfl ev BA (by rw [dgP_length]; exact ⟨by kernel_rfl, by kernel_rfl⟩)) ?_
    refine q_d (o_storeI rfl ev ev BR (by rw [(dgP_length _)]; exact ⟨by kernel_rfl, by kernel_rfl⟩) (by rw [dgP_length]; simp [iws])) (fun w_13 hR_12 => ?_)
    obtain ⟨hB_10, hX_7⟩ := hR_12
    replace BA := hX_7.blk BA ne_1
    replace BG := hX_7.blk BG (Ne.symm ne_2)
    have HB_11 := hX_7.below HBL HBL.size (fun k hk => hk ▸ ge_2)
    clear BR
    iterate 2 refine e1 ?_
    refine retC rfl hd_1 ((pm rfl).trans ta_1_2) (loadI hB_10 (by rw [(dgP_length _)]; exact ⟨by kernel_rfl, by kernel_rfl⟩)) ?_
    exact ⟨by rw [hsm], HB_11⟩
theorem chunk_min (hq : bs.length = q) (K : Nat) : (bs.drop (16 * K)).take (min (16 * K + 16) q - 16 * K) = chunkL bs 16 K := by
 unfold chunkL
 by_cases h : 16 * K + 16 ≤ q
 ·rw [Nat.min_eq_left h, Nat.add_sub_cancel_left]
 ·rw [List.take_of_length_le (by rw [List.length_drop]; omega), List.take_of_length_le (by rw [List.length_drop]; omega)]
theorem TagW_any {A B : Option Addr} {c d m : Nat} {ks : List Nat} (w : World) (ha : Bs w A c ks) (hb : Bs w B d bs) (hm : ks.length = m) (hq : bs.length = q) (hm32 : m = 32) (hl : q ≤ 70368744177664) :
  Calls Tryz.prog 65 #[.slice A (m) (c), .slice B (q) (d)] w fun e w' => ∃ A c, e = .returned (.tuple #[.slice A 16 c, .int .i64 0]) ∧ Own w' w.heap.size A c (tagL ks bs) ∧ Below w.heap.size w w' := by
 have hk255 : ∀ j, ks.getD j 0 ≤ 255 := fun j => Nat.le_of_lt_succ (getD_byte ha.b8 j)
 refine x_enter 119 Tryz.func65 rfl rfl (fun a hs hd ha0 => ?_)
 have t0 := tA 0 ha0
 have t1 := tA 1 ha0
 clear ha0
 iterate 3 refine e1 ?_
 refine q_as (.int .i64 ((0 : Nat) : Int)) rfl ?_
 iterate 5 refine e1 ?_
 refine q_w (o_len rfl ev) ?_
 refine q_v 22 (.bool (false)) (o_eq (o_neq (m := m) (n := 32) rfl ev rfl) (by rw [decide_eq_true hm32]; rfl)) ?_
 iterate 6 refine e1 ?_
 refine q_x (o_alloc (zs := (iws .u64 (List.replicate 17 0)).toArray) rfl (fun _ => by kernel_rfl)) (fun v_1 w_1 hR_1 => ?_)
 obtain ⟨g_1, rfl, hle_1, hB_1, hb_1⟩ := hR_1
 have ge_1 : w.heap.size ≤ g_1 := hle_1
 refine q_x (o_alloc (zs := (iws .u64 (List.replicate 17 0)).toArray) rfl (fun _ => by kernel_rfl)) (fun v_2 w_2 hR_2 => ?_)
 obtain ⟨g_2, rfl, hle_2, hB_2, hb_2⟩ := hR_2
 have ne_1 : g_1 ≠ g_2 := Nat.ne_of_lt (Nat.lt_of_lt_of_le hB_1.lt hle_2)
 have ge_2 : w.heap.size ≤ g_2 := Nat.le_trans hb_1.size hle_2
 replace hB_1 := hB_1.nx hb_2
 have HB_1 := below_from hb_1 hb_2
 iterate 4 refine e1 ?_
 refine q_v 23 (.int .i64 ((0 : Nat) : Int)) (o_move rfl rfl) ?_
 iterate 2 refine e1 ?_
 refine x_loop (fun nn aa ww => ∃ (K : Nat), nn = 16 - K ∧ aa.tmps.size = 119 ∧ aa.defers = [] ∧ aa.eval (.tmp 0) = .slice A (m) (c) ∧ aa.eval (.tmp 1) = .slice B (q) (d) ∧ aa.eval (.tmp 6) = .pointer (some ⟨g_1, 0, none⟩) ∧ aa.eval (.tmp 7) = .pointer (some ⟨g_2, 0, none⟩) ∧ aa.eval (.tmp 23) = .int .i64 ((K : Nat) : Int) ∧ K ≤ 16 ∧ Blk ww g_1 (iws .u64 (rK ks K)).toArray 124 ∧ Blk ww g_2 (iws .u64 (List.replicate 17 0)).toArray 124 ∧ Below w.heap.size w ww) (16) ?_ ?_
 ·exact ⟨0, rfl, (psz hs), (pdf hd), ev, ev, ev, ev, ev, by omega, hB_1, hB_2, HB_1⟩
 ·skip
  rintro nna_1 a_1 w_3 ⟨K, hm_1, hs_1, hd_1, ta_1_0, ta_1_1, ta_1_6, ta_1_7, ta_1_23, hK, BA, BH, HBL⟩ K_8 hK_8
  subst hm_1
  have hkl := rK_length ks K
  have hkb := hk255 K
  iterate 2 refine e1 ?_
  refine q_w (o_lss (n := 16) rfl ev rfl) ?_
  iterate 2 refine e1 ?_
  refine w2_split (pe hs_1 rfl rfl) (fun h_1 => ?_) (fun h_1 => ?_)
  ·simp only [DD9] at h_1
   iterate 13 refine e1 ?_
   refine q_v 29 (.pointer (atA A (K))) (o_ix (k := K) rfl ev ev (by omega) ((ha.below HBL).some (by rw [hm]; omega))) ?_
   refine q_v 30 (.int .u8 ((ks.getD (K) 0 : Nat) : Int)) (o_ld8 rfl ev (ha.below HBL) (by rw [hm]; omega) rfl) ?_
   refine q_w (o_conv (r := ks.getD (K) 0) rfl ev ⟨.int .u8, fun _ => by kernel_rfl⟩ (fun _ => by kernel_rfl) (by rw [IntKind.wrap_u64]; omega)) ?_
   refine q_v _ (.pointer (some ⟨g_1, K, none⟩)) (zero_off (o_ixA (k := 0) (i := K) (n := 17) (e := 38) rfl ev ev (by omega) (fun _ => by kernel_rfl) (fun _ => by kernel_rfl))) ?_
   refine q_d (o_storeW rfl ev ev BA (by rw [hkl]; omega) ⟨by kernel_rfl, by kernel_rfl⟩) (fun w_4 hR_3 => ?_)
   obtain ⟨hB_3, hX_1⟩ := hR_3
   replace BH := hX_1.blk BH (Ne.symm ne_1)
   have HB_2 := hX_1.below HBL HBL.size (fun k hk => hk ▸ ge_1)
   clear BA
   iterate 3 refine e1 ?_
   refine q_w (o_add64 (n := 1) rfl ev rfl (by omega)) ?_
   refine e1 ?_
   refine x_nil ?_
   refine hK_8 _ _ _ ⟨K + 1, rfl, (psz hs_1), (pdf hd_1), ev, ev, ev, ev, ev, (by omega), hB_3, BH, HB_2⟩ ?_
   omega
  ·simp only [DD9] at h_1
   obtain rfl : K = 16 := by omega
   iterate 8 refine e1 ?_
   refine q_v 34 (.agg (iws .i64 ([3, 7, 11, 15])).toArray) (o_bld (vs := #[(0, .int .i64 ((3 : Nat) : Int)), (1, .int .i64 ((7 : Nat) : Int)), (2, .int .i64 ((11 : Nat) : Int)), (3, .int .i64 ((15 : Nat) : Int))]) rfl (bld4 rfl rfl rfl rfl) (fun _ => by kernel_rfl)) ?_
   refine q_v 35 (.int .i64 ((0 : Nat) : Int)) (o_move rfl rfl) ?_
   iterate 2 refine e1 ?_
   refine x_loop (fun nn aa ww => ∃ (K : Nat), nn = 4 - K ∧ aa.tmps.size = 119 ∧ aa.defers = [] ∧ aa.eval (.tmp 0) = .slice A (m) (c) ∧ aa.eval (.tmp 1) = .slice B (q) (d) ∧ aa.eval (.tmp 6) = .pointer (some ⟨g_1, 0, none⟩) ∧ aa.eval (.tmp 7) = .pointer (some ⟨g_2, 0, none⟩) ∧ aa.eval (.tmp 34) = .agg (iws .i64 ([3, 7, 11, 15])).toArray ∧ aa.eval (.tmp 35) = .int .i64 ((K : Nat) : Int) ∧ K ≤ 4 ∧ Blk ww g_1 (iws .u64 (cl1 (rK ks 16) K)).toArray 124 ∧ Blk ww g_2 (iws .u64 (List.replicate 17 0)).toArray 124 ∧ Below w.heap.size w ww) (4) ?_ ?_
   ·exact ⟨0, rfl, (psz hs_1), (pdf hd_1), ev, ev, ev, ev, ev, ev, by omega, BA, BH, HBL⟩
   ·skip
    clear ta_1_0 ta_1_1 ta_1_6 ta_1_7 ta_1_23 hd_1 BA BH HBL
    rintro nna_2 a_2 w_5 ⟨K, hm_2, hs_2, hd_2, ta_2_0, ta_2_1, ta_2_6, ta_2_7, ta_2_34, ta_2_35, hK, BA, BH, HBL⟩ K_17 hK_17
    subst hm_2
    have hkl := (cl1_length (rK ks 16) K).trans (rK_length ks 16)
    have hkb := cl1_le (rK_le hk255 16) K (4 * K + 3)
    iterate 2 refine e1 ?_
    refine q_w (o_lss (n := 4) rfl ev rfl) ?_
    iterate 2 refine e1 ?_
    refine w2_split (pe hs_2 rfl rfl) (fun h_2 => ?_) (fun h_2 => ?_)
    ·simp only [DD9] at h_2
     iterate 6 refine e1 ?_
     refine q_v 37 (.int .i64 ((4 * K + 3 : Nat) : Int)) (o_eq (o_idx (n := 4) (e := 3) rfl ev ev (by omega) (by rfl) rfl (fun _ => by kernel_rfl) ⟨by kernel_rfl, by kernel_rfl⟩) (congrArg (fun z : Nat => Value.int .i64 (z : Int)) (by rcases (show K = 0 ∨ K = 1 ∨ K = 2 ∨ K = 3 by omega) with rfl | rfl | rfl | rfl <;> rfl))) ?_
     iterate 4 refine e1 ?_
     refine q_v _ (.pointer (some ⟨g_1, 4 * K + 3, none⟩)) (zero_off (o_ixA (k := 0) (i := 4 * K + 3) (n := 17) (e := 38) rfl ev ev (by omega) (fun _ => by kernel_rfl) (fun _ => by kernel_rfl))) ?_
     refine q_w (o_loadW rfl ev BA (by rw [hkl]; omega) rfl ⟨by kernel_rfl, by kernel_rfl⟩) ?_
     refine q_w (o_bits (n := 15) (((cl1 (rK ks 16) K).getD (4 * K + 3) 0) &&& 15) rfl ev rfl (by decide) (u64_and_nat _ _ (by omega) (by omega))) ?_
     refine q_v _ (.pointer (some ⟨g_1, 4 * K + 3, none⟩)) (zero_off (o_ixA (k := 0) (i := 4 * K + 3) (n := 17) (e := 38) rfl ev ev (by omega) (fun _ => by kernel_rfl) (fun _ => by kernel_rfl))) ?_
     refine q_d (o_storeW rfl ev ev BA (by rw [hkl]; omega) ⟨by kernel_rfl, by kernel_rfl⟩) (fun w_6 hR_4 => ?_)
     obtain ⟨hB_4, hX_2⟩ := hR_4
     replace BH := hX_2.blk BH (Ne.symm ne_1)
     have HB_3 := hX_2.below HBL HBL.size (fun k hk => hk ▸ ge_1)
     clear BA
     iterate 3 refine e1 ?_
     refine q_w (o_add64 (n := 1) rfl ev rfl (by omega)) ?_
     refine e1 ?_
     refine x_nil ?_
     refine hK_17 _ _ _ ⟨K + 1, rfl, (psz hs_2), (pdf hd_2), ev, ev, ev, ev, ev, ev, (by omega), hB_4, BH, HB_3⟩ ?_
     omega
    ·simp only [DD9] at h_2
     obtain rfl : K = 4 := by omega
     iterate 8 refine e1 ?_
     refine q_v 44 (.agg (iws .i64 ([4, 8, 12])).toArray) (o_bld (vs := #[(0, .int .i64 ((4 : Nat) : Int)), (1, .int .i64 ((8 : Nat) : Int)), (2, .int .i64 ((12 : Nat) : Int))]) rfl (bld3 rfl rfl rfl) (fun _ => by kernel_rfl)) ?_
     refine q_v 45 (.int .i64 ((0 : Nat) : Int)) (o_move rfl rfl) ?_
     iterate 2 refine e1 ?_
     refine x_loop (fun nn aa ww => ∃ (K : Nat), nn = 3 - K ∧ aa.tmps.size = 119 ∧ aa.defers = [] ∧ aa.eval (.tmp 0) = .slice A (m) (c) ∧ aa.eval (.tmp 1) = .slice B (q) (d) ∧ aa.eval (.tmp 6) = .pointer (some ⟨g_1, 0, none⟩) ∧ aa.eval (.tmp 7) = .pointer (some ⟨g_2, 0, none⟩) ∧ aa.eval (.tmp 44) = .agg (iws .i64 ([4, 8, 12])).toArray ∧ aa.eval (.tmp 45) = .int .i64 ((K : Nat) : Int) ∧ K ≤ 3 ∧ Blk ww g_1 (iws .u64 (cl2 (cl1 (rK ks 16) 4) K)).toArray 124 ∧ Blk ww g_2 (iws .u64 (List.replicate 17 0)).toArray 124 ∧ Below w.heap.size w ww) (3) ?_ ?_
     ·exact ⟨0, rfl, (psz hs_2), (pdf hd_2), ev, ev, ev, ev, ev, ev, by omega, BA, BH, HBL⟩
     ·skip
      clear ta_2_0 ta_2_1 ta_2_6 ta_2_7 ta_2_34 ta_2_35 hd_2 BA BH HBL
      rintro nna_3 a_3 w_7 ⟨K, hm_3, hs_3, hd_3, ta_3_0, ta_3_1, ta_3_6, ta_3_7, ta_3_44, ta_3_45, hK, BA, BH, HBL⟩ K_26 hK_26
      subst hm_3
      have hkl := (cl2_length _ K).trans ((cl1_length (rK ks 16) 4).trans (rK_length ks 16))
      have hkb := cl2_le (cl1_le (rK_le hk255 16) 4) K (4 * K + 4)
      iterate 2 refine e1 ?_
      refine q_w (o_lss (n := 3) rfl ev rfl) ?_
      iterate 2 refine e1 ?_
      refine w2_split (pe hs_3 rfl rfl) (fun h_3 => ?_) (fun h_3 => ?_)
      ·simp only [DD9] at h_3
       iterate 6 refine e1 ?_
       refine q_v 47 (.int .i64 ((4 * K + 4 : Nat) : Int)) (o_eq (o_idx (n := 3) (e := 3) rfl ev ev (by omega) (by rfl) rfl (fun _ => by kernel_rfl) ⟨by kernel_rfl, by kernel_rfl⟩) (congrArg (fun z : Nat => Value.int .i64 (z : Int)) (by rcases (show K = 0 ∨ K = 1 ∨ K = 2 by omega) with rfl | rfl | rfl <;> rfl))) ?_
       iterate 4 refine e1 ?_
       refine q_v _ (.pointer (some ⟨g_1, 4 * K + 4, none⟩)) (zero_off (o_ixA (k := 0) (i := 4 * K + 4) (n := 17) (e := 38) rfl ev ev (by omega) (fun _ => by kernel_rfl) (fun _ => by kernel_rfl))) ?_
       refine q_w (o_loadW rfl ev BA (by rw [hkl]; omega) rfl ⟨by kernel_rfl, by kernel_rfl⟩) ?_
       refine q_w (o_bits (n := 252) (((cl2 (cl1 (rK ks 16) 4) K).getD (4 * K + 4) 0) &&& 252) rfl ev rfl (by decide) (u64_and_nat _ _ (by omega) (by omega))) ?_
       refine q_v _ (.pointer (some ⟨g_1, 4 * K + 4, none⟩)) (zero_off (o_ixA (k := 0) (i := 4 * K + 4) (n := 17) (e := 38) rfl ev ev (by omega) (fun _ => by kernel_rfl) (fun _ => by kernel_rfl))) ?_
       refine q_d (o_storeW rfl ev ev BA (by rw [hkl]; omega) ⟨by kernel_rfl, by kernel_rfl⟩) (fun w_8 hR_5 => ?_)
       obtain ⟨hB_5, hX_3⟩ := hR_5
       replace BH := hX_3.blk BH (Ne.symm ne_1)
       have HB_4 := hX_3.below HBL HBL.size (fun k hk => hk ▸ ge_1)
       clear BA
       iterate 3 refine e1 ?_
       refine q_w (o_add64 (n := 1) rfl ev rfl (by omega)) ?_
       refine e1 ?_
       refine x_nil ?_
       refine hK_26 _ _ _ ⟨K + 1, rfl, (psz hs_3), (pdf hd_3), ev, ev, ev, ev, ev, ev, (by omega), hB_5, BH, HB_4⟩ ?_
       omega
      ·simp only [DD9] at h_3
       obtain rfl : K = 3 := by omega
       iterate 8 refine e1 ?_
       refine q_as (.int .i64 ((0 : Nat) : Int)) rfl ?_
       refine x_nil ?_
       replace BA : Blk w_7 g_1 (iws .u64 (rP ks)).toArray 124 := BA
       replace BH : Blk w_7 g_2 (iws .u64 (dgP (stP ks bs 0))).toArray 124 := by (rw [show dgP (stP ks bs 0) = List.replicate 17 0 from (show dgP 0 = _ by decide)]; exact BH)
       iterate 2 refine e1 ?_
       refine x_loop (fun nn aa ww => ∃ (K : Nat), nn = q - 16 * K ∧ aa.tmps.size = 119 ∧ aa.defers = [] ∧ aa.eval (.tmp 0) = .slice A (m) (c) ∧ aa.eval (.tmp 1) = .slice B (q) (d) ∧ aa.eval (.tmp 6) = .pointer (some ⟨g_1, 0, none⟩) ∧ aa.eval (.tmp 7) = .pointer (some ⟨g_2, 0, none⟩) ∧ aa.eval (.tmp 13) = .int .i64 ((16 * K : Nat) : Int) ∧ K ≤ (q + 16 - 1) / 16 ∧ Blk ww g_1 (iws .u64 (rP ks)).toArray 124 ∧ Blk ww g_2 (iws .u64 (dgP (stP ks bs K))).toArray 124 ∧ Below w.heap.size w ww) (q) ?_ ?_
       ·exact ⟨0, rfl, (psz hs_3), (pdf hd_3), ev, ev, ev, ev, ev, Nat.zero_le _, BA, BH, HBL⟩
       ·skip
        clear ta_3_0 ta_3_1 ta_3_6 ta_3_7 ta_3_44 ta_3_45 hd_3 BA BH HBL
        rintro nna_4 a_4 w_9 ⟨K, hm_4, hs_4, hd_4, ta_4_0, ta_4_1, ta_4_6, ta_4_7, ta_4_13, hK, BA, BH, HBL⟩ K_35 hK_35
        subst hm_4
        iterate 5 refine e1 ?_
        refine q_w (o_len rfl ev) ?_
        refine q_w (o_lss rfl ev ev) ?_
        refine e1 ?_
        refine w2_split (pe hs_4 rfl rfl) (fun h_4 => ?_) (fun h_4 => ?_)
        ·simp only [DD9] at h_4
         have hKq : 16 * K < q := h_4
         have hbl := hb.le
         iterate 5 refine e1 ?_
         have hsb := hb.sub (l := 16 * K) (q := min (16 * K + 16) q) (m := d) (by omega) (by omega) (Nat.le_refl _)
         rw [chunk_min hq K] at hsb
         have hcl : (chunkL bs 16 K).length = min (16 * K + 16) q - 16 * K := by rw [chunkL_length, hq]; omega
         iterate 4 refine e1 ?_
         refine q_w (o_add64 (n := 16) rfl ev rfl (by omega)) ?_
         refine e1 ?_
         refine q_w (o_len rfl ev) ?_
         refine q_v 66 (.int .i64 ((min ((16 * K) + 16) q : Nat) : Int)) (o_min rfl ev ev) ?_
         refine q_w (o_slice2 (l := 16 * K) (h := min ((16 * K) + 16) q) rfl ev ev ev (by omega) (by omega)) ?_
         iterate 6 refine e1 ?_
         refine q_w (o_len rfl ev) ?_
         refine q_v 70 (.int .i64 ((0 : Nat) : Int)) (o_move rfl rfl) ?_
         refine x_nil ?_
         have hn16 : min (16 * K + 16) q - 16 * K ≤ 16 := by omega
         iterate 2 refine e1 ?_
         refine x_loop (fun nn aa ww => ∃ (J : Nat), nn = min (16 * K + 16) q - 16 * K - J ∧ aa.tmps.size = 119 ∧ aa.defers = [] ∧ aa.eval (.tmp 0) = .slice A (m) (c) ∧ aa.eval (.tmp 1) = .slice B (q) (d) ∧ aa.eval (.tmp 6) = .pointer (some ⟨g_1, 0, none⟩) ∧ aa.eval (.tmp 7) = .pointer (some ⟨g_2, 0, none⟩) ∧ aa.eval (.tmp 13) = .int .i64 ((16 * K : Nat) : Int) ∧ aa.eval (.tmp 14) = .slice ((subA B (16 * K) d)) ((min ((16 * K) + 16) q) - (16 * K)) (d - (16 * K)) ∧ aa.eval (.tmp 68) = .slice ((subA B (16 * K) d)) ((min ((16 * K) + 16) q) - (16 * K)) (d - (16 * K)) ∧ aa.eval (.tmp 69) = .int .i64 (((min ((16 * K) + 16) q) - (16 * K) : Nat) : Int) ∧ aa.eval (.tmp 70) = .int .i64 ((J : Nat) : Int) ∧ J ≤ min (16 * K + 16) q - 16 * K ∧ Blk ww g_1 (iws .u64 (rP ks)).toArray 124 ∧ Blk ww g_2 (iws .u64 (addP (dgP (stP ks bs K)) (chunkL bs 16 K) J)).toArray 124 ∧ Below w.heap.size w ww) (min (16 * K + 16) q - 16 * K) ?_ ?_
         ·exact ⟨0, rfl, (psz hs_4), (pdf hd_4), ev, ev, ev, ev, ev, ev, ev, ev, ev, Nat.zero_le _, BA, BH, HBL⟩
         ·skip
          clear ta_4_0 ta_4_1 ta_4_6 ta_4_7 ta_4_13 hd_4 BA BH HBL
          rintro nna_5 a_5 w_10 ⟨J, hm_5, hs_5, hd_5, ta_5_0, ta_5_1, ta_5_6, ta_5_7, ta_5_13, ta_5_14, ta_5_68, ta_5_69, ta_5_70, hJ, BA, BH, HBL⟩ K_44 hK_44
          subst hm_5
          have hal : (addP (dgP (stP ks bs K)) (chunkL bs 16 K) J).length = 17 := (addP_length _ _ J).trans (dgP_length _)
          have hx255 : ∀ j, (chunkL bs 16 K).getD j 0 ≤ 255 := fun j => Nat.le_of_lt_succ (getD_byte (chunkL_lt hb.b8 16 K) j)
          have hab := addP_le (dgP_le (stP ks bs K)) hx255 J J
          have hxb := hx255 J
          iterate 2 refine e1 ?_
          refine q_w (o_lss rfl ev ev) ?_
          iterate 2 refine e1 ?_
          refine w2_split (pe hs_5 rfl rfl) (fun h_5 => ?_) (fun h_5 => ?_)
          ·simp only [DD9] at h_5
           iterate 7 refine e1 ?_
           refine q_v 73 (.pointer (atA ((subA B (16 * K) d)) (J))) (o_ix (k := J) rfl ev ev (by omega) ((hsb.below HBL).some (by rw [hcl]; omega))) ?_
           refine q_v 74 (.int .u8 (((chunkL bs 16 K).getD (J) 0 : Nat) : Int)) (o_ld8 rfl ev (hsb.below HBL) (by rw [hcl]; omega) rfl) ?_
           iterate 5 refine e1 ?_
           refine q_v _ (.pointer (some ⟨g_2, J, none⟩)) (zero_off (o_ixA (k := 0) (i := J) (n := 17) (e := 38) rfl ev ev (by omega) (fun _ => by kernel_rfl) (fun _ => by kernel_rfl))) ?_
           refine q_w (o_loadW rfl ev BH (by rw [hal]; omega) rfl ⟨by kernel_rfl, by kernel_rfl⟩) ?_
           refine e1 ?_
           refine q_w (o_conv (r := (chunkL bs 16 K).getD (J) 0) rfl ev ⟨.int .u8, fun _ => by kernel_rfl⟩ (fun _ => by kernel_rfl) (by rw [IntKind.wrap_u64]; omega)) ?_
           refine q_w (o_addU (((addP (dgP (stP ks bs K)) (chunkL bs 16 K) J).getD (J) 0) + ((chunkL bs 16 K).getD (J) 0)) rfl ev ev (by rw [IntKind.wrap_u64]; omega)) ?_
           refine q_v _ (.pointer (some ⟨g_2, J, none⟩)) (zero_off (o_ixA (k := 0) (i := J) (n := 17) (e := 38) rfl ev ev (by omega) (fun _ => by kernel_rfl) (fun _ => by kernel_rfl))) ?_
           refine q_d (o_storeW rfl ev ev BH (by rw [hal]; omega) ⟨by kernel_rfl, by kernel_rfl⟩) (fun w_11 hR_6 => ?_)
           obtain ⟨hB_6, hX_4⟩ := hR_6
           replace BA := hX_4.blk BA ne_1
           have HB_5 := hX_4.below HBL HBL.size (fun k hk => hk ▸ ge_2)
           clear BH
           iterate 3 refine e1 ?_
           refine q_w (o_add64 (n := 1) rfl ev rfl (by omega)) ?_
           refine e1 ?_
           refine x_nil ?_
           refine hK_44 _ _ _ ⟨J + 1, rfl, (psz hs_5), (pdf hd_5), ev, ev, ev, ev, ev, ev, ev, ev, ev, (by omega), BA, hB_6, HB_5⟩ ?_
           omega
          ·simp only [DD9] at h_5
           obtain rfl : J = min (16 * K + 16) q - 16 * K := by omega
           iterate 8 refine e1 ?_
           refine q_w (o_len rfl ev) ?_
           refine q_v _ (.pointer (some ⟨g_2, (min ((16 * K) + 16) q) - (16 * K), none⟩)) (zero_off (o_ixA (k := 0) (i := (min ((16 * K) + 16) q) - (16 * K)) (n := 17) (e := 38) rfl ev ev (by omega) (fun _ => by kernel_rfl) (fun _ => by kernel_rfl))) ?_
           refine q_w (o_loadW rfl ev BH (by rw [hal]; omega) rfl ⟨by kernel_rfl, by kernel_rfl⟩) ?_
           refine q_w (o_addU (n := 1) (((addP (dgP (stP ks bs K)) (chunkL bs 16 K) (min (16 * K + 16) q - 16 * K)).getD ((min ((16 * K) + 16) q) - (16 * K)) 0) + 1) rfl ev rfl (by rw [IntKind.wrap_u64]; omega)) ?_
           refine q_v _ (.pointer (some ⟨g_2, (min ((16 * K) + 16) q) - (16 * K), none⟩)) (zero_off (o_ixA (k := 0) (i := (min ((16 * K) + 16) q) - (16 * K)) (n := 17) (e := 38) rfl ev ev (by omega) (fun _ => by kernel_rfl) (fun _ => by kernel_rfl))) ?_
           refine q_d (o_storeW rfl ev ev BH (by rw [hal]; omega) ⟨by kernel_rfl, by kernel_rfl⟩) (fun w_12 hR_7 => ?_)
           obtain ⟨hB_7, hX_5⟩ := hR_7
           replace BA := hX_5.blk BA ne_1
           have HB_6 := hX_5.below HBL HBL.size (fun k hk => hk ▸ ge_2)
           clear BH
           refine e1 ?_
           obtain ⟨p9, hp9⟩ : ∃ z, z = pieP (dgP (stP ks bs K)) (chunkL bs 16 K) := ⟨_, rfl⟩
           have hl9 : p9.length = 17 := by rw [hp9, pieP_length, dgP_length]
           have hM9 : ∀ j, p9.getD j 0 ≤ 255 * 4294967296 := by intro j; rw [hp9]; exact pieP_le (dgP_le _) hx255 j
           replace hB_7 : Blk w_12 g_2 (iws .u64 p9).toArray 124 := by (rw [hp9]; unfold pieP; rw [hcl]; exact hB_7)
           refine y_drawn 3 [iV (.agg (iws .u64 (p9)).toArray), iV (.agg (iws .u64 (dgP (car2 (valB 256 p9)))).toArray), iV (.agg (iws .u64 (rP ks)).toArray)] [89, 90, 91] hs_5 hd_5 ⟨(step_ok rfl fun a' w' hb' hO hD => oV (o_loadI rfl ed (hB_7.nx hb') (by rw [hl9]; exact ⟨by kernel_rfl, by kernel_rfl⟩)) rfl), (step_ok rfl fun a' w' hb' hO hD => oC (vs := #[.agg (iws .u64 (p9)).toArray]) Tryz.func107 rfl (args1 ed) (Calls.mono (carryW_any _ hl9 hM9) (fun e w'' hR => by obtain ⟨rfl, hb_3⟩ := hR; exact ⟨_, rfl, rfl, hb_3⟩))), (step_ok rfl fun a' w' hb' hO hD => oV (o_loadI rfl ed (BA.nx hb') (by rw [rP_length]; exact ⟨by kernel_rfl, by kernel_rfl⟩)) rfl), trivial⟩ (fun a_6 w_13 hs_6 hd_6 hb_4 hO_1 hV_1 => ?_)
           have ta_6_0 := fK 0 hO_1
           have ta_6_1 := fK 1 hO_1
           have ta_6_6 := fK 6 hO_1
           have ta_6_7 := fK 7 hO_1
           have ta_6_13 := fK 13 hO_1
           obtain ⟨BA, hB_7⟩ := nx2 hb_4 BA hB_7
           have HB_7 := below_from HB_6 hb_4
           have ta_6_90 := fV 90 hV_1
           have ta_6_91 := fV 91 hV_1
           simp only [List.drop_succ_cons, List.drop_zero]
           refine e1 ?_
           refine k_c Tryz.func106 (timesW_any _ (dgP_length _) (rP_length ks) (dgP_le _) (rP_le hk255)) ?_
           rintro e_1 w_14 ⟨rfl, hb_6⟩
           obtain ⟨BA, hB_7⟩ := nx2 hb_6 BA hB_7
           have HB_8 := below_from HB_7 hb_6
           refine ⟨_, rfl, ?_⟩
           refine q_d (o_storeI rfl ev ev hB_7 (by rw [(dgP_length _)]; exact ⟨by kernel_rfl, by kernel_rfl⟩) (by simp [iws, dgP_length, hl9])) (fun w_15 hR_9 => ?_)
           obtain ⟨hB_8, hX_6⟩ := hR_9
           replace BA := hX_6.blk BA ne_1
           have HB_9 := hX_6.below HB_8 HB_8.size (fun k hk => hk ▸ ge_2)
           refine x_nil ?_
           replace hB_8 : Blk w_15 g_2 (iws .u64 (dgP (stP ks bs (K + 1)))).toArray 124 := by (rw [stP, stepP, ← hp9]; exact hB_8)
           iterate 4 refine e1 ?_
           refine q_v 59 (.int .i64 ((16 * (K + 1) : Nat) : Int)) (o_eq (o_add64 (m := (16 * K)) (n := 16) rfl ev rfl (by omega)) (congrArg (fun z : Nat => Value.int .i64 (z : Int)) (by omega))) ?_
           refine e1 ?_
           refine x_nil ?_
           refine hK_35 _ _ _ ⟨K + 1, rfl, (psz hs_6), (pdf hd_6), ev, ev, ev, ev, ev, (by omega), BA, hB_8, HB_9⟩ ?_
           omega
        ·simp only [DD9] at h_4
         obtain rfl : K = (q + 16 - 1) / 16 := by omega
         iterate 7 refine e1 ?_
         refine q_w (o_loadI rfl ev BH (by rw [dgP_length]; exact ⟨by kernel_rfl, by kernel_rfl⟩)) ?_
         refine e1 ?_
         refine k_c Tryz.func108 (wholeW_any _ (stP_lt ha.b8 bs _)) ?_
         rintro e_2 w_16 ⟨rfl, hb_8⟩
         obtain ⟨BA, BH⟩ := nx2 hb_8 BA BH
         have HB_10 := below_from HBL hb_8
         refine ⟨_, rfl, ?_⟩
         refine q_d (o_storeI rfl ev ev BH (by rw [(dgP_length _)]; exact ⟨by kernel_rfl, by kernel_rfl⟩) (by simp [iws, dgP_length])) (fun w_17 hR_11 => ?_)
         obtain ⟨hB_9, hX_7⟩ := hR_11
         replace BA := hX_7.blk BA ne_1
         have HB_11 := hX_7.below HB_10 HB_10.size (fun k hk => hk ▸ ge_2)
         clear BH
         iterate 2 refine e1 ?_
         obtain ⟨T9, hT9⟩ : ∃ z, z = (stP ks bs ((q + 16 - 1) / 16) % 1361129467683753853853498429727072845819) := ⟨_, rfl⟩
         rw [← hT9] at hB_9
         refine e1 ?_
         refine q_as (.int .u64 ((0 : Nat) : Int)) rfl ?_
         iterate 8 refine e1 ?_
         refine q_v 95 (.int .i64 ((0 : Nat) : Int)) (o_move rfl rfl) ?_
         iterate 2 refine e1 ?_
         refine x_loop (fun nn aa ww => ∃ (K : Nat) (A1 : Option Addr) (c1 : Nat), nn = 16 - K ∧ aa.tmps.size = 119 ∧ aa.defers = [] ∧ aa.eval (.tmp 0) = .slice A (m) (c) ∧ aa.eval (.tmp 7) = .pointer (some ⟨g_2, 0, none⟩) ∧ aa.eval (.tmp 17) = .int .u64 (((sumP (sumF T9 ks) K).2 : Nat) : Int) ∧ aa.eval (.tmp 18) = .slice A1 (K) (c1) ∧ aa.eval (.tmp 95) = .int .i64 ((K : Nat) : Int) ∧ K ≤ 16 ∧ Own ww w.heap.size A1 c1 (sumP (sumF T9 ks) K).1 ∧ Blk ww g_1 (iws .u64 (rP ks)).toArray 124 ∧ Blk ww g_2 (iws .u64 (dgP T9)).toArray 124 ∧ Below w.heap.size w ww) (16) ?_ ?_
         ·exact ⟨0, none, 0, rfl, (psz hs_4), (pdf hd_4), ev, ev, ev, ev, ev, Nat.zero_le _, Own.nil _ _, BA, hB_9, HB_11⟩
         ·skip
          clear ta_4_0 ta_4_1 ta_4_6 ta_4_7 ta_4_13 hd_4 BA hB_9 HB_11
          rintro nna_7 a_7 w_18 ⟨K, A1, c1, hm_6, hs_7, hd_7, ta_7_0, ta_7_7, ta_7_17, ta_7_18, ta_7_95, hK, hO, BA, BH, HBL⟩ K_57 hK_57
          subst hm_6
          have hf510 : ∀ j, sumF T9 ks j ≤ 510 := fun j => Nat.add_le_add (dgP_le T9 j) (hk255 (16 + j))
          have hsc := sumP_c hf510 K
          have hs1 := dgP_le T9 K
          have hs2 := hk255 (16 + K)
          iterate 2 refine e1 ?_
          refine q_w (o_lss (n := 16) rfl ev rfl) ?_
          iterate 2 refine e1 ?_
          refine w2_split (pe hs_7 rfl rfl) (fun h_6 => ?_) (fun h_6 => ?_)
          ·simp only [DD9] at h_6
           iterate 10 refine e1 ?_
           have hs3 := hf510 K
           refine y_drawn 11 [iV (.int .u64 (((sumP (sumF T9 ks) K).2 : Nat) : Int)), iI .i64 K, iP g_2 K, iV (.int .u64 (((dgP T9).getD (K) 0 : Nat) : Int)), iV (.slice A (m) (c)), iI .i64 K, iV (.int .i64 ((16 + K : Nat) : Int)), iV (.pointer (atA A (16 + K))), iV (.int .u8 ((ks.getD (16 + K) 0 : Nat) : Int)), iV (.int .u64 ((ks.getD (16 + K) 0 : Nat) : Int)), iV (.int .u64 ((sumF T9 ks K : Nat) : Int))] [98, 99, 100, 101, 102, 103, 104, 105, 106, 107, 108] hs_7 hd_7 ⟨sx, sx, (step_ok rfl fun a' w' hb' hO hD => oV (zero_off (o_ixA (k := 0) (i := K) (n := 17) (e := 38) rfl ed ed (by omega) (fun _ => by kernel_rfl) (fun _ => by kernel_rfl))) rfl), (step_ok rfl fun a' w' hb' hO hD => oV (o_loadW rfl ed (BH.nx hb') (by rw [(dgP_length _)]; omega) rfl ⟨by kernel_rfl, by kernel_rfl⟩) rfl), sx, sx, (step_ok rfl fun a' w' hb' hO hD => oV (o_add64 (m := 16) (n := K) rfl rfl ed (by omega)) rfl), (step_ok rfl fun a' w' hb' hO hD => oV (o_ix (k := 16 + K) rfl ed ed (by omega) ((ha.below (below_from HBL hb')).some (by rw [hm]; omega))) rfl), (step_ok rfl fun a' w' hb' hO hD => oV (o_ld8 rfl ed (ha.below (below_from HBL hb')) (by rw [hm]; omega) rfl) rfl), (step_ok rfl fun a' w' hb' hO hD => oV (o_conv (m := (ks.getD (16 + K) 0)) (r := ks.getD (16 + K) 0) rfl ed ⟨.int .u8, fun _ => by kernel_rfl⟩ (fun _ => by kernel_rfl) (by rw [IntKind.wrap_u64]; omega)) rfl),
(step_ok rfl (fun a' w' hb' hO hD => by
             have d_16 : a'.eval (.tmp 101) = .int .u64 (((dgP T9).getD (K) 0 : Nat) : Int) := hD 3 101 (by kernel_rfl) rfl
             have d_17 : a'.eval (.tmp 107) = .int .u64 ((ks.getD (16 + K) 0 : Nat) : Int) := hD 9 107 (by kernel_rfl) rfl
             have e0 : (.int .u64 ((((dgP T9).getD (K) 0) + (ks.getD (16 + K) 0) : Nat) : Int) : Value) = .int .u64 ((sumF T9 ks K : Nat) : Int) := rfl
             exact .inl ⟨_, _, (o_addU (m := ((dgP T9).getD (K) 0)) (n := (ks.getD (16 + K) 0)) (((dgP T9).getD (K) 0) + (ks.getD (16 + K) 0)) rfl d_16 d_17 (by rw [IntKind.wrap_u64]; omega)), e0, Below.refl _ _⟩)), trivial⟩ (fun a_8 w_19 hs_8 hd_8 hb_9 hO_2 hV_2 => ?_)
           have ta_8_0 := fK 0 hO_2
           have ta_8_7 := fK 7 hO_2
           have ta_8_18 := fK 18 hO_2
           have ta_8_95 := fK 95 hO_2
           obtain ⟨hO, BA, BH⟩ := nx3 hb_9 hO BA BH
           have HB_12 := below_from HBL hb_9
           have ta_8_98 := fV 98 hV_2
           have ta_8_108 := fV 108 hV_2
           simp only [List.drop_succ_cons, List.drop_zero]
           refine q_w (o_addU (((sumP (sumF T9 ks) K).2) + (sumF T9 ks K)) rfl ev ev (by rw [IntKind.wrap_u64]; omega)) ?_
           iterate 6 refine e1 ?_
           refine q_w (o_conv (r := (((sumP (sumF T9 ks) K).2) + (sumF T9 ks K)) % 256) rfl ev ⟨.int .u64, fun _ => by kernel_rfl⟩ (fun _ => by kernel_rfl) (by rw [IntKind.wrap_u8]; omega)) ?_
           refine q_x (o_build1 (m := (((sumP (sumF T9 ks) K).2) + (sumF T9 ks K)) % 256) rfl ev (Nat.mod_lt _ (by decide))) (fun v_3 w_20 hR_12 => ?_)
           obtain ⟨g_3, rfl, ho_1, hb_10⟩ := hR_12
           replace ho_1 := ho_1.mono HB_12.size
           obtain ⟨hO, BA, BH⟩ := nx3 hb_10 hO BA BH
           have HB_13 := below_from HB_12 hb_10
           refine q_x (o_append rfl ev ev hO (ho_1).bs (by rw [(sumP_length _ K)]) (by simp only [List.length_cons, List.length_nil]) (by omega) HB_13.size) (fun v_4 w_21 hR_13 => ?_)
           obtain ⟨A_1, c_1, rfl, ho_2, hb_11, hg_1, hat_1⟩ := hR_13
           replace BA := BA.grown hO hg_1 (by decide)
           replace BH := BH.grown hO hg_1 (by decide)
           have HB_14 : Below w.heap.size w w_21 := (HB_13).trans hb_11
           iterate 4 refine e1 ?_
           refine q_v 116 (.int .u64 (((sumP (sumF T9 ks) (K + 1)).2 : Nat) : Int)) (o_eq (o_shr (m := (((sumP (sumF T9 ks) K).2) + (sumF T9 ks K))) (n := 8) rfl ev rfl (by decide)) rfl) ?_
           iterate 4 refine e1 ?_
           refine q_w (o_add64 (n := 1) rfl ev rfl (by omega)) ?_
           refine e1 ?_
           refine x_nil ?_
           refine hK_57 _ _ _ ⟨K + 1, A_1, c_1, rfl, (psz hs_8), (pdf hd_8), ev, ev, ev, ev, ev, (by omega), ho_2, BA, BH, HB_14⟩ ?_
           omega
          ·simp only [DD9] at h_6
           obtain rfl : K = 16 := by omega
           iterate 9 refine e1 ?_
           refine q_as (.int .i64 ((0 : Nat) : Int)) rfl ?_
           iterate 3 refine e1 ?_
           exact ⟨_, _, rfl, (by rw [← tag_same ha.b8 hb.b8]; unfold tagP; rw [hq, ← hT9]; exact hO), HBL⟩
end Go.Proofs.YtkhbihnnkflfkaaGreat
/-
 WALKS: the reference's aead: mac, Seal, Open; both, of any key.
-/
namespace Go.Proofs.YtkhbihnnkflfkaaGreat
open Go.RowKit
set_option maxHeartbeats 8000000
set_option linter.unusedVariables false
set_option linter.unusedSimpArgs false
set_option maxRecDepth 100000
attribute [local irreducible] wpList wpListIn putsR

variable {xss : List (List Nat)} {c d f g k m p q : Nat} {A B C E : Option Addr} {bs ks ns zs : List Nat}
def PartsN (xss : List (List Nat)) (w : World) (v : Value) : Prop := ∃ (g : Nat) (ps : List Part), v = .slice (some ⟨g, 0, none⟩) ps.length ps.length ∧ Blk w g (ps.map Part.val).toArray 22 ∧ (∀ p ∈ ps, Bs w p.A p.c p.xs) ∧ ps.map (fun p => p.xs) = xss
theorem stParts : StP (PartsN xss) := fun _ _ _ ⟨g, ps, hv, hB, hP, hx⟩ hb => ⟨g, ps, hv, hB.nx hb, fun p hp => (hP p hp).below hb, hx⟩
theorem joinP_flat (ps : List Part) : joinP ps ps.length = (ps.map (fun p => p.xs)).flatten := by
 have key : ∀ k, k ≤ ps.length → joinP ps k = ((ps.take k).map (fun p => p.xs)).flatten := by
  intro k
  induction k with
  | zero => intro _; rw [List.take_zero]; rfl
  | succ k ih =>
   intro h
   rw [joinP, ih (by omega), List.take_add_one, List.map_append, List.flatten_append]
   congr 1
   unfold Part.at
   rw [List.getD_eq_getElem?_getD, List.getElem?_eq_getElem (show k < ps.length by omega)]
   simp
 have h := key ps.length (Nat.le_refl _)
 rwa [List.take_length] at h
theorem joinX {ps : List Part} (w : World) (hB : Blk w g (ps.map Part.val).toArray 22) (hP : ∀ p ∈ ps, Bs w p.A p.c p.xs) (hx : ps.map (fun p => p.xs) = xss) (hl : xss.flatten.length ≤ 70368744177664) (hl2 : xss.length ≤ 4611686018427387904) :
  Calls Tryz.prog 66 #[.slice (some ⟨g, 0, none⟩) ps.length ps.length] w fun e w' => ∃ A c, e = .returned (.slice A xss.flatten.length c) ∧ Own w' w.heap.size A c xss.flatten ∧ Below w.heap.size w w' := by
 subst hx
 rw [← joinP_flat] at hl
 have h9 := joinW_any w hB hP hl (by rwa [List.length_map] at hl2)
 rw [joinP_flat] at h9
 exact h9
theorem macW_any (w : World) (ha : Bs w A c ks) (hb : Bs w B d ns) (hc : Bs w C f zs) (he : Bs w E g bs) (hm : ks.length = m) (hk : ns.length = k) (hp : zs.length = p) (hq : bs.length = q) (hm32 : m = 32) (hk12 : k = 12) (hpl : p ≤ 17592186044416) (hql : q ≤ 17592186044416) :
  Calls Tryz.prog 37 #[.slice A (m) (c), .slice B (k) (d), .slice C (p) (f), .slice E (q) (g)] w fun e w' => ∃ A c, e = .returned (.slice A 16 c) ∧ Own w' w.heap.size A c (macL ks ns zs bs) ∧ Below w.heap.size w w' := by
 refine x_enter 40 Tryz.func37 rfl rfl (fun a hs hd ha0 => ?_)
 have t0 := tA 0 ha0
 have t1 := tA 1 ha0
 have t2 := tA 2 ha0
 have t3 := tA 3 ha0
 clear ha0
 iterate 9 refine e1 ?_
 refine k_c Tryz.func63 (BlockW_ok 0 _ ha hb hm hk (by decide) hm32 hk12) ?_
 rintro e_1 w_1 ⟨A_1, c_1, rfl, ho_1, hb_1⟩
 refine ⟨_, rfl, ?_⟩
 iterate 7 refine e1 ?_
 have hS_1 := Bs.sub ho_1.bs (l := 0) (q := 32) (m := c_1) (by omega) (by have := ho_1.bs.le; rw [blockL_length] at this; omega) (Nat.le_refl _)
 rw [subA_zero, List.drop_zero, Nat.sub_zero, Nat.sub_zero] at hS_1
 have hfa := fillL_length zs
 have hfb := fillL_length bs
 have hfl : ([fillL zs, fillL bs, putL p 8, putL q 8].flatten).length = (fillL zs).length + (fillL bs).length + 16 := by simp only [List.flatten_cons, List.flatten_nil, List.length_append, List.length_nil, putL_length]; omega
 rw [hp] at hfa; rw [hq] at hfb
 refine y_drawn2 21 [iV (.slice A_1 (64) (c_1)), iV (.slice A_1 (32) (c_1)), iV (.slice C (p) (f)), fun ww vv => OwnN w_1.heap.size ((fillL zs).length) (fillL zs) ww vv, iV (.slice E (q) (g)), fun ww vv => OwnN w_1.heap.size ((fillL bs).length) (fillL bs) ww vv, iV (.slice C (p) (f)), iI .i64 p, iI .u64 p, fun ww vv => OwnN w_1.heap.size (8) (putL p 8) ww vv, iV (.slice E (q) (g)), iI .i64 q, iI .u64 q, fun ww vv => OwnN w_1.heap.size (8) (putL q 8) ww vv, fun ww vv => PartsN [fillL zs, fillL bs, putL p 8, putL q 8] ww vv, fun ww vv => OwnN w_1.heap.size ([fillL zs, fillL bs, putL p 8, putL q 8].flatten.length) ([fillL zs, fillL bs, putL p 8, putL q 8].flatten) ww vv, fun ww vv => TupN w_1.heap.size (16) (tagL ((blockL ks ns 0).take 32) ([fillL zs, fillL bs, putL p 8, putL q 8].flatten)) (0) ww vv, fun ww vv => TupN w_1.heap.size (16) (tagL ((blockL ks ns 0).take 32) ([fillL zs, fillL bs, putL p 8, putL q 8].flatten)) (0) ww vv, fun ww vv => OwnN w_1.heap.size (16) (tagL ((blockL ks ns 0).take 32) ([fillL zs, fillL bs, putL p 8, putL q 8].flatten)) ww vv, iI .i64 0, fun ww vv => OwnN w_1.heap.size (16) (tagL ((blockL ks ns 0).take 32) ([fillL zs, fillL bs, putL p 8, putL q 8].flatten)) ww vv] [20, 21, 22, 23, 24, 25, 26, 27, 28, 29, 30, 31, 32, 33, 34, 35, 36, 19, 37, 38, 11] hs hd ⟨sx, (step_ok rfl fun a' w' hb' hO hD => oV (o_eq (o_sliceH (h := 32) rfl ed rfl (by have := ho_1.bs.le; rw [blockL_length] at this; omega)) (by rw [subA_zero])) rfl), sx, (step_ok rfl fun a' w' hb' hO hD => oC (vs := #[.slice C (p) (f)]) Tryz.func67 rfl (args1 ed) (Calls.mono (filledW_any _ (hc.below (below_from hb_1 hb')) hp (by omega)) (fun e w'' hR => by obtain ⟨A_2, c_2, rfl, ho_2, hb_2⟩ := hR; exact ⟨_, rfl, ⟨_, _, rfl, ho_2.mono hb'.size⟩, hb_2⟩))), sx, (step_ok rfl fun a' w' hb' hO hD => oC (vs := #[.slice E (q) (g)]) Tryz.func67 rfl (args1 ed) (Calls.mono (filledW_any _ (he.below (below_from hb_1 hb')) hq (by omega)) (fun e w'' hR => by obtain ⟨A_3, c_3, rfl, ho_3, hb_3⟩ := hR; exact ⟨_, rfl, ⟨_, _, rfl, ho_3.mono hb'.size⟩, hb_3⟩))), sx, sx, (step_ok rfl fun a' w' hb' hO hD => oV (o_conv (m := p) (r := p) rfl ed ⟨.int .i64, fun _ => by kernel_rfl⟩ (fun _ => by kernel_rfl) (by rw [IntKind.wrap_u64]; omega)) rfl), (step_ok rfl fun a' w' hb' hO hD => oC (vs := #[.int .u64 ((p : Nat) : Int), .int .i64 ((8 : Nat) : Int)]) Tryz.func38 rfl (args2 ed rfl) (Calls.mono (PutLowW_any p 8 _ (by omega) (by decide)) (fun e w'' hR => by obtain ⟨A_4, c_4, rfl, ho_4, hb_4⟩ := hR; exact ⟨_, rfl, ⟨_, _, rfl, ho_4.mono hb'.size⟩, hb_4⟩))), sx, sx, (step_ok rfl fun a' w' hb' hO hD => oV (o_conv (m := q) (r := q) rfl ed ⟨.int .i64, fun _ => by kernel_rfl⟩ (fun _ => by kernel_rfl) (by rw [IntKind.wrap_u64]; omega)) rfl), (step_ok rfl fun a' w' hb' hO hD => oC (vs := #[.int .u64 ((q : Nat) : Int), .int .i64 ((8 : Nat) : Int)]) Tryz.func38 rfl (args2 ed rfl) (Calls.mono (PutLowW_any q 8 _ (by omega) (by decide)) (fun e w'' hR => by obtain ⟨A_5, c_5, rfl, ho_5, hb_5⟩ := hR; exact ⟨_, rfl, ⟨_, _, rfl, ho_5.mono hb'.size⟩, hb_5⟩))),
(step_ok rfl (fun a' w' hb' hO hD => by
   have d_15 := hD 3 23 (by kernel_rfl) rfl
   obtain ⟨A_6, c_6, hv_1, hO_1⟩ := d_15
   have d_16 := hD 5 25 (by kernel_rfl) rfl
   obtain ⟨A_7, c_7, hv_2, hO_2⟩ := d_16
   have d_17 := hD 9 29 (by kernel_rfl) rfl
   obtain ⟨A_8, c_8, hv_3, hO_3⟩ := d_17
   have d_18 := hD 13 33 (by kernel_rfl) rfl
   obtain ⟨A_9, c_9, hv_4, hO_4⟩ := d_18
   exact out_new (o_bldS (vs := #[(0, .slice A_6 ((fillL zs).length) (c_6)), (1, .slice A_7 ((fillL bs).length) (c_7)), (2, .slice A_8 (8) (c_8)), (3, .slice A_9 (8) (c_9))]) (cs := #[.slice A_6 ((fillL zs).length) (c_6), .slice A_7 ((fillL bs).length) (c_7), .slice A_8 (8) (c_8), .slice A_9 (8) (c_9)]) (e := 22) rfl (bld4 hv_1 hv_2 hv_3 hv_4) (fun _ => by kernel_rfl)) (fun v w_2 hR => by obtain ⟨g_1, rfl, hle_1, hB_1, hb_6⟩ := hR; exact ⟨⟨g_1, [⟨A_6, c_6, fillL zs⟩, ⟨A_7, c_7, fillL bs⟩, ⟨A_8, c_8, putL p 8⟩, ⟨A_9, c_9, putL q 8⟩], rfl, (by simp only [List.map_cons, List.map_nil, Part.val, putL_length]; exact hB_1), (by intro p hp; simp only [List.mem_cons, List.not_mem_nil, or_false] at hp; rcases hp with rfl | rfl | rfl | rfl <;> first | exact ((hO_1).bs).below hb_6 | exact ((hO_2).bs).below hb_6 | exact ((hO_3).bs).below hb_6 | exact ((hO_4).bs).below hb_6), rfl⟩, hb_6⟩))),
(step_ok rfl (fun a' w' hb' hO hD => by
   have d_19 := hD 14 34 (by kernel_rfl) rfl
   obtain ⟨g_2, ps_1, hv_5, hB_2, hP_1, hx_1⟩ := d_19
   exact .inr ⟨_, #[.slice ((some ⟨g_2, 0, none⟩)) (ps_1.length) (ps_1.length)], (exec_call Tryz.func66 (by kernel_rfl) (by kernel_rfl) _ rfl _ _ (args1 hv_5)), Calls.mono (joinX _ hB_2 hP_1 hx_1 (by omega) (by simp)) (fun e w'' hR => by obtain ⟨A_10, c_10, rfl, ho_6, hb_7⟩ := hR; exact ⟨_, rfl, ⟨_, _, rfl, ho_6.mono hb'.size⟩, hb_7⟩)⟩)),
(step_ok rfl (fun a' w' hb' hO hD => by
   have d_20 : a'.eval (.tmp 21) = .slice A_1 (32) (c_1) := hD 1 21 (by kernel_rfl) rfl
   have d_21 := hD 15 35 (by kernel_rfl) rfl
   obtain ⟨A_11, c_11, hv_6, hO_5⟩ := d_21
   exact .inr ⟨_, #[.slice A_1 (32) (c_1), .slice A_11 ([fillL zs, fillL bs, putL p 8, putL q 8].flatten.length) (c_11)], (exec_call Tryz.func65 (by kernel_rfl) (by kernel_rfl) _ rfl _ _ (args2 d_20 hv_6)), Calls.mono (TagW_any _ (hS_1.nx hb') (hO_5).bs (by rw [List.length_take, blockL_length]; rfl) rfl rfl (by omega)) (fun e w'' hR => by obtain ⟨A_12, c_12, rfl, ho_7, hb_8⟩ := hR; exact ⟨_, rfl, ⟨_, _, rfl, ho_7.mono hb'.size⟩, hb_8⟩)⟩)),
(step_ok rfl (fun a' w' hb' hO hD => by
   have d_22 := hD 16 36 (by kernel_rfl) rfl
   obtain ⟨A_13, c_13, hv_7, hO_6⟩ := d_22
   exact .inl ⟨_, _, (o_move rfl hv_7), ⟨_, _, rfl, hO_6⟩, Below.refl _ _⟩)),
(step_ok rfl (fun a' w' hb' hO hD => by
   have d_23 := hD 17 19 (by kernel_rfl) rfl
   obtain ⟨A_14, c_14, hv_8, hO_7⟩ := d_23
   exact .inl ⟨_, _, (o_extract rfl hv_8 rfl), ⟨_, _, rfl, hO_7⟩, Below.refl _ _⟩)),
(step_ok rfl (fun a' w' hb' hO hD => by
   have d_24 := hD 17 19 (by kernel_rfl) rfl
   obtain ⟨A_15, c_15, hv_9, hO_8⟩ := d_24
   exact .inl ⟨_, _, (o_extract rfl hv_9 rfl), rfl, Below.refl _ _⟩)),
(step_ok rfl (fun a' w' hb' hO hD => by
   have d_25 := hD 18 37 (by kernel_rfl) rfl
   obtain ⟨A_16, c_16, hv_10, hO_9⟩ := d_25
   exact .inl ⟨_, _, (o_assign rfl hv_10), ⟨_, _, rfl, hO_9⟩, Below.refl _ _⟩)), trivial⟩ (fun a_1 w_3 hs_1 hd_1 hb_9 hO_10 hV_1 => ?_)
 replace hS_1 := hS_1.nx hb_9
 have HB_1 := below_from hb_1 hb_9
 have x_1 := hV_1 3 23 rfl rfl
 obtain ⟨A_17, c_17, hv_11, hO_11⟩ := x_1
 replace hO_11 := hO_11.mono hb_1.size
 have x_2 := hV_1 5 25 rfl rfl
 obtain ⟨A_18, c_18, hv_12, hO_12⟩ := x_2
 replace hO_12 := hO_12.mono hb_1.size
 have x_3 := hV_1 9 29 rfl rfl
 obtain ⟨A_19, c_19, hv_13, hO_13⟩ := x_3
 replace hO_13 := hO_13.mono hb_1.size
 have x_4 := hV_1 13 33 rfl rfl
 obtain ⟨A_20, c_20, hv_14, hO_14⟩ := x_4
 replace hO_14 := hO_14.mono hb_1.size
 have x_5 := hV_1 14 34 rfl rfl
 obtain ⟨g_3, ps_2, hv_15, hB_3, hP_2, hx_2⟩ := x_5
 have x_6 := hV_1 15 35 rfl rfl
 obtain ⟨A_21, c_21, hv_16, hO_15⟩ := x_6
 replace hO_15 := hO_15.mono hb_1.size
 have x_7 := hV_1 16 36 rfl rfl
 obtain ⟨A_22, c_22, hv_17, hO_16⟩ := x_7
 replace hO_16 := hO_16.mono hb_1.size
 have x_8 := hV_1 17 19 rfl rfl
 obtain ⟨A_23, c_23, hv_18, hO_17⟩ := x_8
 replace hO_17 := hO_17.mono hb_1.size
 have x_9 := hV_1 18 37 rfl rfl
 obtain ⟨A_24, c_24, hv_19, hO_18⟩ := x_9
 replace hO_18 := hO_18.mono hb_1.size
 have ta_1_38 := fV 38 hV_1
 have x_10 := hV_1 20 11 rfl rfl
 obtain ⟨A_25, c_25, hv_20, hO_19⟩ := x_10
 replace hO_19 := hO_19.mono hb_1.size
 simp only [List.drop_succ_cons, List.drop_zero]
 iterate 9 refine e1 ?_
 exact ⟨_, _, rfl, (by have h9 := hO_19; simp only [List.flatten_cons, List.flatten_nil, List.append_nil] at h9; unfold macL macIn; rw [hp, hq, List.append_assoc, List.append_assoc]; exact h9), HB_1⟩
theorem SealW_ok (w : World) (ha : Bs w A c ks) (hb : Bs w B d ns) (hc : Bs w C f zs) (he : Bs w E g bs) (hm : ks.length = m) (hk : ns.length = k) (hp : zs.length = p) (hq : bs.length = q) (hm32 : m = 32) (hk12 : k = 12) (hpl : p ≤ 17592186044416) (hql : q ≤ 17592186044416) :
  Calls Tryz.prog 11 #[.slice A (m) (c), .slice B (k) (d), .slice C (p) (f), .slice E (q) (g)] w fun e w' => ∃ A c, e = .returned (.tuple #[.slice A (q + 16) c, .int .i64 0]) ∧ Own w' w.heap.size A c (sealL ks ns zs bs) ∧ Below w.heap.size w w' := by
 refine x_enter 29 Tryz.func11 rfl rfl (fun a hs hd ha0 => ?_)
 have t0 := tA 0 ha0
 have t1 := tA 1 ha0
 have t2 := tA 2 ha0
 have t3 := tA 3 ha0
 clear ha0
 iterate 3 refine e1 ?_
 refine q_as (.int .i64 ((0 : Nat) : Int)) rfl ?_
 iterate 7 refine e1 ?_
 refine k_c Tryz.func36 (XorChaW_ok 1 _ ha hb he hm hk hq (by omega) hm32 hk12 (by omega)) ?_
 rintro e_1 w_1 ⟨A_1, c_1, rfl, ho_1, hb_1⟩
 refine ⟨_, rfl, ?_⟩
 iterate 10 refine e1 ?_
 refine q_v 20 (.bool (false)) (o_eq (o_neq (m := 0) (n := 0) rfl ev rfl) rfl) ?_
 iterate 12 refine e1 ?_
 refine k_c Tryz.func37 (macW_any _ (ha.below hb_1) (hb.below hb_1) (hc.below hb_1) (ho_1).bs hm hk hp (by simp only [xorS_length, hq]) hm32 hk12 (by omega) (by omega)) ?_
 rintro e_2 w_2 ⟨A_2, c_2, rfl, ho_2, hb_2⟩
 replace ho_2 := ho_2.mono hb_1.size
 replace ho_1 := ho_1.nx hb_2
 have HB_1 := below_from hb_1 hb_2
 refine ⟨_, rfl, ?_⟩
 refine q_x (o_append rfl ev ev ho_1 (ho_2).bs (by rw [xorS_length, hq]) (by simp only [macL_length]) (by omega) HB_1.size) (fun v_1 w_3 hR_3 => ?_)
 obtain ⟨A_3, c_3, rfl, ho_3, hb_3, hg_1, hat_1⟩ := hR_3
 have HB_2 : Below w.heap.size w w_3 := (HB_1).trans hb_3
 clear hg_1 hat_1 ho_1
 refine e1 ?_
 refine q_as (.int .i64 ((0 : Nat) : Int)) rfl ?_
 iterate 3 refine e1 ?_
 exact ⟨_, _, rfl, ho_3, HB_2⟩
theorem OpenW_ok (w : World) (ha : Bs w A c ks) (hb : Bs w B d ns) (hc : Bs w C f zs) (he : Bs w E g bs) (hm : ks.length = m) (hk : ns.length = k) (hp : zs.length = p) (hq : bs.length = q) (hm32 : m = 32) (hk12 : k = 12) (hpl : p ≤ 17592186044416) (hql : q ≤ 17592186044416) :
  Calls Tryz.prog 40 #[.slice A (m) (c), .slice B (k) (d), .slice C (p) (f), .slice E (q) (g)] w fun e w' => ∃ A c, e = .returned (.tuple #[.slice A (openL ks ns zs bs).1.length c, .int .i64 (((openL ks ns zs bs).2 : Nat) : Int)]) ∧ Own w' w.heap.size A c (openL ks ns zs bs).1 ∧ Below w.heap.size w w' := by
 have hle := he.le
 have hbn : Bs w (subA E 0 g) g (bs.take (q - 16)) := by
  have h := he.sub (l := 0) (q := q - 16) (m := g) (by omega) (by omega) (Nat.le_refl _)
  simpa using h
 have hbt : Bs w (subA E (q - 16) g) (g - (q - 16)) (bs.drop (q - 16)) := by
  have h := he.sub (l := q - 16) (q := q) (m := g) (by omega) (by omega) (Nat.le_refl _)
  rwa [show (bs.drop (q - 16)).take (q - (q - 16)) = bs.drop (q - 16) from List.take_of_length_le (by rw [List.length_drop]; omega)] at h
 have hnl : (bs.take (q - 16)).length = q - 16 := by rw [List.length_take]; omega
 have htl : (bs.drop (q - 16)).length = q - (q - 16) := by rw [List.length_drop, hq]
 refine x_enter 46 Tryz.func40 rfl rfl (fun a hs hd ha0 => ?_)
 have t0 := tA 0 ha0
 have t1 := tA 1 ha0
 have t2 := tA 2 ha0
 have t3 := tA 3 ha0
 clear ha0
 iterate 3 refine e1 ?_
 refine q_as (.int .i64 ((0 : Nat) : Int)) rfl ?_
 iterate 5 refine e1 ?_
 refine q_w (o_len rfl ev) ?_
 refine q_v 13 (.bool (false)) (o_eq (o_neq (m := m) (n := 32) rfl ev rfl) (by rw [decide_eq_true hm32]; rfl)) ?_
 refine e1 ?_
 refine q_g 14 (.slice B (k) (d)) (o_move rfl ev) ?_
 refine q_g 14 (.int .i64 ((k : Nat) : Int)) (o_len rfl ev) ?_
 refine q_g 14 (.bool (false)) (o_eq (o_neq (m := k) (n := 12) rfl ev rfl) (by rw [decide_eq_true hk12]; rfl)) ?_
 refine q_w (o_pickF rfl ev ev) ?_
 iterate 8 refine e1 ?_
 refine q_w (o_len rfl ev) ?_
 refine q_w (o_lss (n := 16) rfl ev rfl) ?_
 refine e1 ?_
 refine w2_split (pe hs rfl rfl) (fun h_1 => ?_) (fun h_1 => ?_)
 ·simp only [DD9] at h_1
  have ho : openL ks ns zs bs = ([], 2) := if_pos (by omega)
  iterate 3 refine e1 ?_
  refine q_as (.int .i64 ((2 : Nat) : Int)) rfl ?_
  iterate 4 refine e1 ?_
  exact ⟨none, 0, by rw [ho]; rfl, by rw [ho]; exact Own.nil _ _, Below.refl _ _⟩
 ·simp only [DD9] at h_1
  iterate 6 refine e1 ?_
  refine q_w (o_len rfl ev) ?_
  refine q_w (o_sub64 (n := 16) rfl ev rfl (by omega) (by omega)) ?_
  refine q_w (o_sliceH (h := q - 16) rfl ev ev (by omega)) ?_
  iterate 4 refine e1 ?_
  refine y_drawn 12 [iV (.slice A (m) (c)), iV (.slice B (k) (d)), iV (.slice C (p) (f)), iV (.slice ((subA E 0 g)) (q - 16) (g)), fun ww vv => OwnN w.heap.size (16) (macL ks ns zs (bs.take (q - 16))) ww vv, iV (.string (strB (macL ks ns zs (bs.take (q - 16))))), iV (.slice E (q) (g)), iV (.slice E (q) (g)), iI .i64 q, iV (.int .i64 ((q - 16 : Nat) : Int)), iV (.slice ((subA E (q - 16) g)) (q - (q - 16)) (g - (q - 16))), iV (.string (strB (bs.drop (q - 16))))] [27, 28, 29, 30, 31, 32, 33, 34, 35, 36, 37, 38] hs hd ⟨sx, sx, sx, sx, (step_ok rfl fun a' w' hb' hO hD => oC (vs := #[.slice A (m) (c), .slice B (k) (d), .slice C (p) (f), .slice ((subA E 0 g)) (q - 16) (g)]) Tryz.func37 rfl (args4 ed ed ed ed) (Calls.mono (macW_any _ (ha.below hb') (hb.below hb') (hc.below hb') (hbn.below hb') hm hk hp hnl hm32 hk12 (by omega) (by omega)) (fun e w'' hR => by obtain ⟨A_1, c_1, rfl, ho_1, hb_1⟩ := hR; exact ⟨_, rfl, ⟨_, _, rfl, ho_1.mono hb'.size⟩, hb_1⟩))),
(step_ok rfl (fun a' w' hb' hO hD => by
    have d_9 := hD 4 31 (by kernel_rfl) rfl
    obtain ⟨A_2, c_2, hv_1, hO_1⟩ := d_9
    exact .inl ⟨_, _, (o_str rfl hv_1 (hO_1).bs (by simp only [macL_length])), rfl, Below.refl _ _⟩)), sx, sx, sx, (step_ok rfl fun a' w' hb' hO hD => oV (o_sub64 (m := q) (n := 16) rfl ed rfl (by omega) (by omega)) rfl), (step_ok rfl fun a' w' hb' hO hD => oV (o_sliceL (l := q - 16) rfl ed ed (by omega)) rfl), (step_ok rfl fun a' w' hb' hO hD => oV (o_str rfl ed (hbt.below hb') htl) rfl), trivial⟩ (fun a_1 w_1 hs_1 hd_1 hb_2 hO_2 hV_1 => ?_)
  have ta_1_0 := fK 0 hO_2
  have ta_1_1 := fK 1 hO_2
  have ta_1_10 := fK 10 hO_2
  have x_1 := hV_1 4 31 rfl rfl
  obtain ⟨A_3, c_3, hv_2, hO_3⟩ := x_1
  have ta_1_32 := fV 32 hV_1
  have ta_1_38 := fV 38 hV_1
  simp only [List.drop_succ_cons, List.drop_zero]
  refine q_v 39 (.bool (!decide (strB (macL ks ns zs (bs.take (q - 16))) = strB (bs.drop (q - 16))))) (o_neSD rfl ev ev) ?_
  refine e1 ?_
  refine w2_split (pe hs_1 rfl rfl) (fun h_2 => ?_) (fun h_2 => ?_)
  ·simp only [DD9] at h_2
   have hne : ¬ macL ks ns zs (bs.take (q - 16)) = bs.drop (q - 16) := by
    intro h9; have h8 := h_2; rw [h9] at h8; simp at h8
   have ho : openL ks ns zs bs = ([], 4) := by
    unfold openL; rw [if_neg (by omega), if_neg (by rw [hq]; exact hne)]
   iterate 3 refine e1 ?_
   refine q_as (.int .i64 ((4 : Nat) : Int)) rfl ?_
   iterate 4 refine e1 ?_
   exact ⟨none, 0, by rw [ho]; rfl, by rw [ho]; exact Own.nil _ _, hb_2⟩
  ·simp only [DD9] at h_2
   have hne : macL ks ns zs (bs.take (q - 16)) = bs.drop (q - 16) := by
    exact (strB_inj (xs := macL ks ns zs (bs.take (q - 16))) (fun x hx => tagL_lt _ _ x hx) (fun x hx => he.b8 x (List.mem_of_mem_drop hx))).mp h_2
   have ho : openL ks ns zs bs = (xorS ks ns 1 (bs.take (q - 16)), 0) := by
    unfold openL; rw [if_neg (by omega), hq, if_pos hne]
   iterate 8 refine e1 ?_
   refine k_c Tryz.func36 (XorChaW_ok 1 _ (ha.below hb_2) (hb.below hb_2) (hbn.below hb_2) hm hk hnl (by omega) hm32 hk12 (by omega)) ?_
   rintro e_1 w_2 ⟨A_4, c_4, rfl, ho_2, hb_3⟩
   replace ho_2 := ho_2.mono hb_2.size
   replace hO_3 := hO_3.nx hb_3
   have HB_1 := below_from hb_2 hb_3
   refine ⟨_, rfl, ?_⟩
   iterate 7 refine e1 ?_
   exact ⟨_, _, by rw [ho, xorS_length, List.length_take, hq, Nat.min_eq_left (by omega)], by rw [ho]; exact ho_2, HB_1⟩
end Go.Proofs.YtkhbihnnkflfkaaGreat
