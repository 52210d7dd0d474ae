/-
 WALKS: slices.Grow of nil, slices.Concat of bytes.
-/
import Derived.Test.YtodhdajelnfhpaaGreatOps4
namespace Go.Proofs.YtodhdajelnfhpaaGreat
open Go.RowKit
set_option linter.unusedVariables false
set_option linter.unusedSimpArgs false
set_option maxRecDepth 100000
attribute [local irreducible] wpList wpListIn putsR

theorem Grow_nil (n : Nat) (w : World) (hl : n ≤ 140737488355328) :
  Calls Tryz.prog 52 #[.slice none (0) (0), .int .i64 ((n : Nat) : Int)] w fun e w' => ∃ A c, e = .returned (.slice A 0 c) ∧ Own w' w.heap.size A c [] ∧ Below w.heap.size w w' := by
 refine x_enter 27 Tryz.func52 rfl rfl (fun a hs hd ha0 => ?_)
 have t0 : a.eval (.tmp 0) = .slice none (0) (0) := ha0 0 _ rfl
 have t1 : a.eval (.tmp 1) = .int .i64 ((n : Nat) : Int) := ha0 1 _ rfl
 clear ha0
 refine w2_sr (fun K_1 hK_1 => ?_)
 refine q_as (.slice none (0) (0)) rfl ?_
 refine x_nil (hK_1 _ _ ?_)
 refine w2_seq (fun K_2 hK_2 => ?_)
 refine w2_sr (fun K_3 hK_3 => ?_)
 refine q_mv ((pm rfl).trans t1) ?_
 refine q_v 6 (.bool (decide (n < 0))) (o_lss (m := n) (n := 0) rfl (pe hs rfl rfl) rfl) ?_
 refine x_nil (hK_3 _ _ ?_)
 refine w2_split (pe hs rfl rfl) (fun h_1 => ?_) (fun h_1 => ?_)
 ·simp only [DD9] at h_1
  exact absurd h_1 (by omega)
 ·simp only [DD9] at h_1
  refine w2_skip ?_
  refine hK_2 _ _ ?_
  refine w2_seq (fun K_4 hK_4 => ?_)
  refine w2_sr (fun K_5 hK_5 => ?_)
  refine q_mv ((pm rfl).trans t1) ?_
  refine q_mv ((pm rfl).trans t0) ?_
  refine q_v 10 (.int .i64 ((0 : Nat) : Int)) (o_cap rfl (pe hs rfl rfl)) ?_
  refine q_mv ((pm rfl).trans t0) ?_
  refine q_v 12 (.int .i64 ((0 : Nat) : Int)) (o_len rfl (pe hs rfl rfl)) ?_
  refine q_v 13 (.int .i64 ((0 - 0 : Nat) : Int)) (o_sub64 (m := 0) (n := 0) rfl (pe hs rfl rfl) (pe hs rfl rfl) (by omega) (by omega)) ?_
  refine q_v 14 (.int .i64 ((n : Nat) : Int)) (o_eq (o_sub64 (m := n) (n := (0 - 0)) rfl (pe hs rfl rfl) (pe hs rfl rfl) (by omega) (by omega)) (by simp)) ?_
  refine q_at (pe hs rfl rfl) ?_
  refine x_nil (hK_5 _ _ ?_)
  refine w2_sr (fun K_6 hK_6 => ?_)
  refine q_mv (pe hs rfl rfl) ?_
  refine q_v 16 (.bool (decide (0 < n))) (o_gtr (m := n) (n := 0) rfl (pe hs rfl rfl) rfl) ?_
  refine x_nil (hK_6 _ _ ?_)
  refine w2_split (pe hs rfl rfl) (fun h_2 => ?_) (fun h_2 => ?_)
  ·simp only [DD9] at h_2
   refine x_region (by kernel_rfl) ?_
   refine q_mv ((pm rfl).trans t0) ?_
   refine q_mv ((pm rfl).trans t0) ?_
   refine q_v 19 (.int .i64 ((0 : Nat) : Int)) (o_cap rfl (pe hs rfl rfl)) ?_
   refine q_v 20 (.slice none (0) (0)) (o_eq (o_sliceH rfl (pe hs rfl rfl) (pe hs rfl rfl) (by omega)) rfl) ?_
   refine q_mv (pe hs rfl rfl) ?_
   refine op_ex (d := 22) rfl rfl (o_appendZ (m := n) rfl (pe hs rfl rfl) (pe hs rfl rfl) (Own.nil w w.heap.size) rfl (by omega) (Nat.le_refl _)) (fun v_1 w_1 hR_1 => ?_)
   obtain ⟨A_1, c_1, rfl, ho_1, hb_1, hg_1, hat_1⟩ := hR_1
   have HB_1 : Below w.heap.size w w_1 := hb_1
   clear hg_1 hat_1 
   refine q_mv ((pm rfl).trans t0) ?_
   refine q_v 24 (.int .i64 ((0 : Nat) : Int)) (o_len rfl (pe hs rfl rfl)) ?_
   refine q_v 25 (.slice A_1 (0) (c_1)) (o_eq (o_sliceH rfl (pe hs rfl rfl) (pe hs rfl rfl) (by omega)) (by rw [subA_zero])) ?_
   refine q_at (pe hs rfl rfl) ?_
   refine x_nil ?_
   have hO_1 := ho_1.trunc
   refine hK_4 _ _ ?_
   refine w2_sr (fun K_7 hK_7 => ?_)
   refine q_mv (pe hs rfl rfl) ?_
   refine q_at (pe hs rfl rfl) ?_
   refine x_nil (hK_7 _ _ ?_)
   refine w2_ret ?_
   refine ret1 rfl hd (pe hs rfl rfl) ?_
   exact ⟨_, _, rfl, hO_1, HB_1⟩
  ·simp only [DD9] at h_2
   refine w2_skip ?_
   refine hK_4 _ _ ?_
   refine w2_sr (fun K_8 hK_8 => ?_)
   refine q_mv ((pm rfl).trans t0) ?_
   refine q_at (pe hs rfl rfl) ?_
   refine x_nil (hK_8 _ _ ?_)
   refine w2_ret ?_
   refine ret1 rfl hd (pe hs rfl rfl) ?_
   exact ⟨_, _, rfl, (Own.nil w w.heap.size), Below.refl _ _⟩
theorem Part.mem {ps : List Part} {k : Nat} (h : k < ps.length) : Part.at ps k ∈ ps := by
 unfold Part.at
 rw [List.getD_eq_getElem?_getD, List.getElem?_eq_getElem h]
 exact List.getElem_mem h
theorem Grow_sz (n : Nat) (w : World) (hl : n ≤ 140737488355328) : Calls Tryz.prog 52 #[.slice none 0 0, .int .i64 (n : Int)] w fun e w' => ∃ A c, e = .returned (.slice A 0 c) ∧ Own w' w.heap.size A c [] ∧ Below w.heap.size w w' := Grow_nil n w hl
theorem Concat_any {ps : List Part} {gs : Nat} (w : World) (hB : Blk w gs (ps.map Part.val).toArray 22) (hP : ∀ p ∈ ps, Bs w p.A p.c p.xs) (hl : (joinP ps ps.length).length ≤ 70368744177664) (hl2 : ps.length ≤ 4611686018427387904) :
  Calls Tryz.prog 27 #[.slice ((some ⟨gs, 0, none⟩)) (ps.length) (ps.length)] w fun e w' => ∃ A c, e = .returned (.slice A (joinP ps ps.length).length c) ∧ Own w' w.heap.size A c (joinP ps ps.length) ∧ Below w.heap.size w w' := by
 refine x_enter 36 Tryz.func27 rfl rfl (fun a hs hd ha0 => ?_)
 have t0 : a.eval (.tmp 0) = .slice ((some ⟨gs, 0, none⟩)) (ps.length) (ps.length) := ha0 0 _ rfl
 clear ha0
 refine w2_sr (fun K_1 hK_1 => ?_)
 refine q_as (.slice none (0) (0)) rfl ?_
 refine x_nil (hK_1 _ _ ?_)
 refine w2_sr (fun K_2 hK_2 => ?_)
 refine q_as (.int .i64 ((0 : Nat) : Int)) rfl ?_
 refine x_nil (hK_2 _ _ ?_)
 refine w2_seq (fun K_3 hK_3 => ?_)
 refine w2_sr (fun K_4 hK_4 => ?_)
 refine q_mv ((pm rfl).trans t0) ?_
 refine q_v 10 (.int .i64 ((ps.length : Nat) : Int)) (o_lenS rfl (pe hs rfl rfl)) ?_
 refine q_v 11 (.int .i64 ((0 : Nat) : Int)) (o_move rfl rfl) ?_
 refine x_nil (hK_4 _ _ ?_)
 refine w2_block (fun K_5 hK_5 => ?_)
 refine x_loop (fun nn aa ww => ∃ (K : Nat), nn = ps.length - K ∧ aa.tmps.size = 36 ∧ aa.defers = [] ∧ aa.eval (.tmp 0) = .slice ((some ⟨gs, 0, none⟩)) (ps.length) (ps.length) ∧ aa.eval (.tmp 2) = .slice none (0) (0) ∧ aa.eval (.tmp 3) = .int .i64 (((joinP ps K).length : Nat) : Int) ∧ aa.eval (.tmp 9) = .slice ((some ⟨gs, 0, none⟩)) (ps.length) (ps.length) ∧ aa.eval (.tmp 10) = .int .i64 ((ps.length : Nat) : Int) ∧ aa.eval (.tmp 11) = .int .i64 ((K : Nat) : Int) ∧ K ≤ ps.length ∧ Below w.heap.size w ww) (ps.length) ?_ ?_
 ·exact ⟨0, rfl, (by rw [putsR_size]; exact hs), (by rw [putsR_defers]; exact hd), ((pm rfl).trans t0), (pe hs rfl rfl), (pe hs rfl rfl), (pe hs rfl rfl), (pe hs rfl rfl), (pe hs rfl rfl), Nat.zero_le _, Below.refl _ _⟩
 ·skip
  clear t0 hd
  rintro nna_1 a_1 w_1 ⟨K, hm_1, hs_1, hd_1, ta_1_0, ta_1_2, ta_1_3, ta_1_9, ta_1_10, ta_1_11, hK, HBL⟩ K_6 hK_6
  subst hm_1
  refine w2_sr (fun K_7 hK_7 => ?_)
  refine q_v 12 (.bool (decide (K < ps.length))) (o_lss (m := K) (n := ps.length) rfl ((pm rfl).trans ta_1_11) ((pm rfl).trans ta_1_10)) ?_
  refine x_nil (hK_7 _ _ ?_)
  refine w2_seq (fun K_8 hK_8 => ?_)
  refine w2_split (pe hs_1 rfl rfl) (fun h_1 => ?_) (fun h_1 => ?_)
  ·simp only [DD9] at h_1
   have hlt : K < ps.length := h_1
   have hPK := hP _ (Part.mem hlt)
   have hjl := joinP_le ps _ hl (K + 1) hlt
   rw [joinP, List.length_append] at hjl
   refine w2_skip ?_
   refine hK_8 _ _ ?_
   refine w2_seq (fun K_9 hK_9 => ?_)
   refine w2_block (fun K_10 hK_10 => ?_)
   refine w2_sr (fun K_11 hK_11 => ?_)
   refine op_val (d := 13) (v := .pointer (some ⟨gs, K, none⟩)) rfl rfl (zero_off (o_ixS (off := 0) (i := K) rfl ((pm rfl).trans ta_1_9) ((pm rfl).trans ta_1_11) (by omega))) ?_
   refine q_v 14 (.slice ((Part.at ps K).A) ((Part.at ps K).xs.length) ((Part.at ps K).c)) (o_eq (o_load1 rfl (pe hs_1 rfl rfl) (hB.nx HBL) (Part.get hlt) ⟨by kernel_rfl, by kernel_rfl⟩) rfl) ?_
   refine q_at (pe hs_1 rfl rfl) ?_
   refine x_nil (hK_11 _ _ ?_)
   refine w2_sr (fun K_12 hK_12 => ?_)
   refine q_mv ((pm rfl).trans ta_1_3) ?_
   refine q_mv (pe hs_1 rfl rfl) ?_
   refine q_v 17 (.int .i64 (((Part.at ps K).xs.length : Nat) : Int)) (o_len rfl (pe hs_1 rfl rfl)) ?_
   refine q_v 18 (.int .i64 (((joinP ps (K + 1)).length : Nat) : Int)) (o_eq (o_add64 (m := ((joinP ps K).length)) (n := ((Part.at ps K).xs.length)) rfl (pe hs_1 rfl rfl) (pe hs_1 rfl rfl) (by omega)) (by rw [joinP, List.length_append])) ?_
   refine q_at (pe hs_1 rfl rfl) ?_
   refine x_nil (hK_12 _ _ ?_)
   refine w2_sr (fun K_13 hK_13 => ?_)
   refine q_mv (pe hs_1 rfl rfl) ?_
   refine q_v 20 (.bool (decide (((joinP ps (K + 1)).length) < 0))) (o_lss (m := ((joinP ps (K + 1)).length)) (n := 0) rfl (pe hs_1 rfl rfl) rfl) ?_
   refine x_nil (hK_13 _ _ ?_)
   refine w2_split (pe hs_1 rfl rfl) (fun h_2 => ?_) (fun h_2 => ?_)
   ·simp only [DD9] at h_2
    exact absurd h_2 (by omega)
   ·simp only [DD9] at h_2
    refine w2_skip ?_
    refine hK_10 _ _ ?_
    refine hK_9 _ _ ?_
    refine x_region (by kernel_rfl) ?_
    refine q_v 22 (.int .i64 ((K + 1 : Nat) : Int)) (o_add64 (m := K) (n := 1) rfl ((pm rfl).trans ta_1_11) rfl (by omega)) ?_
    refine q_mv (pe hs_1 rfl rfl) ?_
    refine x_nil ?_
    refine hK_6 _ _ _ ⟨K + 1, rfl, (by rw [putsR_size]; exact hs_1), (by rw [putsR_defers]; exact hd_1), ((pm rfl).trans ta_1_0), ((pm rfl).trans ta_1_2), (pe hs_1 rfl rfl), ((pm rfl).trans ta_1_9), ((pm rfl).trans ta_1_10), (pe hs_1 rfl rfl), (by omega), HBL⟩ ?_
    omega
  ·simp only [DD9] at h_1
   obtain rfl : K = ps.length := by omega
   refine w2_exit ?_
   refine thn_exit ?_
   refine thn_exit ?_
   refine exb_hit ?_
   refine hK_5 _ _ ?_
   refine hK_3 _ _ ?_
   refine w2_sr (fun K_14 hK_14 => ?_)
   refine q_mv ((pm rfl).trans ta_1_3) ?_
   refine q_ca (vs := #[.slice none (0) (0), .int .i64 (((joinP ps ps.length).length : Nat) : Int)]) Tryz.func52 (args2 rfl (pe hs_1 rfl rfl)) (Grow_sz ((joinP ps ps.length).length) _ (by omega)) (fun e_1 w_2 hR_1 => ?_)
   obtain ⟨A_1, c_1, rfl, ho_1, hb_1⟩ := hR_1
   replace ho_1 := ho_1.mono HBL.size
   have HB_1 := below_from HBL hb_1
   refine ⟨_, rfl, ?_⟩
   refine q_at (pe hs_1 rfl rfl) ?_
   refine x_nil (hK_14 _ _ ?_)
   refine w2_seq (fun K_15 hK_15 => ?_)
   refine w2_sr (fun K_16 hK_16 => ?_)
   refine q_mv ((pm rfl).trans ta_1_0) ?_
   refine q_v 26 (.int .i64 ((ps.length : Nat) : Int)) (o_lenS rfl (pe hs_1 rfl rfl)) ?_
   refine q_v 27 (.int .i64 ((0 : Nat) : Int)) (o_move rfl rfl) ?_
   refine x_nil (hK_16 _ _ ?_)
   refine w2_block (fun K_17 hK_17 => ?_)
   refine x_loop (fun nn aa ww => ∃ (K n1 c1 : Nat) (A1 : Option Addr), nn = ps.length - K ∧ aa.tmps.size = 36 ∧ aa.defers = [] ∧ aa.eval (.tmp 0) = .slice ((some ⟨gs, 0, none⟩)) (ps.length) (ps.length) ∧ aa.eval (.tmp 2) = .slice none (0) (0) ∧ aa.eval (.tmp 3) = .int .i64 (((joinP ps ps.length).length : Nat) : Int) ∧ aa.eval (.tmp 6) = .slice A1 (n1) (c1) ∧ aa.eval (.tmp 9) = .slice ((some ⟨gs, 0, none⟩)) (ps.length) (ps.length) ∧ aa.eval (.tmp 10) = .int .i64 ((ps.length : Nat) : Int) ∧ aa.eval (.tmp 11) = .int .i64 ((ps.length : Nat) : Int) ∧ aa.eval (.tmp 12) = .bool (decide (ps.length < ps.length)) ∧ aa.eval (.tmp 23) = .int .i64 (((joinP ps ps.length).length : Nat) : Int) ∧ aa.eval (.tmp 24) = .slice A_1 (0) (c_1) ∧ aa.eval (.tmp 25) = .slice ((some ⟨gs, 0, none⟩)) (ps.length) (ps.length) ∧ aa.eval (.tmp 26) = .int .i64 ((ps.length : Nat) : Int) ∧ aa.eval (.tmp 27) = .int .i64 ((K : Nat) : Int) ∧ K ≤ ps.length ∧ n1 = (joinP ps K).length ∧ Own ww w.heap.size A1 c1 (joinP ps K) ∧ Below w.heap.size w ww) (ps.length) ?_ ?_
   ·exact ⟨0, 0, c_1, A_1, rfl, (by rw [putsR_size]; exact hs_1), (by rw [putsR_defers]; exact hd_1), ((pm rfl).trans ta_1_0), ((pm rfl).trans ta_1_2), ((pm rfl).trans ta_1_3), (pe hs_1 rfl rfl), ((pm rfl).trans ta_1_9), ((pm rfl).trans ta_1_10), ((pm rfl).trans ta_1_11), (pe hs_1 rfl rfl), (pe hs_1 rfl rfl), (pe hs_1 rfl rfl), (pe hs_1 rfl rfl), (pe hs_1 rfl rfl), (pe hs_1 rfl rfl), Nat.zero_le _, rfl, ho_1, HB_1⟩
   ·skip
    clear ta_1_0 ta_1_2 ta_1_9 ta_1_10 ta_1_3 ta_1_11 hd_1 ho_1 HB_1
    rintro nna_2 a_2 w_3 ⟨K, n1, c1, A1, hm_2, hs_2, hd_2, ta_2_0, ta_2_2, ta_2_3, ta_2_6, ta_2_9, ta_2_10, ta_2_11, ta_2_12, ta_2_23, ta_2_24, ta_2_25, ta_2_26, ta_2_27, hK, hn1, hO, HBL⟩ K_18 hK_18
    subst hm_2
    refine w2_sr (fun K_19 hK_19 => ?_)
    refine q_v 28 (.bool (decide (K < ps.length))) (o_lss (m := K) (n := ps.length) rfl ((pm rfl).trans ta_2_27) ((pm rfl).trans ta_2_26)) ?_
    refine x_nil (hK_19 _ _ ?_)
    refine w2_seq (fun K_20 hK_20 => ?_)
    refine w2_split (pe hs_2 rfl rfl) (fun h_3 => ?_) (fun h_3 => ?_)
    ·simp only [DD9] at h_3
     have hlt : K < ps.length := h_3
     have hPK := hP _ (Part.mem hlt)
     have hjl := joinP_le ps _ hl (K + 1) hlt
     rw [joinP, List.length_append] at hjl
     refine w2_skip ?_
     refine hK_20 _ _ ?_
     refine w2_seq (fun K_21 hK_21 => ?_)
     refine w2_block (fun K_22 hK_22 => ?_)
     refine w2_sr (fun K_23 hK_23 => ?_)
     refine op_val (d := 29) (v := .pointer (some ⟨gs, K, none⟩)) rfl rfl (zero_off (o_ixS (off := 0) (i := K) rfl ((pm rfl).trans ta_2_25) ((pm rfl).trans ta_2_27) (by omega))) ?_
     refine q_v 30 (.slice ((Part.at ps K).A) ((Part.at ps K).xs.length) ((Part.at ps K).c)) (o_eq (o_load1 rfl (pe hs_2 rfl rfl) (hB.nx HBL) (Part.get hlt) ⟨by kernel_rfl, by kernel_rfl⟩) rfl) ?_
     refine q_at (pe hs_2 rfl rfl) ?_
     refine x_nil (hK_23 _ _ ?_)
     refine x_region (by kernel_rfl) ?_
     refine q_mv ((pm rfl).trans ta_2_6) ?_
     refine q_mv (pe hs_2 rfl rfl) ?_
     refine op_ex (d := 33) rfl rfl (o_append rfl (pe hs_2 rfl rfl) (pe hs_2 rfl rfl) hO (hPK.below HBL) (by rw [hn1]) rfl (by omega) HBL.size) (fun v_1 w_4 hR_2 => ?_)
     obtain ⟨A_2, c_2, rfl, ho_2, hb_2, hg_1, hat_1⟩ := hR_2
     have HB_2 : Below w.heap.size w w_4 := (HBL).trans hb_2
     clear hg_1 hat_1 hO
     refine q_at (pe hs_2 rfl rfl) ?_
     refine x_nil (hK_22 _ _ ?_)
     refine hK_21 _ _ ?_
     refine x_region (by kernel_rfl) ?_
     refine q_v 34 (.int .i64 ((K + 1 : Nat) : Int)) (o_add64 (m := K) (n := 1) rfl ((pm rfl).trans ta_2_27) rfl (by omega)) ?_
     refine q_mv (pe hs_2 rfl rfl) ?_
     refine x_nil ?_
     refine hK_18 _ _ _ ⟨K + 1, _, c_2, A_2, rfl, (by rw [putsR_size]; exact hs_2), (by rw [putsR_defers]; exact hd_2), ((pm rfl).trans ta_2_0), ((pm rfl).trans ta_2_2), ((pm rfl).trans ta_2_3), (pe hs_2 rfl rfl), ((pm rfl).trans ta_2_9), ((pm rfl).trans ta_2_10), ((pm rfl).trans ta_2_11), ((pm rfl).trans ta_2_12), ((pm rfl).trans ta_2_23), ((pm rfl).trans ta_2_24), ((pm rfl).trans ta_2_25), ((pm rfl).trans ta_2_26), (pe hs_2 rfl rfl), (by omega), (by rw [joinP, List.length_append, hn1]), ho_2, HB_2⟩ ?_
     omega
    ·simp only [DD9] at h_3
     obtain rfl : K = ps.length := by omega
     refine w2_exit ?_
     refine thn_exit ?_
     refine thn_exit ?_
     refine exb_hit ?_
     refine hK_17 _ _ ?_
     refine hK_15 _ _ ?_
     refine w2_sr (fun K_24 hK_24 => ?_)
     refine q_mv ((pm rfl).trans ta_2_6) ?_
     refine q_at (pe hs_2 rfl rfl) ?_
     refine x_nil (hK_24 _ _ ?_)
     refine w2_ret ?_
     refine ret1 rfl hd_2 (pe hs_2 rfl rfl) ?_
     exact ⟨_, _, by rw [hn1], hO, HBL⟩
theorem Concat2 {A1 A2 : Option Addr} {c1 n1 c2 n2 gs : Nat} {x1 x2 : List Nat} (w : World) (hB : Blk w gs #[.slice A1 n1 c1, .slice A2 n2 c2] 22) (h1 : Bs w A1 c1 x1) (e1 : x1.length = n1) (h2 : Bs w A2 c2 x2) (e2 : x2.length = n2) (hl : n1 + n2 ≤ 70368744177664) :
  Calls Tryz.prog 27 #[.slice (some ⟨gs, 0, none⟩) 2 2] w fun e w' => ∃ A c, e = .returned (.slice A (n1 + n2) c) ∧ Own w' w.heap.size A c (x1 ++ x2) ∧ Below w.heap.size w w' := by
 subst e1 e2
 have hj : joinP [⟨A1, c1, x1⟩, ⟨A2, c2, x2⟩] 2 = x1 ++ x2 := by simp [joinP, Part.at]
 have h := Concat_any (ps := [⟨A1, c1, x1⟩, ⟨A2, c2, x2⟩]) (gs := gs) w hB (by intro p hp; simp only [List.mem_cons, List.not_mem_nil, or_false] at hp; rcases hp with rfl | rfl <;> assumption) (by show (joinP _ 2).length ≤ _; rw [hj]; simp only [List.length_append]; omega) (by simp)
 have hlen : (joinP [⟨A1, c1, x1⟩, ⟨A2, c2, x2⟩] 2).length = x1.length + x2.length := by rw [hj]; simp only [List.length_append]
 simp only [List.length_cons, List.length_nil, Nat.zero_add, Nat.reduceAdd] at h
 rw [hlen, hj] at h
 exact h
theorem Concat3 {A1 A2 A3 : Option Addr} {c1 n1 c2 n2 c3 n3 gs : Nat} {x1 x2 x3 : List Nat} (w : World) (hB : Blk w gs #[.slice A1 n1 c1, .slice A2 n2 c2, .slice A3 n3 c3] 22) (h1 : Bs w A1 c1 x1) (e1 : x1.length = n1) (h2 : Bs w A2 c2 x2) (e2 : x2.length = n2) (h3 : Bs w A3 c3 x3) (e3 : x3.length = n3) (hl : n1 + n2 + n3 ≤ 70368744177664) :
  Calls Tryz.prog 27 #[.slice (some ⟨gs, 0, none⟩) 3 3] w fun e w' => ∃ A c, e = .returned (.slice A (n1 + n2 + n3) c) ∧ Own w' w.heap.size A c (x1 ++ x2 ++ x3) ∧ Below w.heap.size w w' := by
 subst e1 e2 e3
 have hj : joinP [⟨A1, c1, x1⟩, ⟨A2, c2, x2⟩, ⟨A3, c3, x3⟩] 3 = x1 ++ x2 ++ x3 := by simp [joinP, Part.at]
 have h := Concat_any (ps := [⟨A1, c1, x1⟩, ⟨A2, c2, x2⟩, ⟨A3, c3, x3⟩]) (gs := gs) w hB (by intro p hp; simp only [List.mem_cons, List.not_mem_nil, or_false] at hp; rcases hp with rfl | rfl | rfl <;> assumption) (by show (joinP _ 3).length ≤ _; rw [hj]; simp only [List.length_append]; omega) (by simp)
 have hlen : (joinP [⟨A1, c1, x1⟩, ⟨A2, c2, x2⟩, ⟨A3, c3, x3⟩] 3).length = x1.length + x2.length + x3.length := by rw [hj]; simp only [List.length_append]
 simp only [List.length_cons, List.length_nil, Nat.zero_add, Nat.reduceAdd] at h
 rw [hlen, hj] at h
 exact h
theorem Concat4 {A1 A2 A3 A4 : Option Addr} {c1 n1 c2 n2 c3 n3 c4 n4 gs : Nat} {x1 x2 x3 x4 : List Nat} (w : World) (hB : Blk w gs #[.slice A1 n1 c1, .slice A2 n2 c2, .slice A3 n3 c3, .slice A4 n4 c4] 22) (h1 : Bs w A1 c1 x1) (e1 : x1.length = n1) (h2 : Bs w A2 c2 x2) (e2 : x2.length = n2) (h3 : Bs w A3 c3 x3) (e3 : x3.length = n3) (h4 : Bs w A4 c4 x4) (e4 : x4.length = n4) (hl : n1 + n2 + n3 + n4 ≤ 70368744177664) :
  Calls Tryz.prog 27 #[.slice (some ⟨gs, 0, none⟩) 4 4] w fun e w' => ∃ A c, e = .returned (.slice A (n1 + n2 + n3 + n4) c) ∧ Own w' w.heap.size A c (x1 ++ x2 ++ x3 ++ x4) ∧ Below w.heap.size w w' := by
 subst e1 e2 e3 e4
 have hj : joinP [⟨A1, c1, x1⟩, ⟨A2, c2, x2⟩, ⟨A3, c3, x3⟩, ⟨A4, c4, x4⟩] 4 = x1 ++ x2 ++ x3 ++ x4 := by simp [joinP, Part.at]
 have h := Concat_any (ps := [⟨A1, c1, x1⟩, ⟨A2, c2, x2⟩, ⟨A3, c3, x3⟩, ⟨A4, c4, x4⟩]) (gs := gs) w hB (by intro p hp; simp only [List.mem_cons, List.not_mem_nil, or_false] at hp; rcases hp with rfl | rfl | rfl | rfl <;> assumption) (by show (joinP _ 4).length ≤ _; rw [hj]; simp only [List.length_append]; omega) (by simp)
 have hlen : (joinP [⟨A1, c1, x1⟩, ⟨A2, c2, x2⟩, ⟨A3, c3, x3⟩, ⟨A4, c4, x4⟩] 4).length = x1.length + x2.length + x3.length + x4.length := by rw [hj]; simp only [List.length_append]
 simp only [List.length_cons, List.length_nil, Nat.zero_add, Nat.reduceAdd] at h
 rw [hlen, hj] at h
 exact h
end Go.Proofs.YtodhdajelnfhpaaGreat
