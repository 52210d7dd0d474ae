/-
 WALKS: sapperlaw10.Key, sapperlaw12.awake, RecordNil.
-/
import Derived.Test.YtggalcdkfielkaaFeedM
namespace Go.Proofs.Ytggalcdkfielkaa
open Go.RowKit
set_option linter.unusedVariables false
set_option linter.unusedSimpArgs false
set_option maxRecDepth 100000
attribute [local irreducible] wpList wpListIn putsR

theorem map_one {ps : List Part} {b : List Nat} (h : ps.map Part.xs = [b]) : ∃ p, ps = [p] ∧ p.xs = b := by
 cases ps with
 | nil => cases h
 | cons p l =>
  cases l with
  | nil => exact ⟨p, rfl, by simpa using h⟩
  | cons q l => simp at h
theorem RLeft_any {M : Nat → Prop} {gr gc : Nat} {r : Rd} (w : World) (h : ReaderAt w M gr gc r) : Calls Try.prog 27 #[.pointer (some ⟨gr, 0, none⟩)] w fun e w' => e = .returned (.int .i64 ((r.wait.length : Nat) : Int)) ∧ w = w' := by
 obtain ⟨N, A, c, hP, _⟩ := h.row
 exact Left_blk w hP.blk
theorem Dead_any {M : Nat → Prop} {gr gc : Nat} {r : Rd} (w : World) (h : ReaderAt w M gr gc r) : Calls Try.prog 26 #[.pointer (some ⟨gr, 0, none⟩)] w fun e w' => e = .returned (.bool r.dead) ∧ w = w' := by
 obtain ⟨N, A, c, hP, _⟩ := h.row
 exact Dead_blk w hP.blk
theorem RCount_any {M : Nat → Prop} {gr gc : Nat} {r : Rd} (w : World) (h : ReaderAt w M gr gc r) : Calls Try.prog 28 #[.pointer (some ⟨gr, 0, none⟩)] w fun e w' => e = .returned (.int .i64 ((r.co.cnt : Nat) : Int)) ∧ w = w' := by
 obtain ⟨N, A, c, hP, _⟩ := h.row
 exact RCount_blk w hP.blk
theorem Key_any {A0 : Option Addr} {c0 q : Nat} {bs : List Nat} (w : World) (h0 : Bs w A0 c0 bs) (hq : bs.length = q) :
  Calls Try.prog 14 #[.slice A0 (q) (c0)] w fun e w' => ∃ A c, e = .returned (.slice A 32 c) ∧ Own w' w.heap.size A c (padTo 32 bs) ∧ Below w.heap.size w w' := by
 refine x_enter 9 Try.func14 rfl rfl (fun a hs hd ha0 => ?_)
 have t0 : a.eval (.tmp 0) = .slice A0 (q) (c0) := ha0 0 _ rfl
 clear ha0
 refine w2_sr (fun K_1 hK_1 => ?_)
 refine q_as (.slice none (0) (0)) rfl ?_
 refine x_nil (hK_1 _ _ ?_)
 refine w2_sr (fun K_2 hK_2 => ?_)
 refine op_ex (d := 4) rfl rfl (o_make (n := 32) rfl rfl rfl (fun _ => by kernel_rfl) (by omega)) (fun v_1 w_1 hR_1 => ?_)
 obtain ⟨g_1, rfl, ho_1, hb_1⟩ := hR_1
 refine q_at (pe hs rfl rfl) ?_
 refine x_nil (hK_2 _ _ ?_)
 refine w2_sr (fun K_3 hK_3 => ?_)
 refine q_mv (pe hs rfl rfl) ?_
 refine q_mv ((pm rfl).trans t0) ?_
 refine op_ex (d := 7) rfl rfl (o_copy rfl (pe hs rfl rfl) (pe hs rfl rfl) ho_1 (h0.below hb_1) hq (by omega) (by omega)) (fun v_2 w_2 hR_2 => ?_)
 obtain ⟨r_1, rfl, ho_2, hb_2⟩ := hR_2
 have HB_1 := hb_1.trans hb_2
 refine x_nil (hK_3 _ _ ?_)
 refine w2_sr (fun K_4 hK_4 => ?_)
 refine q_mv (pe hs rfl rfl) ?_
 refine q_at (pe hs rfl rfl) ?_
 refine x_nil (hK_4 _ _ ?_)
 refine w2_ret ?_
 refine ret1 rfl hd (pe hs rfl rfl) ?_
 exact ⟨_, _, rfl, ho_2, HB_1⟩
theorem awake12_any (w : World) :
  Calls Try.prog 29 #[] w fun e w' => e = .returned (.bool true) ∧ Below w.heap.size w w' := by
 refine x_enter 67 Try.func29 rfl rfl (fun a hs hd ha0 => ?_)
 clear ha0
 refine w2_sr (fun K_1 hK_1 => ?_)
 refine q_as (.bool (false)) rfl ?_
 refine x_nil (hK_1 _ _ ?_)
 refine w2_sr (fun K_2 hK_2 => ?_)
 refine op_ex (d := 12) rfl rfl (o_make (n := 32) rfl rfl rfl (fun _ => by kernel_rfl) (by omega)) (fun v_1 w_1 hR_1 => ?_)
 obtain ⟨g_1, rfl, ho_1, hb_1⟩ := hR_1
 refine q_ca (vs := #[.slice ((some ⟨g_1, 0, none⟩)) (32) (32)]) Try.func15 (args1 (pe hs rfl rfl)) (NewCipher_any _ (ho_1).bs (by simp only [List.length_replicate]) rfl) (fun e_1 w_2 hR_2 => ?_)
 obtain ⟨M_1, g_2, rfl, hC_1, hge_1, hb_2⟩ := hR_2
 have gg_1 := hge_1.down hb_1.size
 have HB_1 := below_from hb_1 hb_2
 refine ⟨_, rfl, ?_⟩
 refine q_mv (pe hs rfl rfl) ?_
 refine q_ex (v := .pointer (some ⟨g_2, 0, none⟩)) (pe hs rfl rfl) rfl ?_
 refine q_ex (v := .int .i64 ((0 : Nat) : Int)) (pe hs rfl rfl) rfl ?_
 refine q_at (pe hs rfl rfl) ?_
 refine q_at (v := .int .i64 ((0 : Nat) : Int)) (pe hs rfl rfl) ?_
 refine x_nil (hK_2 _ _ ?_)
 refine w2_sr (fun K_3 hK_3 => ?_)
 refine op_ex (d := 17) rfl rfl (o_make (n := 32) rfl rfl rfl (fun _ => by kernel_rfl) (by omega)) (fun v_2 w_3 hR_3 => ?_)
 obtain ⟨g_3, rfl, ho_2, hb_3⟩ := hR_3
 replace hC_1 := hC_1.nx hb_3
 have HB_2 := below_from HB_1 hb_3
 refine q_ca (vs := #[.slice ((some ⟨g_3, 0, none⟩)) (32) (32)]) Try.func15 (args1 (pe hs rfl rfl)) (NewCipher_any _ (ho_2).bs (by simp only [List.length_replicate]) rfl) (fun e_2 w_4 hR_4 => ?_)
 obtain ⟨M_2, g_4, rfl, hC_2, hge_2, hb_4⟩ := hR_4
 have sp_3 : Sep M_1 M_2 := Sep.new hC_1.lt hge_2
 have gg_2 := hge_2.down HB_2.size
 replace hC_1 := hC_1.nx hb_4
 have HB_3 := below_from HB_2 hb_4
 refine ⟨_, rfl, ?_⟩
 refine q_mv (pe hs rfl rfl) ?_
 refine q_ex (v := .pointer (some ⟨g_4, 0, none⟩)) (pe hs rfl rfl) rfl ?_
 refine q_ex (v := .int .i64 ((0 : Nat) : Int)) (pe hs rfl rfl) rfl ?_
 refine q_at (pe hs rfl rfl) ?_
 refine q_at (v := .int .i64 ((0 : Nat) : Int)) (pe hs rfl rfl) ?_
 refine x_nil (hK_3 _ _ ?_)
 refine w2_seq (fun K_4 hK_4 => ?_)
 refine w2_sr (fun K_5 hK_5 => ?_)
 refine q_mv (v := .int .i64 ((0 : Nat) : Int)) (pe hs rfl rfl) ?_
 refine q_v 22 (.bool (false)) (o_eq (o_neq (m := 0) (n := 0) rfl (pe hs rfl rfl) rfl) rfl) ?_
 refine q_mv (pe hs rfl rfl) ?_
 refine op_valG (e := 23) (d := 24) (v := .int .i64 ((0 : Nat) : Int)) rfl rfl (by kernel_rfl) (pe hs rfl rfl) (o_move rfl (pe hs rfl rfl)) ?_
 refine op_valG (e := 23) (d := 25) (v := .bool (false)) rfl rfl (by kernel_rfl) (pe hs rfl rfl) (o_eq (o_neq (m := 0) (n := 0) rfl (pe hs rfl rfl) rfl) rfl) ?_
 refine q_v 26 (.bool (false)) (o_pickF rfl (pe hs rfl rfl) (pe hs rfl rfl)) ?_
 refine x_nil (hK_5 _ _ ?_)
 refine w2_condF (pe hs rfl rfl) ?_
 refine w2_skip ?_
 refine hK_4 _ _ ?_
 refine w2_sr (fun K_6 hK_6 => ?_)
 refine q_mv (pe hs rfl rfl) ?_
 refine q_ca (vs := #[.pointer (some ⟨g_2, 0, none⟩), .int .i64 ((2 : Nat) : Int)]) Try.func17 (args2 (pe hs rfl rfl) rfl) (NewWriter_any (((2 : Nat) : Int) : Int) _ hC_1) (fun e_3 w_5 hR_5 => ?_)
 obtain ⟨M_3, g_5, rfl, hW_1, hN_1, hb_5⟩ := hR_5
 have sp_6 : Sep M_2 M_3 := hN_1.sep (sp_3.symm) hC_2.lt
 have gg_3 := hN_1.ge gg_1 HB_3.size
 replace hC_2 := hC_2.nx hb_5
 have HB_4 := below_from HB_3 hb_5
 refine ⟨_, rfl, ?_⟩
 refine q_mv (pe hs rfl rfl) ?_
 refine q_ca (vs := #[.pointer (some ⟨g_4, 0, none⟩), .int .i64 ((2 : Nat) : Int)]) Try.func18 (args2 (pe hs rfl rfl) rfl) (NewReader_any (((2 : Nat) : Int) : Int) _ hC_2) (fun e_4 w_6 hR_6 => ?_)
 obtain ⟨M_4, g_6, rfl, hW_2, hN_2, hb_6⟩ := hR_6
 have sp_9 : Sep M_3 M_4 := hN_2.sep (sp_6.symm) hW_1.lt
 have gg_4 := hN_2.ge gg_2 HB_4.size
 replace hW_1 := hW_1.nx hb_6
 have HB_5 := below_from HB_4 hb_6
 refine ⟨_, rfl, ?_⟩
 refine q_at (pe hs rfl rfl) ?_
 refine q_at (pe hs rfl rfl) ?_
 refine x_nil (hK_6 _ _ ?_)
 refine w2_sr (fun K_7 hK_7 => ?_)
 refine q_mv (pe hs rfl rfl) ?_
 refine op_ex (d := 33) rfl rfl (o_lit3 (m := 97) (n := 98) (p := 99) rfl rfl rfl rfl) (fun v_3 w_7 hR_7 => ?_)
 obtain ⟨rfl, rfl⟩ := hR_7
 refine op_ex (d := 34) rfl rfl (o_mark (n := 3) (xs := [97, 98, 99]) rfl (pe hs rfl rfl) rfl (by decide) (by omega)) (fun v_4 w_8 hR_8 => ?_)
 obtain ⟨A_1, rfl, hx_1, hb_7⟩ := hR_8
 replace hW_1 := hW_1.nx hb_7
 replace hW_2 := hW_2.nx hb_7
 have HB_6 := below_from HB_5 hb_7
 refine q_ca (vs := #[.pointer (some ⟨g_5, 0, none⟩), .slice A_1 (3) (3)]) Try.func20 (args2 (pe hs rfl rfl) (pe hs rfl rfl)) (Put_any _ hW_1 hx_1 (by simp only [List.length_cons, List.length_nil]) (by omega) (by show 0 < _; decide) (by show 0 < _; decide)) (fun e_5 w_9 hR_9 => ?_)
 obtain ⟨A_2, c_1, rfl, ho_3, ⟨M_5, hW_3, hN_3, hs_1⟩, hX_1⟩ := hR_9
 have hl_1 : (recL (⟨List.replicate 32 0, 0, everyN 2, 0⟩) ([97, 98, 99])).length = sizeN 3 + 34 := by rw [recL_length _ (by have h9 : ([97, 98, 99]).length = 3 := (by simp only [List.length_cons, List.length_nil]); omega)]; rw [show ([97, 98, 99]).length = 3 from (by simp only [List.length_cons, List.length_nil])]
 have sp_12 : Sep M_4 M_5 := hN_3.sep (sp_9.symm) hW_2.lt
 replace hW_2 := hW_2.keepM hX_1 (sp_9.symm)
 replace ho_3 := ho_3.mono HB_6.size
 have HB_7 := hX_1.below HB_6 HB_6.size gg_3
 refine ⟨_, rfl, ?_⟩
 refine q_mv (pe hs rfl rfl) ?_
 refine q_ex (v := .slice A_2 (sizeN 3 + 34) (c_1)) (pe hs rfl rfl) rfl ?_
 refine q_ex (v := .int .i64 ((0 : Nat) : Int)) (pe hs rfl rfl) rfl ?_
 refine q_at (pe hs rfl rfl) ?_
 refine q_at (v := .int .i64 ((0 : Nat) : Int)) (pe hs rfl rfl) ?_
 refine x_nil (hK_7 _ _ ?_)
 refine w2_sr (fun K_8 hK_8 => ?_)
 refine q_mv (pe hs rfl rfl) ?_
 refine q_mv (pe hs rfl rfl) ?_
 refine q_ca (vs := #[.pointer (some ⟨g_6, 0, none⟩), .slice A_2 (sizeN 3 + 34) (c_1)]) Try.func23 (args2 (pe hs rfl rfl) (pe hs rfl rfl)) (Feed_any _ hW_2 rfl (ho_3).bs hl_1 (feed_one _ (by decide)) (by show 0 + (0 + (sizeN 3 + 34)) < _; decide) (by show 0 + (0 + (sizeN 3 + 34)) < _; decide) (by show 0 + (sizeN 3 + 34) ≤ _; decide)) (fun e_6 w_10 hR_10 => ?_)
 obtain ⟨ps_1, A_3, c_2, rfl, hm_1, hRw_1, hAO_1, ⟨M_6, hR_11, hN_4, hs_2, hs_3⟩, hX_2⟩ := hR_10
 obtain ⟨p_1, rfl, hp_1⟩ := map_one hm_1
 replace hW_3 := hW_3.keepM hX_2 (sp_12.symm)
 replace hRw_1 := hRw_1.mono HB_7.size
 replace hAO_1 := hAO_1.mono HB_7.size
 have HB_8 := hX_2.below HB_7 HB_7.size gg_4
 obtain ⟨g_7, cur_1, rfl, hB_1, hcu_1⟩ := hRw_1.at (i := 0) (by simp)
 have hOp_1 := hAO_1 p_1 (by simp)
 refine ⟨_, rfl, ?_⟩
 refine q_mv (pe hs rfl rfl) ?_
 refine q_ex (v := .slice ((some ⟨g_7, 0, none⟩)) (1) (c_2)) (pe hs rfl rfl) rfl ?_
 refine q_ex (v := .int .i64 ((0 : Nat) : Int)) (pe hs rfl rfl) rfl ?_
 refine q_at (pe hs rfl rfl) ?_
 refine q_at (v := .int .i64 ((0 : Nat) : Int)) (pe hs rfl rfl) ?_
 refine x_nil (hK_8 _ _ ?_)
 refine w2_sr (fun K_9 hK_9 => ?_)
 refine q_mv (v := .int .i64 ((0 : Nat) : Int)) (pe hs rfl rfl) ?_
 refine q_v 45 (.bool (true)) (o_eq (o_eql (m := 0) (n := 0) rfl (pe hs rfl rfl) rfl) rfl) ?_
 refine q_mv (pe hs rfl rfl) ?_
 refine op_valG (e := 46) (d := 47) (v := .int .i64 ((0 : Nat) : Int)) rfl rfl (by kernel_rfl) (pe hs rfl rfl) (o_move rfl (pe hs rfl rfl)) ?_
 refine op_valG (e := 46) (d := 48) (v := .bool (true)) rfl rfl (by kernel_rfl) (pe hs rfl rfl) (o_eq (o_eql (m := 0) (n := 0) rfl (pe hs rfl rfl) rfl) rfl) ?_
 refine q_v 49 (.bool (true)) (o_pickT rfl (pe hs rfl rfl) (pe hs rfl rfl)) ?_
 refine q_mv (pe hs rfl rfl) ?_
 refine op_valG (e := 50) (d := 51) (v := .slice A_2 (sizeN 3 + 34) (c_1)) rfl rfl (by kernel_rfl) (pe hs rfl rfl) (o_move rfl (pe hs rfl rfl)) ?_
 refine op_valG (e := 50) (d := 52) (v := .int .i64 ((sizeN 3 + 34 : Nat) : Int)) rfl rfl (by kernel_rfl) (pe hs rfl rfl) (o_len rfl (pe hs rfl rfl)) ?_
 refine op_valG (e := 50) (d := 53) (v := .bool (true)) rfl rfl (by kernel_rfl) (pe hs rfl rfl) (o_eq (o_eql (m := (sizeN 3 + 34)) (n := 98) rfl (pe hs rfl rfl) rfl) (congrArg Value.bool (by decide))) ?_
 refine q_v 54 (.bool (true)) (o_pickT rfl (pe hs rfl rfl) (pe hs rfl rfl)) ?_
 refine q_mv (pe hs rfl rfl) ?_
 refine op_valG (e := 55) (d := 56) (v := .slice ((some ⟨g_7, 0, none⟩)) (1) (c_2)) rfl rfl (by kernel_rfl) (pe hs rfl rfl) (o_move rfl (pe hs rfl rfl)) ?_
 refine op_valG (e := 55) (d := 57) (v := .int .i64 ((1 : Nat) : Int)) rfl rfl (by kernel_rfl) (pe hs rfl rfl) (o_lenS rfl (pe hs rfl rfl)) ?_
 refine op_valG (e := 55) (d := 58) (v := .bool (true)) rfl rfl (by kernel_rfl) (pe hs rfl rfl) (o_eq (o_eql (m := 1) (n := 1) rfl (pe hs rfl rfl) rfl) rfl) ?_
 refine q_v 59 (.bool (true)) (o_pickT rfl (pe hs rfl rfl) (pe hs rfl rfl)) ?_
 refine q_mv (pe hs rfl rfl) ?_
 refine op_valG (e := 60) (d := 61) (v := .slice ((some ⟨g_7, 0, none⟩)) (1) (c_2)) rfl rfl (by kernel_rfl) (pe hs rfl rfl) (o_move rfl (pe hs rfl rfl)) ?_
 refine op_valG (e := 60) (d := 62) (v := .pointer (some ⟨g_7, 0, none⟩)) rfl rfl (by kernel_rfl) (pe hs rfl rfl) (zero_off (o_ixS (off := 0) (i := 0) rfl (pe hs rfl rfl) rfl (by omega))) ?_
 refine op_valG (e := 60) (d := 63) (v := .slice p_1.A (p_1.xs.length) (p_1.c)) rfl rfl (by kernel_rfl) (pe hs rfl rfl) (o_load1 rfl (pe hs rfl rfl) hB_1 hcu_1 ⟨by kernel_rfl, by kernel_rfl⟩) ?_
 refine op_valG (e := 60) (d := 64) (v := .string (strB p_1.xs)) rfl rfl (by kernel_rfl) (pe hs rfl rfl) (o_str rfl (pe hs rfl rfl) (hOp_1).bs rfl) ?_
 refine op_valG (e := 60) (d := 65) (v := .bool (true)) rfl rfl (by kernel_rfl) (pe hs rfl rfl) (o_eqS rfl (pe hs rfl rfl) rfl (by rw [hp_1]; decide)) ?_
 refine q_v 66 (.bool (true)) (o_pickT rfl (pe hs rfl rfl) (pe hs rfl rfl)) ?_
 refine q_at (pe hs rfl rfl) ?_
 refine x_nil (hK_9 _ _ ?_)
 refine w2_ret ?_
 refine ret1 rfl hd (pe hs rfl rfl) ?_
 exact ⟨rfl, HB_8⟩
end Go.Proofs.Ytggalcdkfielkaa
