/-
 WALKS: noise.Cipher's Seal, Open (its set stays); sapperlaw10.Key, awake.
-/
import Derived.Test.YtbgonhmaeekkaaaHand
import Derived.Test.YtbgonhmaeekkaaaRow
namespace Go.Proofs.Ytbgonhmaeekkaaa
open Go.RowKit
set_option linter.unusedVariables false
set_option linter.unusedSimpArgs false
set_option maxRecDepth 100000
attribute [local irreducible] wpList wpListIn putsR

theorem dhL_comm (a b : List Nat) : dhL a (secN b) = dhL b (secN a) := by unfold dhL; rw [Nat.mul_comm]
theorem openL_outS (S : Sy) (xs : List Nat) : openL S.k (nonceL 0) S.h (outS S xs) = (xs, 0) := openL_sealL ..
theorem key_good {bs : List Nat} (h : ∀ x ∈ bs, x < 256) : ¬ ell ∣ secN (padTo 32 bs) := by
 refine sec_good _ (padTo_length _ _) (fun x hx => ?_)
 unfold padTo at hx
 rcases List.mem_append.1 hx with h1 | h1
 ·exact h x (List.mem_of_mem_take h1)
 ·rw [List.eq_of_mem_replicate h1]
  decide
def TupH (w0 : World) (st : HS) (w : World) (v : Value) : Prop := ∃ (M : Nat → Prop) (g : Nat), v = .tuple #[.pointer (some ⟨g, 0, none⟩), .int .i64 ((0 : Nat) : Int)] ∧ HandAt w M g st ∧ Ge w0 M
theorem stTupH {w0 : World} {st : HS} : StP (TupH w0 st) := fun _ _ _ ⟨M, g, hv, h, hg⟩ hb => ⟨M, g, hv, h.nx hb, hg⟩
def PtrH (w0 : World) (st : HS) (w : World) (v : Value) : Prop := ∃ (M : Nat → Prop) (g : Nat), v = .pointer (some ⟨g, 0, none⟩) ∧ HandAt w M g st ∧ Ge w0 M
theorem stPtrH {w0 : World} {st : HS} : StP (PtrH w0 st) := fun _ _ _ ⟨M, g, hv, h, hg⟩ hb => ⟨M, g, hv, h.nx hb, hg⟩
theorem Bs.first {w : World} {A : Option Addr} {c n : Nat} {xs : List Nat} (h : Bs w A c xs) (hn : n ≤ xs.length) : Bs w (subA A 0 c) c (xs.take n) := by
 have h1 := Bs.sub h (l := 0) (q := n) (m := c) (by omega) (by have := h.le; omega) (Nat.le_refl _)
 rwa [List.drop_zero, Nat.sub_zero, Nat.sub_zero] at h1
theorem Key_any {A0 : Option Addr} {c0 q : Nat} {bs : List Nat} (w : World) (h0 : Bs w A0 c0 bs) (hq : bs.length = q) :
  Calls Try.prog 12 #[.slice A0 (q) (c0)] w fun e w' => ∃ A c, e = .returned (.slice A 32 c) ∧ Own w' w.heap.size A c (padTo 32 bs) ∧ Below w.heap.size w w' := by
 refine x_enter 9 Try.func12 rfl rfl (fun a hs hd ha0 => ?_)
 have t0 : a.eval (.tmp 0) = .slice A0 (q) (c0) := ha0 0 _ rfl
 clear ha0
 refine w2_sr (fun K_1 hK_1 => ?_)
 refine q_as (.slice none (0) (0)) rfl ?_
 refine x_nil (hK_1 _ _ ?_)
 refine w2_sr (fun K_2 hK_2 => ?_)
 refine op_ex (d := 4) rfl rfl (o_make (n := 32) rfl rfl rfl (fun _ => by kernel_rfl) (by omega)) (fun v_1 w_1 hR_1 => ?_)
 obtain ⟨g_1, rfl, ho_1, hb_1⟩ := hR_1
 refine q_at (pe hs rfl rfl) ?_
 refine x_nil (hK_2 _ _ ?_)
 refine w2_sr (fun K_3 hK_3 => ?_)
 refine q_mv (pe hs rfl rfl) ?_
 refine q_mv ((pm rfl).trans t0) ?_
 refine op_ex (d := 7) rfl rfl (o_copy rfl (pe hs rfl rfl) (pe hs rfl rfl) ho_1 (h0.below hb_1) hq (by omega) (by omega)) (fun v_2 w_2 hR_2 => ?_)
 obtain ⟨r_1, rfl, ho_2, hb_2⟩ := hR_2
 have HB_1 := hb_1.trans hb_2
 refine x_nil (hK_3 _ _ ?_)
 refine w2_sr (fun K_4 hK_4 => ?_)
 refine q_mv (pe hs rfl rfl) ?_
 refine q_at (pe hs rfl rfl) ?_
 refine x_nil (hK_4 _ _ ?_)
 refine w2_ret ?_
 refine ret1 rfl hd (pe hs rfl rfl) ?_
 exact ⟨_, _, rfl, ho_2, HB_1⟩
theorem awake10_any (w : World) :
  Calls Try.prog 10 #[] w fun e w' => e = .returned (.bool true) ∧ Below w.heap.size w w' := by
 refine x_enter 79 Try.func10 rfl rfl (fun a hs hd ha0 => ?_)
 clear ha0
 refine w2_sr (fun K_1 hK_1 => ?_)
 refine q_as (.bool (false)) rfl ?_
 refine x_nil (hK_1 _ _ ?_)
 refine w2_sr (fun K_2 hK_2 => ?_)
 refine op_ex (d := 12) rfl rfl (o_build1 (m := 7) rfl rfl (by omega)) (fun v_1 w_1 hR_1 => ?_)
 obtain ⟨g_1, rfl, ho_1, hb_1⟩ := hR_1
 refine q_ca (vs := #[.slice ((some ⟨g_1, 0, none⟩)) (1) (1)]) Try.func12 (args1 (pe hs rfl rfl)) (Key_any _ (ho_1).bs (by simp only [List.length_cons, List.length_nil])) (fun e_1 w_2 hR_2 => ?_)
 obtain ⟨A_1, c_1, rfl, ho_2, hb_2⟩ := hR_2
 replace ho_2 := ho_2.mono hb_1.size
 have HB_1 := below_from hb_1 hb_2
 refine ⟨_, rfl, ?_⟩
 refine q_ca (vs := #[.slice A_1 (32) (c_1)]) Try.func17 (args1 (pe hs rfl rfl)) (Base_own _ (ho_2).bs (by simp only [padTo_length])) (fun e_2 w_3 hR_3 => ?_)
 obtain ⟨A_2, c_2, rfl, ho_3, hb_3⟩ := hR_3
 replace ho_3 := ho_3.mono HB_1.size
 have HB_2 := below_from HB_1 hb_3
 refine ⟨_, rfl, ?_⟩
 refine q_mv (pe hs rfl rfl) ?_
 refine q_ex (v := .slice A_2 (32) (c_2)) (pe hs rfl rfl) rfl ?_
 refine q_ex (v := .int .i64 ((0 : Nat) : Int)) (pe hs rfl rfl) rfl ?_
 refine q_at (pe hs rfl rfl) ?_
 refine q_at (v := .int .i64 ((0 : Nat) : Int)) (pe hs rfl rfl) ?_
 refine x_nil (hK_2 _ _ ?_)
 refine w2_sr (fun K_3 hK_3 => ?_)
 refine op_ex (d := 18) rfl rfl (o_build1 (m := 1) rfl rfl (by omega)) (fun v_2 w_4 hR_4 => ?_)
 obtain ⟨g_2, rfl, ho_4, hb_4⟩ := hR_4
 replace ho_4 := ho_4.mono HB_2.size
 replace ho_3 := ho_3.nx hb_4
 have HB_3 := below_from HB_2 hb_4
 refine q_ca (vs := #[.slice ((some ⟨g_2, 0, none⟩)) (1) (1)]) Try.func12 (args1 (pe hs rfl rfl)) (Key_any _ (ho_4).bs (by simp only [List.length_cons, List.length_nil])) (fun e_3 w_5 hR_5 => ?_)
 obtain ⟨A_3, c_3, rfl, ho_5, hb_5⟩ := hR_5
 replace ho_5 := ho_5.mono HB_3.size
 replace ho_3 := ho_3.nx hb_5
 have HB_4 := below_from HB_3 hb_5
 refine ⟨_, rfl, ?_⟩
 refine q_mv (pe hs rfl rfl) ?_
 refine op_ex (d := 21) rfl rfl (o_build1 (m := 2) rfl rfl (by omega)) (fun v_3 w_6 hR_6 => ?_)
 obtain ⟨g_3, rfl, ho_6, hb_6⟩ := hR_6
 replace ho_6 := ho_6.mono HB_4.size
 replace ho_3 := ho_3.nx hb_6
 replace ho_5 := ho_5.nx hb_6
 have HB_5 := below_from HB_4 hb_6
 refine q_ca (vs := #[.slice ((some ⟨g_3, 0, none⟩)) (1) (1)]) Try.func12 (args1 (pe hs rfl rfl)) (Key_any _ (ho_6).bs (by simp only [List.length_cons, List.length_nil])) (fun e_4 w_7 hR_7 => ?_)
 obtain ⟨A_4, c_4, rfl, ho_7, hb_7⟩ := hR_7
 replace ho_7 := ho_7.mono HB_5.size
 replace ho_3 := ho_3.nx hb_7
 replace ho_5 := ho_5.nx hb_7
 have HB_6 := below_from HB_5 hb_7
 refine ⟨_, rfl, ?_⟩
 refine q_ca (vs := #[.int .i64 ((1 : Nat) : Int), .slice A_3 (32) (c_3), .slice A_2 (32) (c_2), .slice A_4 (32) (c_4)]) Try.func18 (args4 rfl (pe hs rfl rfl) (pe hs rfl rfl) (pe hs rfl rfl)) (Ask_any 1 _ (ho_5).bs (by simp only [padTo_length]) (ho_3).bs (pubL_length _) (ho_7).bs (by simp only [padTo_length]) (by omega)) (fun e_5 w_8 hR_8 => ?_)
 obtain ⟨M_1, g_4, rfl, hH_1, hge_1, hb_8⟩ := hR_8
 have gg_1 := hge_1.down HB_6.size
 have HB_7 := below_from HB_6 hb_8
 refine ⟨_, rfl, ?_⟩
 refine q_mv (pe hs rfl rfl) ?_
 refine q_ex (v := .pointer (some ⟨g_4, 0, none⟩)) (pe hs rfl rfl) rfl ?_
 refine q_ex (v := .int .i64 ((0 : Nat) : Int)) (pe hs rfl rfl) rfl ?_
 refine q_at (pe hs rfl rfl) ?_
 refine q_at (v := .int .i64 ((0 : Nat) : Int)) (pe hs rfl rfl) ?_
 refine x_nil (hK_3 _ _ ?_)
 refine w2_sr (fun K_4 hK_4 => ?_)
 refine op_ex (d := 27) rfl rfl (o_build1 (m := 1) rfl rfl (by omega)) (fun v_4 w_9 hR_9 => ?_)
 obtain ⟨g_5, rfl, ho_8, hb_9⟩ := hR_9
 replace ho_8 := ho_8.mono HB_7.size
 replace hH_1 := hH_1.nx hb_9
 have HB_8 := below_from HB_7 hb_9
 refine q_ca (vs := #[.slice ((some ⟨g_5, 0, none⟩)) (1) (1)]) Try.func12 (args1 (pe hs rfl rfl)) (Key_any _ (ho_8).bs (by simp only [List.length_cons, List.length_nil])) (fun e_6 w_10 hR_10 => ?_)
 obtain ⟨A_5, c_5, rfl, ho_9, hb_10⟩ := hR_10
 replace ho_9 := ho_9.mono HB_8.size
 replace hH_1 := hH_1.nx hb_10
 have HB_9 := below_from HB_8 hb_10
 refine ⟨_, rfl, ?_⟩
 refine op_ex (d := 29) rfl rfl (o_build1 (m := 7) rfl rfl (by omega)) (fun v_5 w_11 hR_11 => ?_)
 obtain ⟨g_6, rfl, ho_10, hb_11⟩ := hR_11
 replace ho_10 := ho_10.mono HB_9.size
 replace hH_1 := hH_1.nx hb_11
 replace ho_9 := ho_9.nx hb_11
 have HB_10 := below_from HB_9 hb_11
 refine q_ca (vs := #[.slice ((some ⟨g_6, 0, none⟩)) (1) (1)]) Try.func12 (args1 (pe hs rfl rfl)) (Key_any _ (ho_10).bs (by simp only [List.length_cons, List.length_nil])) (fun e_7 w_12 hR_12 => ?_)
 obtain ⟨A_6, c_6, rfl, ho_11, hb_12⟩ := hR_12
 replace ho_11 := ho_11.mono HB_10.size
 replace hH_1 := hH_1.nx hb_12
 replace ho_9 := ho_9.nx hb_12
 have HB_11 := below_from HB_10 hb_12
 refine ⟨_, rfl, ?_⟩
 refine op_ex (d := 31) rfl rfl (o_build1 (m := 3) rfl rfl (by omega)) (fun v_6 w_13 hR_13 => ?_)
 obtain ⟨g_7, rfl, ho_12, hb_13⟩ := hR_13
 replace ho_12 := ho_12.mono HB_11.size
 replace hH_1 := hH_1.nx hb_13
 replace ho_9 := ho_9.nx hb_13
 replace ho_11 := ho_11.nx hb_13
 have HB_12 := below_from HB_11 hb_13
 refine q_ca (vs := #[.slice ((some ⟨g_7, 0, none⟩)) (1) (1)]) Try.func12 (args1 (pe hs rfl rfl)) (Key_any _ (ho_12).bs (by simp only [List.length_cons, List.length_nil])) (fun e_8 w_14 hR_14 => ?_)
 obtain ⟨A_7, c_7, rfl, ho_13, hb_14⟩ := hR_14
 replace ho_13 := ho_13.mono HB_12.size
 replace hH_1 := hH_1.nx hb_14
 replace ho_9 := ho_9.nx hb_14
 replace ho_11 := ho_11.nx hb_14
 have HB_13 := below_from HB_12 hb_14
 refine ⟨_, rfl, ?_⟩
 refine q_ca (vs := #[.int .i64 ((1 : Nat) : Int), .slice A_5 (32) (c_5), .slice A_6 (32) (c_6), .slice A_7 (32) (c_7)]) Try.func19 (args4 rfl (pe hs rfl rfl) (pe hs rfl rfl) (pe hs rfl rfl)) (Answer_any 1 _ (ho_9).bs (by simp only [padTo_length]) (ho_11).bs (by simp only [padTo_length]) (ho_13).bs (by simp only [padTo_length]) (by omega)) (fun e_9 w_15 hR_15 => ?_)
 obtain ⟨M_2, g_8, rfl, hH_2, hge_2, hb_15⟩ := hR_15
 have sp_15 : Sep M_1 M_2 := Sep.new hH_1.lt hge_2
 have gg_2 := hge_2.down HB_13.size
 replace hH_1 := hH_1.nx hb_15
 have HB_14 := below_from HB_13 hb_15
 refine ⟨_, rfl, ?_⟩
 refine q_mv (pe hs rfl rfl) ?_
 refine q_ex (v := .pointer (some ⟨g_8, 0, none⟩)) (pe hs rfl rfl) rfl ?_
 refine q_ex (v := .int .i64 ((0 : Nat) : Int)) (pe hs rfl rfl) rfl ?_
 refine q_at (pe hs rfl rfl) ?_
 refine q_at (v := .int .i64 ((0 : Nat) : Int)) (pe hs rfl rfl) ?_
 refine x_nil (hK_4 _ _ ?_)
 refine w2_seq (fun K_5 hK_5 => ?_)
 refine w2_sr (fun K_6 hK_6 => ?_)
 refine q_mv (v := .int .i64 ((0 : Nat) : Int)) (pe hs rfl rfl) ?_
 refine q_v 37 (.bool (false)) (o_eq (o_neq (m := 0) (n := 0) rfl (pe hs rfl rfl) rfl) rfl) ?_
 refine q_mv (pe hs rfl rfl) ?_
 refine op_valG (e := 38) (d := 39) (v := .int .i64 ((0 : Nat) : Int)) rfl rfl (by kernel_rfl) (pe hs rfl rfl) (o_move rfl (pe hs rfl rfl)) ?_
 refine op_valG (e := 38) (d := 40) (v := .bool (false)) rfl rfl (by kernel_rfl) (pe hs rfl rfl) (o_eq (o_neq (m := 0) (n := 0) rfl (pe hs rfl rfl) rfl) rfl) ?_
 refine q_v 41 (.bool (false)) (o_pickF rfl (pe hs rfl rfl) (pe hs rfl rfl)) ?_
 refine q_mv (pe hs rfl rfl) ?_
 refine op_valG (e := 42) (d := 43) (v := .pointer (some ⟨g_4, 0, none⟩)) rfl rfl (by kernel_rfl) (pe hs rfl rfl) (o_move rfl (pe hs rfl rfl)) ?_
 refine op_valG (e := 42) (d := 44) (v := .bool (false)) rfl rfl (by kernel_rfl) (pe hs rfl rfl) (o_nil (b := false) rfl (pe hs rfl rfl) rfl rfl ⟨57, fun _ => by kernel_rfl⟩) ?_
 refine q_v 45 (.bool (false)) (o_pickF rfl (pe hs rfl rfl) (pe hs rfl rfl)) ?_
 refine q_mv (pe hs rfl rfl) ?_
 refine op_valG (e := 46) (d := 47) (v := .pointer (some ⟨g_8, 0, none⟩)) rfl rfl (by kernel_rfl) (pe hs rfl rfl) (o_move rfl (pe hs rfl rfl)) ?_
 refine op_valG (e := 46) (d := 48) (v := .bool (false)) rfl rfl (by kernel_rfl) (pe hs rfl rfl) (o_nil (b := false) rfl (pe hs rfl rfl) rfl rfl ⟨57, fun _ => by kernel_rfl⟩) ?_
 refine q_v 49 (.bool (false)) (o_pickF rfl (pe hs rfl rfl) (pe hs rfl rfl)) ?_
 refine x_nil (hK_6 _ _ ?_)
 refine w2_condF (pe hs rfl rfl) ?_
 refine w2_skip ?_
 refine hK_5 _ _ ?_
 refine w2_sr (fun K_7 hK_7 => ?_)
 refine q_mv (pe hs rfl rfl) ?_
 refine op_ex (d := 52) rfl rfl (o_litC (xs := [104, 101, 108, 108, 111]) (vs := #[(0, .int .u8 ((104 : Nat) : Int)), (1, .int .u8 ((101 : Nat) : Int)), (2, .int .u8 ((108 : Nat) : Int)), (3, .int .u8 ((108 : Nat) : Int)), (4, .int .u8 ((111 : Nat) : Int))]) rfl (bldc (fun _ => rfl) _ _ rfl) (fun _ => by kernel_rfl)) (fun v_7 w_16 hR_16 => ?_)
 obtain ⟨rfl, rfl⟩ := hR_16
 refine op_ex (d := 53) rfl rfl (o_mark (n := 5) (xs := [104, 101, 108, 108, 111]) rfl (pe hs rfl rfl) rfl (by decide) (by omega)) (fun v_8 w_17 hR_17 => ?_)
 obtain ⟨A_8, rfl, hx_7, hb_16⟩ := hR_17
 replace hH_1 := hH_1.nx hb_16
 replace hH_2 := hH_2.nx hb_16
 have HB_15 := below_from HB_14 hb_16
 refine q_ca (vs := #[.pointer (some ⟨g_4, 0, none⟩), .slice A_8 (5) (5)]) Try.func21 (args2 (pe hs rfl rfl) (pe hs rfl rfl)) (Write_first _ hH_1 hx_7 (by simp only [List.length_cons, List.length_nil]) (by omega) (key_good (by decide)) (pubL_num _)) (fun e_10 w_18 hR_18 => ?_)
 obtain ⟨A_9, c_8, rfl, ho_14, ⟨M_3, hH_3, hN_1, hs_1⟩, hX_1⟩ := hR_18
 obtain ⟨S1, hS1⟩ : ∃ q : Sy, q = (firstS (shaL nameS) (shaL (shaL (shaL nameS ++ [1 / 256 % 256, 1 % 256]) ++ (pubL (padTo 32 ([7]))))) (padTo 32 ([1])) (pubL (padTo 32 ([2]))) (dhL (padTo 32 ([2])) ((secN (padTo 32 [7]))))) := ⟨_, rfl⟩
 rw [← hS1] at ho_14 hH_3
 have hl_1 : (pubL (padTo 32 ([2])) ++ outS S1 ([104, 101, 108, 108, 111])).length = 32 + (5 + 16) := by rw [List.length_append, outS_length, pubL_length]; have h9 : ([104, 101, 108, 108, 111] : List Nat).length = 5 := (by simp only [List.length_cons, List.length_nil]); omega
 have sp_36 : Sep M_2 M_3 := hN_1.sep (sp_15.symm) hH_2.lt
 replace hH_2 := hH_2.keepM hX_1 (sp_15.symm)
 replace ho_14 := ho_14.mono HB_15.size
 have HB_16 := hX_1.below HB_15 HB_15.size gg_1
 refine ⟨_, rfl, ?_⟩
 refine q_mv (pe hs rfl rfl) ?_
 refine q_ex (v := .slice A_9 (32 + (5 + 16)) (c_8)) (pe hs rfl rfl) rfl ?_
 refine q_ex (v := .int .i64 ((0 : Nat) : Int)) (pe hs rfl rfl) rfl ?_
 refine q_at (pe hs rfl rfl) ?_
 refine q_at (v := .int .i64 ((0 : Nat) : Int)) (pe hs rfl rfl) ?_
 refine x_nil (hK_7 _ _ ?_)
 refine w2_sr (fun K_8 hK_8 => ?_)
 refine q_mv (pe hs rfl rfl) ?_
 refine q_mv (pe hs rfl rfl) ?_
 refine q_ca (vs := #[.pointer (some ⟨g_8, 0, none⟩), .slice A_9 (32 + (5 + 16)) (c_8)]) Try.func20 (args2 (pe hs rfl rfl) (pe hs rfl rfl)) (Read_first _ hH_2 (ho_14).bs hl_1 (by omega) (by omega) (pubL_length _) (key_good (by decide)) (pubL_num _) (by rw [dhL_comm (padTo 32 [7]) (padTo 32 [2]), ← hS1]; exact openL_outS S1 _)) (fun e_11 w_19 hR_19 => ?_)
 obtain ⟨A_10, c_9, rfl, ho_15, ⟨M_4, hH_4, hN_2, hs_2⟩, hX_2⟩ := hR_19
 rw [dhL_comm (padTo 32 [7]) (padTo 32 [2]), ← hS1] at hH_4
 replace hH_3 := hH_3.keepM hX_2 (sp_36.symm)
 replace ho_15 := ho_15.mono HB_16.size
 have HB_17 := hX_2.below HB_16 HB_16.size gg_2
 refine ⟨_, rfl, ?_⟩
 refine q_mv (pe hs rfl rfl) ?_
 refine q_ex (v := .slice A_10 (([104, 101, 108, 108, 111]).length) (c_9)) (pe hs rfl rfl) rfl ?_
 refine q_ex (v := .int .i64 ((0 : Nat) : Int)) (pe hs rfl rfl) rfl ?_
 refine q_at (pe hs rfl rfl) ?_
 refine q_at (v := .int .i64 ((0 : Nat) : Int)) (pe hs rfl rfl) ?_
 refine x_nil (hK_8 _ _ ?_)
 refine w2_sr (fun K_9 hK_9 => ?_)
 refine q_mv (v := .int .i64 ((0 : Nat) : Int)) (pe hs rfl rfl) ?_
 refine q_v 64 (.bool (true)) (o_eq (o_eql (m := 0) (n := 0) rfl (pe hs rfl rfl) rfl) rfl) ?_
 refine q_mv (pe hs rfl rfl) ?_
 refine op_valG (e := 65) (d := 66) (v := .int .i64 ((0 : Nat) : Int)) rfl rfl (by kernel_rfl) (pe hs rfl rfl) (o_move rfl (pe hs rfl rfl)) ?_
 refine op_valG (e := 65) (d := 67) (v := .bool (true)) rfl rfl (by kernel_rfl) (pe hs rfl rfl) (o_eq (o_eql (m := 0) (n := 0) rfl (pe hs rfl rfl) rfl) rfl) ?_
 refine q_v 68 (.bool (true)) (o_pickT rfl (pe hs rfl rfl) (pe hs rfl rfl)) ?_
 refine q_mv (pe hs rfl rfl) ?_
 refine op_valG (e := 69) (d := 70) (v := .slice A_9 (32 + (5 + 16)) (c_8)) rfl rfl (by kernel_rfl) (pe hs rfl rfl) (o_move rfl (pe hs rfl rfl)) ?_
 refine op_valG (e := 69) (d := 71) (v := .int .i64 ((32 + (5 + 16) : Nat) : Int)) rfl rfl (by kernel_rfl) (pe hs rfl rfl) (o_len rfl (pe hs rfl rfl)) ?_
 refine op_valG (e := 69) (d := 72) (v := .bool (true)) rfl rfl (by kernel_rfl) (pe hs rfl rfl) (o_eq (o_eql (m := (32 + (5 + 16))) (n := 53) rfl (pe hs rfl rfl) rfl) (congrArg Value.bool (by decide))) ?_
 refine q_v 73 (.bool (true)) (o_pickT rfl (pe hs rfl rfl) (pe hs rfl rfl)) ?_
 refine q_mv (pe hs rfl rfl) ?_
 refine op_valG (e := 74) (d := 75) (v := .slice A_10 (([104, 101, 108, 108, 111]).length) (c_9)) rfl rfl (by kernel_rfl) (pe hs rfl rfl) (o_move rfl (pe hs rfl rfl)) ?_
 refine op_valG (e := 74) (d := 76) (v := .string (strB ([104, 101, 108, 108, 111]))) rfl rfl (by kernel_rfl) (pe hs rfl rfl) (o_str rfl (pe hs rfl rfl) (ho_15).bs rfl) ?_
 refine op_valG (e := 74) (d := 77) (v := .bool (true)) rfl rfl (by kernel_rfl) (pe hs rfl rfl) (o_eqS rfl (pe hs rfl rfl) rfl (by decide)) ?_
 refine q_v 78 (.bool (true)) (o_pickT rfl (pe hs rfl rfl) (pe hs rfl rfl)) ?_
 refine q_at (pe hs rfl rfl) ?_
 refine x_nil (hK_9 _ _ ?_)
 refine w2_ret ?_
 refine ret1 rfl hd (pe hs rfl rfl) ?_
 exact ⟨rfl, HB_17⟩
end Go.Proofs.Ytbgonhmaeekkaaa
