/-
 WALKS: sapperlaw10.CipherKeys.
-/
import Derived.Test.YtbgonhmaeekkaaaAwake10
namespace Go.Proofs.Ytbgonhmaeekkaaa
open Go.RowKit
set_option linter.unusedVariables false
set_option linter.unusedSimpArgs false
set_option maxRecDepth 100000
attribute [local irreducible] wpList wpListIn putsR

theorem CKeys0 {A1 A2 : Option Addr} {c1 c2 n1 n2 : Nat} {ks xb : List Nat} (w : World) (h1 : Bs w A1 c1 ks) (l1 : ks.length = n1) (h2 : Bs w A2 c2 xb) (l2 : xb.length = n2) (hbig : 100 < n2) :
  Calls Try.prog 3 #[.slice A1 (n1) (c1), .slice A2 (n2) (c2)] w fun e w' => e = .returned (.bool true) ∧ Below w.heap.size w w' := by
 refine x_enter 79 Try.func3 rfl rfl (fun a hs hd ha0 => ?_)
 have t1 : a.eval (.tmp 1) = .slice A2 (n2) (c2) := ha0 1 _ rfl
 clear ha0
 refine w2_sr (fun K_1 hK_1 => ?_)
 refine q_as (.bool (false)) rfl ?_
 refine x_nil (hK_1 _ _ ?_)
 refine w2_seq (fun K_2 hK_2 => ?_)
 refine w2_sr (fun K_3 hK_3 => ?_)
 refine q_mv ((pm rfl).trans t1) ?_
 refine q_v 14 (.int .i64 ((n2 : Nat) : Int)) (o_len rfl (pe hs rfl rfl)) ?_
 refine q_v 15 (.bool (true)) (o_eq (o_gtr (m := n2) (n := 100) rfl (pe hs rfl rfl) rfl) (by rw [decide_eq_true hbig])) ?_
 refine x_nil (hK_3 _ _ ?_)
 refine w2_condT (pe hs rfl rfl) ?_
 refine w2_sr (fun K_4 hK_4 => ?_)
 refine q_ca (vs := #[]) Try.func10 (args0) (awake10_any _) (fun e_1 w_1 hR_1 => ?_)
 obtain ⟨rfl, hb_2⟩ := hR_1
 refine ⟨_, rfl, ?_⟩
 refine q_at (pe hs rfl rfl) ?_
 refine x_nil (hK_4 _ _ ?_)
 refine w2_ret ?_
 refine thn_ret ?_
 refine ret1 rfl hd (pe hs rfl rfl) ?_
 exact ⟨rfl, hb_2⟩
set_option maxHeartbeats 1000000 in
theorem CKeysM {A1 A2 : Option Addr} {c1 c2 n1 n2 : Nat} {ks xb : List Nat} (w : World) (h1 : Bs w A1 c1 ks) (l1 : ks.length = n1) (h2 : Bs w A2 c2 xb) (l2 : xb.length = n2) (p2 : n2 ≤ 100) :
  Calls Try.prog 3 #[.slice A1 (n1) (c1), .slice A2 (n2) (c2)] w fun e w' => e = .returned (.bool true) ∧ Below w.heap.size w w' := by
 refine x_enter 79 Try.func3 rfl rfl (fun a hs hd ha0 => ?_)
 have t0 : a.eval (.tmp 0) = .slice A1 (n1) (c1) := ha0 0 _ rfl
 have t1 : a.eval (.tmp 1) = .slice A2 (n2) (c2) := ha0 1 _ rfl
 clear ha0
 refine w2_sr (fun K_1 hK_1 => ?_)
 refine q_as (.bool (false)) rfl ?_
 refine x_nil (hK_1 _ _ ?_)
 refine w2_seq (fun K_2 hK_2 => ?_)
 refine w2_sr (fun K_3 hK_3 => ?_)
 refine q_mv ((pm rfl).trans t1) ?_
 refine q_v 14 (.int .i64 ((n2 : Nat) : Int)) (o_len rfl (pe hs rfl rfl)) ?_
 refine q_v 15 (.bool (false)) (o_eq (o_gtr (m := n2) (n := 100) rfl (pe hs rfl rfl) rfl) (by rw [decide_eq_false (by omega)])) ?_
 refine x_nil (hK_3 _ _ ?_)
 refine w2_condF (pe hs rfl rfl) ?_
 refine w2_skip ?_
 refine hK_2 _ _ ?_
 refine w2_sr (fun K_4 hK_4 => ?_)
 refine q_mv ((pm rfl).trans t0) ?_
 refine q_ca (vs := #[.slice A1 (n1) (c1)]) Try.func12 (args1 (pe hs rfl rfl)) (Key_any _ h1 (by simp only [l1])) (fun e_1 w_1 hR_1 => ?_)
 obtain ⟨A_1, c_1, rfl, ho_1, hb_1⟩ := hR_1
 refine ⟨_, rfl, ?_⟩
 refine q_ca (vs := #[.slice A_1 (32) (c_1)]) Try.func11 (args1 (pe hs rfl rfl)) (NewCipher_any _ (ho_1).bs (by simp only [padTo_length]) rfl) (fun e_2 w_2 hR_2 => ?_)
 obtain ⟨M_1, g_1, rfl, hC_1, hge_1, hb_2⟩ := hR_2
 have gg_1 := hge_1.down hb_1.size
 have HB_1 := below_from hb_1 hb_2
 refine ⟨_, rfl, ?_⟩
 refine q_mv (pe hs rfl rfl) ?_
 refine q_ex (v := .pointer (some ⟨g_1, 0, none⟩)) (pe hs rfl rfl) rfl ?_
 refine q_ex (v := .int .i64 ((0 : Nat) : Int)) (pe hs rfl rfl) rfl ?_
 refine q_at (pe hs rfl rfl) ?_
 refine q_at (v := .int .i64 ((0 : Nat) : Int)) (pe hs rfl rfl) ?_
 refine x_nil (hK_4 _ _ ?_)
 refine w2_seq (fun K_5 hK_5 => ?_)
 refine w2_sr (fun K_6 hK_6 => ?_)
 refine q_mv (v := .int .i64 ((0 : Nat) : Int)) (pe hs rfl rfl) ?_
 refine q_v 24 (.bool (false)) (o_eq (o_neq (m := 0) (n := 0) rfl (pe hs rfl rfl) rfl) rfl) ?_
 refine q_mv (pe hs rfl rfl) ?_
 refine op_valG (e := 25) (d := 26) (v := .pointer (some ⟨g_1, 0, none⟩)) rfl rfl (by kernel_rfl) (pe hs rfl rfl) (o_move rfl (pe hs rfl rfl)) ?_
 refine op_valG (e := 25) (d := 27) (v := .bool (false)) rfl rfl (by kernel_rfl) (pe hs rfl rfl) (o_nil (b := false) rfl (pe hs rfl rfl) rfl rfl ⟨52, fun _ => by kernel_rfl⟩) ?_
 refine q_v 28 (.bool (false)) (o_pickF rfl (pe hs rfl rfl) (pe hs rfl rfl)) ?_
 refine q_mv (pe hs rfl rfl) ?_
 refine op_valG (e := 29) (d := 30) (v := .pointer (some ⟨g_1, 0, none⟩)) rfl rfl (by kernel_rfl) (pe hs rfl rfl) (o_move rfl (pe hs rfl rfl)) ?_
 refine op_callG (e := 29) (vs := #[.pointer (some ⟨g_1, 0, none⟩)]) rfl rfl (by kernel_rfl) (pe hs rfl rfl) (exec_call Try.func13 (by kernel_rfl) (by kernel_rfl) _ rfl _ _ (args1 (pe hs rfl rfl))) (CRekey_any _ hC_1) (fun e_3 w_3 hR_3 => ?_)
 obtain ⟨rfl, ⟨M_2, hC_2, hN_1⟩, hX_1⟩ := hR_3
 have hX_2 : BelowX M_1 _ _ := hX_1.mono (fun j _ hj => hj ▸ hC_1.mem)
 have gg_2 := hN_1.ge gg_1 HB_1.size
 have HB_2 := hX_2.below HB_1 HB_1.size gg_1
 refine ⟨_, rfl, ?_⟩
 refine op_valG (e := 29) (d := 32) (v := .bool (false)) rfl rfl (by kernel_rfl) (pe hs rfl rfl) (o_eq (o_neq (m := 0) (n := 0) rfl (pe hs rfl rfl) rfl) rfl) ?_
 refine q_v 33 (.bool (false)) (o_pickF rfl (pe hs rfl rfl) (pe hs rfl rfl)) ?_
 refine x_nil (hK_6 _ _ ?_)
 refine w2_condF (pe hs rfl rfl) ?_
 refine w2_skip ?_
 refine hK_5 _ _ ?_
 refine w2_seq (fun K_7 hK_7 => ?_)
 have lt_2 := hC_2.lt
 refine x_drawn2 9 [fun _ v => v = .slice A1 (n1) (c1), fun ww vv => OwnN w_3.heap.size (32) (padTo 32 ks) ww vv, fun ww vv => OwnN w_3.heap.size (12) (nonceL 18446744073709551615) ww vv, fun ww vv => OwnN w_3.heap.size (32) (List.replicate 32 0) ww vv, fun ww vv => TupN w_3.heap.size (32 + 16) (sealL (padTo 32 ks) (nonceL 18446744073709551615) ([]) (List.replicate 32 0)) (0) ww vv, fun ww vv => TupN w_3.heap.size (32 + 16) (sealL (padTo 32 ks) (nonceL 18446744073709551615) ([]) (List.replicate 32 0)) (0) ww vv, fun ww vv => OwnN w_3.heap.size (32 + 16) (sealL (padTo 32 ks) (nonceL 18446744073709551615) ([]) (List.replicate 32 0)) ww vv, fun _ v => v = .int .i64 ((0 : Nat) : Int), fun ww vv => OwnN w_3.heap.size (32 + 16) (sealL (padTo 32 ks) (nonceL 18446744073709551615) ([]) (List.replicate 32 0)) ww vv] [35, 36, 37, 38, 39, 34, 40, 41, 7] hs hd (by kernel_rfl) (by kernel_rfl) (by kernel_rfl) (by kernel_rfl) (by kernel_rfl) ⟨stLit, stOwn, stOwn, stOwn, stTup, stTup, stOwn, stLit, stOwn, trivial⟩ ⟨(step_ok rfl (fun a' w' hb' hO hD => by
   have d_1 := (hO 0 (by decide)).trans ((pm rfl).trans t0)
   exact .inl ⟨_, _, (o_move rfl d_1), rfl, Below.refl _ _⟩)),
(step_ok rfl (fun a' w' hb' hO hD => by
   have d_2 : a'.eval (.tmp 35) = .slice A1 (n1) (c1) := hD 0 35 (by kernel_rfl) rfl
   exact .inr ⟨_, #[.slice A1 (n1) (c1)], (exec_call Try.func12 (by kernel_rfl) (by kernel_rfl) _ rfl _ _ (args1 d_2)), Calls.mono (Key_any _ (h1.below (below_from HB_2 hb')) (by simp only [l1])) (fun e w'' hR => by obtain ⟨A_2, c_2, rfl, ho_2, hb_3⟩ := hR; exact ⟨_, rfl, ⟨_, _, rfl, ho_2.mono hb'.size⟩, hb_3⟩)⟩)),
(step_ok rfl (fun a' w' hb' hO hD => by
   exact .inr ⟨_, #[.int .u64 ((18446744073709551615 : Nat) : Int)], (exec_call Try.func15 (by kernel_rfl) (by kernel_rfl) _ rfl _ _ (args1 rfl)), Calls.mono (Nonce_any 18446744073709551615 _ (by decide)) (fun e w'' hR => by obtain ⟨A_3, c_3, rfl, ho_3, hb_4⟩ := hR; exact ⟨_, rfl, ⟨_, _, rfl, ho_3.mono hb'.size⟩, hb_4⟩)⟩)),
(step_ok rfl (fun a' w' hb' hO hD => by
   exact out_new (o_make (n := 32) rfl rfl rfl (fun _ => by kernel_rfl) (by omega)) (fun v w_4 hR => by obtain ⟨g_2, rfl, ho_4, hb_5⟩ := hR; exact ⟨⟨_, _, rfl, ho_4.mono hb'.size⟩, hb_5⟩))),
(step_ok rfl (fun a' w' hb' hO hD => by
   have d_3 := hD 1 36 (by kernel_rfl) rfl
   obtain ⟨A_4, c_4, hv_1, hO_1⟩ := d_3
   have d_4 := hD 2 37 (by kernel_rfl) rfl
   obtain ⟨A_5, c_5, hv_2, hO_2⟩ := d_4
   have d_5 := hD 3 38 (by kernel_rfl) rfl
   obtain ⟨A_6, c_6, hv_3, hO_3⟩ := d_5
   exact .inr ⟨_, #[.slice A_4 (32) (c_4), .slice A_5 (12) (c_5), .slice none (0) (0), .slice A_6 (32) (c_6)], (exec_call Try.func14 (by kernel_rfl) (by kernel_rfl) _ rfl _ _ (args4 hv_1 hv_2 rfl hv_3)), Calls.mono (Seal_full _ (hO_1).bs (hO_2).bs (Bs.nil _) (hO_3).bs (by simp only [padTo_length]) (by simp only [nonceL_length]) (by simp only [List.length_nil]) (by simp only [List.length_replicate]) rfl rfl (by omega) (by omega)) (fun e w'' hR => by obtain ⟨A_7, c_7, rfl, ho_5, hb_6⟩ := hR; exact ⟨_, rfl, ⟨_, _, rfl, ho_5.mono hb'.size⟩, hb_6⟩)⟩)),
(step_ok rfl (fun a' w' hb' hO hD => by
   have d_6 := hD 4 39 (by kernel_rfl) rfl
   obtain ⟨A_8, c_8, hv_4, hO_4⟩ := d_6
   exact .inl ⟨_, _, (o_move rfl hv_4), ⟨_, _, rfl, hO_4⟩, Below.refl _ _⟩)),
(step_ok rfl (fun a' w' hb' hO hD => by
   have d_7 := hD 5 34 (by kernel_rfl) rfl
   obtain ⟨A_9, c_9, hv_5, hO_5⟩ := d_7
   exact .inl ⟨_, _, (o_extract rfl hv_5 rfl), ⟨_, _, rfl, hO_5⟩, Below.refl _ _⟩)),
(step_ok rfl (fun a' w' hb' hO hD => by
   have d_8 := hD 5 34 (by kernel_rfl) rfl
   obtain ⟨A_10, c_10, hv_6, hO_6⟩ := d_8
   exact .inl ⟨_, _, (o_extract rfl hv_6 rfl), rfl, Below.refl _ _⟩)),
(step_ok rfl (fun a' w' hb' hO hD => by
   have d_9 := hD 6 40 (by kernel_rfl) rfl
   obtain ⟨A_11, c_11, hv_7, hO_7⟩ := d_9
   exact .inl ⟨_, _, (o_assign rfl hv_7), ⟨_, _, rfl, hO_7⟩, Below.refl _ _⟩)), trivial⟩ (fun a_1 w_5 hs_1 hd_1 hb_7 hO_8 hV_1 => ?_)
 have ta_1_0 := (hO_8 0 (by decide)).trans ((pm rfl).trans t0)
 have ta_1_1 := (hO_8 1 (by decide)).trans ((pm rfl).trans t1)
 have ta_1_4 : a_1.eval (.tmp 4) = .bool (false) := (hO_8 4 (by decide)).trans (pe hs rfl rfl)
 have ta_1_13 : a_1.eval (.tmp 13) = .slice A2 (n2) (c2) := (hO_8 13 (by decide)).trans (pe hs rfl rfl)
 have ta_1_14 : a_1.eval (.tmp 14) = .int .i64 ((n2 : Nat) : Int) := (hO_8 14 (by decide)).trans (pe hs rfl rfl)
 have ta_1_15 : a_1.eval (.tmp 15) = .bool (false) := (hO_8 15 (by decide)).trans (pe hs rfl rfl)
 have ta_1_18 : a_1.eval (.tmp 18) = .slice A1 (n1) (c1) := (hO_8 18 (by decide)).trans (pe hs rfl rfl)
 have ta_1_19 : a_1.eval (.tmp 19) = .slice A_1 (32) (c_1) := (hO_8 19 (by decide)).trans (pe hs rfl rfl)
 have ta_1_20 : a_1.eval (.tmp 20) = .tuple #[.pointer (some ⟨g_1, 0, none⟩), .int .i64 ((0 : Nat) : Int)] := (hO_8 20 (by decide)).trans (pe hs rfl rfl)
 have ta_1_17 : a_1.eval (.tmp 17) = .tuple #[.pointer (some ⟨g_1, 0, none⟩), .int .i64 ((0 : Nat) : Int)] := (hO_8 17 (by decide)).trans (pe hs rfl rfl)
 have ta_1_21 : a_1.eval (.tmp 21) = .pointer (some ⟨g_1, 0, none⟩) := (hO_8 21 (by decide)).trans (pe hs rfl rfl)
 have ta_1_22 : a_1.eval (.tmp 22) = .int .i64 ((0 : Nat) : Int) := (hO_8 22 (by decide)).trans (pe hs rfl rfl)
 have ta_1_5 : a_1.eval (.tmp 5) = .pointer (some ⟨g_1, 0, none⟩) := (hO_8 5 (by decide)).trans (pe hs rfl rfl)
 have ta_1_6 : a_1.eval (.tmp 6) = .int .i64 ((0 : Nat) : Int) := (hO_8 6 (by decide)).trans (pe hs rfl rfl)
 have ta_1_23 : a_1.eval (.tmp 23) = .int .i64 ((0 : Nat) : Int) := (hO_8 23 (by decide)).trans (pe hs rfl rfl)
 have ta_1_24 : a_1.eval (.tmp 24) = .bool (false) := (hO_8 24 (by decide)).trans (pe hs rfl rfl)
 have ta_1_25 : a_1.eval (.tmp 25) = .bool (false) := (hO_8 25 (by decide)).trans (pe hs rfl rfl)
 have ta_1_26 : a_1.eval (.tmp 26) = .pointer (some ⟨g_1, 0, none⟩) := (hO_8 26 (by decide)).trans (pe hs rfl rfl)
 have ta_1_27 : a_1.eval (.tmp 27) = .bool (false) := (hO_8 27 (by decide)).trans (pe hs rfl rfl)
 have ta_1_28 : a_1.eval (.tmp 28) = .bool (false) := (hO_8 28 (by decide)).trans (pe hs rfl rfl)
 have ta_1_29 : a_1.eval (.tmp 29) = .bool (false) := (hO_8 29 (by decide)).trans (pe hs rfl rfl)
 have ta_1_30 : a_1.eval (.tmp 30) = .pointer (some ⟨g_1, 0, none⟩) := (hO_8 30 (by decide)).trans (pe hs rfl rfl)
 have ta_1_31 : a_1.eval (.tmp 31) = .int .i64 ((0 : Nat) : Int) := (hO_8 31 (by decide)).trans (pe hs rfl rfl)
 have ta_1_32 : a_1.eval (.tmp 32) = .bool (false) := (hO_8 32 (by decide)).trans (pe hs rfl rfl)
 have ta_1_33 : a_1.eval (.tmp 33) = .bool (false) := (hO_8 33 (by decide)).trans (pe hs rfl rfl)
 clear t0 t1 hd
 replace hC_2 := hC_2.nx hb_7
 have HB_3 := below_from HB_2 hb_7
 have ta_1_35 : a_1.eval (.tmp 35) = .slice A1 (n1) (c1) := hV_1 0 35 rfl rfl
 have x_1 := hV_1 1 36 rfl rfl
 obtain ⟨A_12, c_12, hv_8, hO_9⟩ := x_1
 replace hO_9 := hO_9.mono HB_2.size
 have x_2 := hV_1 2 37 rfl rfl
 obtain ⟨A_13, c_13, hv_9, hO_10⟩ := x_2
 replace hO_10 := hO_10.mono HB_2.size
 have x_3 := hV_1 3 38 rfl rfl
 obtain ⟨A_14, c_14, hv_10, hO_11⟩ := x_3
 replace hO_11 := hO_11.mono HB_2.size
 have x_4 := hV_1 4 39 rfl rfl
 obtain ⟨A_15, c_15, hv_11, hO_12⟩ := x_4
 replace hO_12 := hO_12.mono HB_2.size
 have x_5 := hV_1 5 34 rfl rfl
 obtain ⟨A_16, c_16, hv_12, hO_13⟩ := x_5
 replace hO_13 := hO_13.mono HB_2.size
 have x_6 := hV_1 6 40 rfl rfl
 obtain ⟨A_17, c_17, hv_13, hO_14⟩ := x_6
 replace hO_14 := hO_14.mono HB_2.size
 have ta_1_41 : a_1.eval (.tmp 41) = .int .i64 ((0 : Nat) : Int) := hV_1 7 41 rfl rfl
 have x_7 := hV_1 8 7 rfl rfl
 obtain ⟨A_18, c_18, hv_14, hO_15⟩ := x_7
 have gz_7 := hO_15.ge'
 replace hO_15 := hO_15.mono HB_2.size
 clear hV_1 hO_8
 simp only [List.drop_succ_cons, List.drop_zero]
 refine q_at (v := .int .i64 ((0 : Nat) : Int)) ((pm rfl).trans ta_1_41) ?_
 refine x_nil ?_
 have sp_4 : Sep M_2 (blkA A_18) := Sep.new lt_2 gz_7
 refine hK_7 _ _ ?_
 refine w2_seq (fun K_8 hK_8 => ?_)
 refine w2_sr (fun K_9 hK_9 => ?_)
 refine q_mv (v := .int .i64 ((0 : Nat) : Int)) (pe hs_1 rfl rfl) ?_
 refine q_v 43 (.bool (false)) (o_eq (o_neq (m := 0) (n := 0) rfl (pe hs_1 rfl rfl) rfl) rfl) ?_
 refine q_mv (pe hs_1 rfl rfl) ?_
 refine op_valG (e := 44) (d := 45) (v := .slice A_18 (32 + 16) (c_18)) rfl rfl (by kernel_rfl) (pe hs_1 rfl rfl) (o_move rfl ((pm rfl).trans hv_14)) ?_
 refine op_valG (e := 44) (d := 46) (v := .int .i64 ((32 + 16 : Nat) : Int)) rfl rfl (by kernel_rfl) (pe hs_1 rfl rfl) (o_len rfl (pe hs_1 rfl rfl)) ?_
 refine op_valG (e := 44) (d := 47) (v := .bool (false)) rfl rfl (by kernel_rfl) (pe hs_1 rfl rfl) (o_eq (o_neq (m := (32 + 16)) (n := 48) rfl (pe hs_1 rfl rfl) rfl) (congrArg Value.bool (by decide))) ?_
 refine q_v 48 (.bool (false)) (o_pickF rfl (pe hs_1 rfl rfl) (pe hs_1 rfl rfl)) ?_
 refine x_nil (hK_9 _ _ ?_)
 refine w2_condF (pe hs_1 rfl rfl) ?_
 refine w2_skip ?_
 refine hK_8 _ _ ?_
 refine w2_sr (fun K_10 hK_10 => ?_)
 refine q_mv ((pm rfl).trans ta_1_5) ?_
 refine q_mv ((pm rfl).trans ta_1_1) ?_
 refine q_ca (vs := #[.pointer (some ⟨g_1, 0, none⟩), .slice none (0) (0), .slice A2 (n2) (c2)]) Try.func16 (args3 (pe hs_1 rfl rfl) rfl (pe hs_1 rfl rfl)) (CSealM_any (num := 0) _ hC_2 (Bs.nil _) (h2.below HB_3) (by simp only [List.length_nil]) (by simp only [l2]) (by omega) (by omega) (by omega)) (fun e_4 w_6 hR_4 => ?_)
 obtain ⟨A_19, c_19, rfl, ho_6, hC_3, hX_3⟩ := hR_4
 have hl_1 : (sealL (rekeyL (padTo 32 ks)) (nonceL 0) ([]) xb).length = n2 + 16 := by rw [sealL_length]; have h9 : (xb : List Nat).length = n2 := (by simp only [l2]); omega
 have hs_2 : Sep (blkA A_19) M_2 := (Sep.new hC_2.lt ho_6.ge').symm
 have hX_4 : BelowX M_2 _ _ := hX_3.mono (fun j _ hj => hj ▸ hC_2.mem)
 replace hO_15 := hO_15.keepM hX_4 (sp_4.symm)
 replace ho_6 := ho_6.mono HB_3.size
 have HB_4 := hX_4.below HB_3 HB_3.size gg_2
 refine ⟨_, rfl, ?_⟩
 refine q_mv (pe hs_1 rfl rfl) ?_
 refine q_ex (v := .slice A_19 (n2 + 16) (c_19)) (pe hs_1 rfl rfl) rfl ?_
 refine q_ex (v := .int .i64 ((0 : Nat) : Int)) (pe hs_1 rfl rfl) rfl ?_
 refine q_at (pe hs_1 rfl rfl) ?_
 refine q_at (v := .int .i64 ((0 : Nat) : Int)) (pe hs_1 rfl rfl) ?_
 refine x_nil (hK_10 _ _ ?_)
 refine w2_seq (fun K_11 hK_11 => ?_)
 have hck : 48 ≤ c_18 := by have h9 := hO_15.bs.le; rw [sealL_length, List.length_replicate] at h9; exact h9
 have hSk := hO_15.bs.first (n := 32) (by rw [sealL_length, List.length_replicate]; omega)
 have hSl : (List.take 32 (sealL (padTo 32 ks) (nonceL 18446744073709551615) ([]) (List.replicate 32 0))).length = 32 := by rw [List.length_take, sealL_length, List.length_replicate]; rfl
 refine x_drawn2 9 [fun _ v => v = .slice A_18 (32 + 16) (c_18), fun _ v => v = .slice ((subA A_18 0 c_18)) (32) (c_18), fun ww vv => OwnN w_6.heap.size (12) (nonceL 0) ww vv, fun _ v => v = .slice A2 (n2) (c2), fun ww vv => TupN w_6.heap.size (n2 + 16) (sealL (List.take 32 (sealL (padTo 32 ks) (nonceL 18446744073709551615) ([]) (List.replicate 32 0))) (nonceL 0) ([]) xb) (0) ww vv, fun ww vv => TupN w_6.heap.size (n2 + 16) (sealL (List.take 32 (sealL (padTo 32 ks) (nonceL 18446744073709551615) ([]) (List.replicate 32 0))) (nonceL 0) ([]) xb) (0) ww vv, fun ww vv => OwnN w_6.heap.size (n2 + 16) (sealL (List.take 32 (sealL (padTo 32 ks) (nonceL 18446744073709551615) ([]) (List.replicate 32 0))) (nonceL 0) ([]) xb) ww vv, fun _ v => v = .int .i64 ((0 : Nat) : Int), fun ww vv => OwnN w_6.heap.size (n2 + 16) (sealL (List.take 32 (sealL (padTo 32 ks) (nonceL 18446744073709551615) ([]) (List.replicate 32 0))) (nonceL 0) ([]) xb) ww vv] [56, 57, 58, 59, 60, 55, 61, 62, 11] hs_1 hd_1 (by kernel_rfl) (by kernel_rfl) (by kernel_rfl) (by kernel_rfl) (by kernel_rfl) ⟨stLit, stLit, stOwn, stLit, stTup, stTup, stOwn, stLit, stOwn, trivial⟩ ⟨(step_ok rfl (fun a' w' hb' hO hD => by
   have d_10 := (hO 7 (by decide)).trans ((pm rfl).trans hv_14)
   exact .inl ⟨_, _, (o_move rfl d_10), rfl, Below.refl _ _⟩)),
(step_ok rfl (fun a' w' hb' hO hD => by
   have d_11 : a'.eval (.tmp 56) = .slice A_18 (32 + 16) (c_18) := hD 0 56 (by kernel_rfl) rfl
   exact .inl ⟨_, _, (o_sliceH (h := 32) rfl d_11 rfl (by omega)), rfl, Below.refl _ _⟩)),
(step_ok rfl (fun a' w' hb' hO hD => by
   exact .inr ⟨_, #[.int .u64 ((0 : Nat) : Int)], (exec_call Try.func15 (by kernel_rfl) (by kernel_rfl) _ rfl _ _ (args1 rfl)), Calls.mono (Nonce_any 0 _ (by decide)) (fun e w'' hR => by obtain ⟨A_20, c_20, rfl, ho_7, hb_8⟩ := hR; exact ⟨_, rfl, ⟨_, _, rfl, ho_7.mono hb'.size⟩, hb_8⟩)⟩)),
(step_ok rfl (fun a' w' hb' hO hD => by
   have d_12 := (hO 1 (by decide)).trans ((pm rfl).trans ta_1_1)
   exact .inl ⟨_, _, (o_move rfl d_12), rfl, Below.refl _ _⟩)),
(step_ok rfl (fun a' w' hb' hO hD => by
   have d_13 : a'.eval (.tmp 57) = .slice ((subA A_18 0 c_18)) (32) (c_18) := hD 1 57 (by kernel_rfl) rfl
   have d_14 := hD 2 58 (by kernel_rfl) rfl
   obtain ⟨A_21, c_21, hv_15, hO_16⟩ := d_14
   have d_15 : a'.eval (.tmp 59) = .slice A2 (n2) (c2) := hD 3 59 (by kernel_rfl) rfl
   exact .inr ⟨_, #[.slice ((subA A_18 0 c_18)) (32) (c_18), .slice A_21 (12) (c_21), .slice none (0) (0), .slice A2 (n2) (c2)], (exec_call Try.func14 (by kernel_rfl) (by kernel_rfl) _ rfl _ _ (args4 d_13 hv_15 rfl d_15)), Calls.mono (Seal_full _ (hSk.nx hb') (hO_16).bs (Bs.nil _) (h2.below (below_from HB_4 hb')) hSl (by simp only [nonceL_length]) (by simp only [List.length_nil]) (by simp only [l2]) rfl rfl (by omega) (by omega)) (fun e w'' hR => by obtain ⟨A_22, c_22, rfl, ho_8, hb_9⟩ := hR; exact ⟨_, rfl, ⟨_, _, rfl, ho_8.mono hb'.size⟩, hb_9⟩)⟩)),
(step_ok rfl (fun a' w' hb' hO hD => by
   have d_16 := hD 4 60 (by kernel_rfl) rfl
   obtain ⟨A_23, c_23, hv_16, hO_17⟩ := d_16
   exact .inl ⟨_, _, (o_move rfl hv_16), ⟨_, _, rfl, hO_17⟩, Below.refl _ _⟩)),
(step_ok rfl (fun a' w' hb' hO hD => by
   have d_17 := hD 5 55 (by kernel_rfl) rfl
   obtain ⟨A_24, c_24, hv_17, hO_18⟩ := d_17
   exact .inl ⟨_, _, (o_extract rfl hv_17 rfl), ⟨_, _, rfl, hO_18⟩, Below.refl _ _⟩)),
(step_ok rfl (fun a' w' hb' hO hD => by
   have d_18 := hD 5 55 (by kernel_rfl) rfl
   obtain ⟨A_25, c_25, hv_18, hO_19⟩ := d_18
   exact .inl ⟨_, _, (o_extract rfl hv_18 rfl), rfl, Below.refl _ _⟩)),
(step_ok rfl (fun a' w' hb' hO hD => by
   have d_19 := hD 6 61 (by kernel_rfl) rfl
   obtain ⟨A_26, c_26, hv_19, hO_20⟩ := d_19
   exact .inl ⟨_, _, (o_assign rfl hv_19), ⟨_, _, rfl, hO_20⟩, Below.refl _ _⟩)), trivial⟩ (fun a_2 w_7 hs_3 hd_2 hb_10 hO_21 hV_2 => ?_)
 have ta_2_9 : a_2.eval (.tmp 9) = .slice A_19 (n2 + 16) (c_19) := (hO_21 9 (by decide)).trans (pe hs_1 rfl rfl)
 have ta_2_10 : a_2.eval (.tmp 10) = .int .i64 ((0 : Nat) : Int) := (hO_21 10 (by decide)).trans (pe hs_1 rfl rfl)
 clear ta_1_0 ta_1_1 ta_1_4 ta_1_13 ta_1_14 ta_1_15 ta_1_18 ta_1_19 ta_1_20 ta_1_17 ta_1_21 ta_1_22 ta_1_5 ta_1_6 ta_1_23 ta_1_24 ta_1_25 ta_1_26 ta_1_27 ta_1_28 ta_1_29 ta_1_30 ta_1_31 ta_1_32 ta_1_33 ta_1_35 hv_8 hv_9 hv_10 hv_11 hv_12 hv_13 ta_1_41 hv_14 hd_1
 replace hO_15 := hO_15.nx hb_10
 replace ho_6 := ho_6.nx hb_10
 replace hSk := hSk.nx hb_10
 have HB_5 := below_from HB_4 hb_10
 have x_8 := hV_2 2 58 rfl rfl
 obtain ⟨A_27, c_27, hv_20, hO_22⟩ := x_8
 replace hO_22 := hO_22.mono HB_4.size
 have x_9 := hV_2 4 60 rfl rfl
 obtain ⟨A_28, c_28, hv_21, hO_23⟩ := x_9
 replace hO_23 := hO_23.mono HB_4.size
 have x_10 := hV_2 5 55 rfl rfl
 obtain ⟨A_29, c_29, hv_22, hO_24⟩ := x_10
 replace hO_24 := hO_24.mono HB_4.size
 have x_11 := hV_2 6 61 rfl rfl
 obtain ⟨A_30, c_30, hv_23, hO_25⟩ := x_11
 replace hO_25 := hO_25.mono HB_4.size
 have ta_2_62 : a_2.eval (.tmp 62) = .int .i64 ((0 : Nat) : Int) := hV_2 7 62 rfl rfl
 have x_12 := hV_2 8 11 rfl rfl
 obtain ⟨A_31, c_31, hv_24, hO_26⟩ := x_12
 replace hO_26 := hO_26.mono HB_4.size
 clear hV_2 hO_21
 simp only [List.drop_succ_cons, List.drop_zero]
 refine q_at (v := .int .i64 ((0 : Nat) : Int)) ((pm rfl).trans ta_2_62) ?_
 refine x_nil (hK_11 _ _ ?_)
 refine w2_sr (fun K_12 hK_12 => ?_)
 refine q_mv (v := .int .i64 ((0 : Nat) : Int)) ((pm rfl).trans ta_2_10) ?_
 refine q_v 64 (.bool (true)) (o_eq (o_eql (m := 0) (n := 0) rfl (pe hs_3 rfl rfl) rfl) rfl) ?_
 refine q_mv (pe hs_3 rfl rfl) ?_
 refine op_valG (e := 65) (d := 66) (v := .int .i64 ((0 : Nat) : Int)) rfl rfl (by kernel_rfl) (pe hs_3 rfl rfl) (o_move rfl (pe hs_3 rfl rfl)) ?_
 refine op_valG (e := 65) (d := 67) (v := .bool (true)) rfl rfl (by kernel_rfl) (pe hs_3 rfl rfl) (o_eq (o_eql (m := 0) (n := 0) rfl (pe hs_3 rfl rfl) rfl) rfl) ?_
 refine q_v 68 (.bool (true)) (o_pickT rfl (pe hs_3 rfl rfl) (pe hs_3 rfl rfl)) ?_
 refine q_mv (pe hs_3 rfl rfl) ?_
 refine op_valG (e := 69) (d := 70) (v := .slice A_19 (n2 + 16) (c_19)) rfl rfl (by kernel_rfl) (pe hs_3 rfl rfl) (o_move rfl ((pm rfl).trans ta_2_9)) ?_
 refine op_valG (e := 69) (d := 71) (v := .string (strB (sealL (rekeyL (padTo 32 ks)) (nonceL 0) ([]) xb))) rfl rfl (by kernel_rfl) (pe hs_3 rfl rfl) (o_str rfl (pe hs_3 rfl rfl) (ho_6).bs hl_1) ?_
 refine op_valG (e := 69) (d := 72) (v := .slice A_31 (n2 + 16) (c_31)) rfl rfl (by kernel_rfl) (pe hs_3 rfl rfl) (o_move rfl ((pm rfl).trans hv_24)) ?_
 refine op_valG (e := 69) (d := 73) (v := .string (strB (sealL (List.take 32 (sealL (padTo 32 ks) (nonceL 18446744073709551615) ([]) (List.replicate 32 0))) (nonceL 0) ([]) xb))) rfl rfl (by kernel_rfl) (pe hs_3 rfl rfl) (o_str rfl (pe hs_3 rfl rfl) (hO_26).bs (by simp only [sealL_length, l2])) ?_
 refine op_valG (e := 69) (d := 74) (v := .bool (true)) rfl rfl (by kernel_rfl) (pe hs_3 rfl rfl) (o_eqS rfl (pe hs_3 rfl rfl) (pe hs_3 rfl rfl) rfl) ?_
 refine q_v 75 (.bool (true)) (o_pickT rfl (pe hs_3 rfl rfl) (pe hs_3 rfl rfl)) ?_
 refine q_mv (pe hs_3 rfl rfl) ?_
 refine op_callG (e := 76) (vs := #[]) rfl rfl (by kernel_rfl) (pe hs_3 rfl rfl) (exec_call Try.func10 (by kernel_rfl) (by kernel_rfl) _ rfl _ _ (args0)) (awake10_any _) (fun e_5 w_8 hR_5 => ?_)
 obtain ⟨rfl, hb_12⟩ := hR_5
 replace hO_15 := hO_15.nx hb_12
 replace hSk := hSk.nx hb_12
 replace hO_22 := hO_22.nx hb_12
 replace hO_23 := hO_23.nx hb_12
 replace hO_24 := hO_24.nx hb_12
 replace hO_25 := hO_25.nx hb_12
 replace hO_26 := hO_26.nx hb_12
 have HB_6 := below_from HB_5 hb_12
 refine ⟨_, rfl, ?_⟩
 refine q_v 78 (.bool (true)) (o_pickT rfl (pe hs_3 rfl rfl) (pe hs_3 rfl rfl)) ?_
 refine q_at (pe hs_3 rfl rfl) ?_
 refine x_nil (hK_12 _ _ ?_)
 refine w2_ret ?_
 refine ret1 rfl hd_2 (pe hs_3 rfl rfl) ?_
 exact ⟨rfl, HB_6⟩
end Go.Proofs.Ytbgonhmaeekkaaa
