/-
 WALKS: sapperlaw10.NoiseTurns.
-/
import Derived.Test.YtbgonhmaeekkaaaAwake10
namespace Go.Proofs.Ytbgonhmaeekkaaa
open Go.RowKit
set_option linter.unusedVariables false
set_option linter.unusedSimpArgs false
set_option maxRecDepth 100000
attribute [local irreducible] wpList wpListIn putsR

set_option maxHeartbeats 1000000 in
theorem TurnsA {A1 A2 A3 A4 A5 : Option Addr} {c1 c2 c3 c4 c5 n1 n2 n3 n4 n5 : Nat} {ps sv sk ee ff : List Nat} (z : Int) {A6 : Option Addr} {c6 n6 : Nat} {xs : List Nat} (w : World) (h1 : Bs w A1 c1 ps) (l1 : ps.length = n1) (h2 : Bs w A2 c2 sv) (l2 : sv.length = n2) (h3 : Bs w A3 c3 sk) (l3 : sk.length = n3) (h4 : Bs w A4 c4 ee) (l4 : ee.length = n4) (h5 : Bs w A5 c5 ff) (l5 : ff.length = n5) (h6 : Bs w A6 c6 xs) (l6 : xs.length = n6) (hbig : n6 ≤ 47) :
  Calls Try.prog 4 #[.agg #[.int .i64 (z), .slice A1 (n1) (c1), .slice A2 (n2) (c2), .slice A3 (n3) (c3), .slice A4 (n4) (c4), .slice A5 (n5) (c5)], .slice A6 (n6) (c6)] w fun e w' => e = .returned (.bool true) ∧ Below w.heap.size w w' := by
 refine x_enter 206 Try.func4 rfl rfl (fun a hs hd ha0 => ?_)
 have t0 : a.eval (.tmp 0) = .agg #[.int .i64 (z), .slice A1 (n1) (c1), .slice A2 (n2) (c2), .slice A3 (n3) (c3), .slice A4 (n4) (c4), .slice A5 (n5) (c5)] := ha0 0 _ rfl
 have t1 : a.eval (.tmp 1) = .slice A6 (n6) (c6) := ha0 1 _ rfl
 clear ha0
 refine w2_sr (fun K_1 hK_1 => ?_)
 refine op_ex (d := 2) rfl rfl (o_boxL (cs := #[.int .i64 (z), .slice A1 (n1) (c1), .slice A2 (n2) (c2), .slice A3 (n3) (c3), .slice A4 (n4) (c4), .slice A5 (n5) (c5)]) rfl ((pm rfl).trans t0)) (fun v_1 w_1 hR_1 => ?_)
 obtain ⟨g_1, rfl, hle_1, hB_1, hb_1⟩ := hR_1
 refine q_as (.bool (false)) rfl ?_
 refine x_nil (hK_1 _ _ ?_)
 refine w2_seq (fun K_2 hK_2 => ?_)
 refine w2_sr (fun K_3 hK_3 => ?_)
 refine q_mv ((pm rfl).trans t1) ?_
 refine q_v 37 (.int .i64 ((n6 : Nat) : Int)) (o_len rfl (pe hs rfl rfl)) ?_
 refine q_v 38 (.bool (false)) (o_eq (o_gtr (m := n6) (n := 47) rfl (pe hs rfl rfl) rfl) (by rw [decide_eq_false (by omega)])) ?_
 refine x_nil (hK_3 _ _ ?_)
 refine w2_condF (pe hs rfl rfl) ?_
 refine w2_skip ?_
 refine hK_2 _ _ ?_
 refine w2_sr (fun K_4 hK_4 => ?_)
 refine q_fa 3 (pe hs rfl rfl) ?_
 refine q_ld (v := .slice A3 (n3) (c3)) (pe hs rfl rfl) hB_1 rfl ?_
 refine q_ca (vs := #[.slice A3 (n3) (c3)]) Try.func12 (args1 (pe hs rfl rfl)) (Key_any _ (h3.below hb_1) (by simp only [l3])) (fun e_1 w_2 hR_2 => ?_)
 obtain ⟨A_1, c_1, rfl, ho_1, hb_2⟩ := hR_2
 replace ho_1 := ho_1.mono hb_1.size
 replace hB_1 := hB_1.nx hb_2
 have HB_1 := below_from hb_1 hb_2
 refine ⟨_, rfl, ?_⟩
 refine q_ca (vs := #[.slice A_1 (32) (c_1)]) Try.func17 (args1 (pe hs rfl rfl)) (Base_own _ (ho_1).bs (by simp only [padTo_length])) (fun e_2 w_3 hR_3 => ?_)
 obtain ⟨A_2, c_2, rfl, ho_2, hb_3⟩ := hR_3
 replace ho_2 := ho_2.mono HB_1.size
 replace hB_1 := hB_1.nx hb_3
 have HB_2 := below_from HB_1 hb_3
 refine ⟨_, rfl, ?_⟩
 refine q_mv (pe hs rfl rfl) ?_
 refine q_ex (v := .slice A_2 (32) (c_2)) (pe hs rfl rfl) rfl ?_
 refine q_ex (v := .int .i64 ((0 : Nat) : Int)) (pe hs rfl rfl) rfl ?_
 refine q_at (pe hs rfl rfl) ?_
 refine q_at (v := .int .i64 ((0 : Nat) : Int)) (pe hs rfl rfl) ?_
 refine x_nil (hK_4 _ _ ?_)
 refine w2_seq (fun K_5 hK_5 => ?_)
 refine x_drawn2 12 [fun _ v => v = .pointer (some ⟨g_1, 1, none⟩), fun _ v => v = .slice A1 (n1) (c1), fun ww vv => OwnN w_3.heap.size (32) (padTo 32 ps) ww vv, fun _ v => v = .slice A_2 (32) (c_2), fun _ v => v = .pointer (some ⟨g_1, 4, none⟩), fun _ v => v = .slice A4 (n4) (c4), fun ww vv => OwnN w_3.heap.size (32) (padTo 32 ee) ww vv, fun ww vv => TupH w_3 ⟨shaL nameS, shaL (shaL (shaL nameS ++ [3 / 256 % 256, 3 % 256]) ++ (pubL (padTo 32 sk))), padTo 32 ps, padTo 32 ee, pubL (padTo 32 ee), pubL (padTo 32 sk), [], true, false, 0⟩ ww vv, fun ww vv => TupH w_3 ⟨shaL nameS, shaL (shaL (shaL nameS ++ [3 / 256 % 256, 3 % 256]) ++ (pubL (padTo 32 sk))), padTo 32 ps, padTo 32 ee, pubL (padTo 32 ee), pubL (padTo 32 sk), [], true, false, 0⟩ ww vv, fun ww vv => PtrH w_3 ⟨shaL nameS, shaL (shaL (shaL nameS ++ [3 / 256 % 256, 3 % 256]) ++ (pubL (padTo 32 sk))), padTo 32 ps, padTo 32 ee, pubL (padTo 32 ee), pubL (padTo 32 sk), [], true, false, 0⟩ ww vv, fun _ v => v = .int .i64 ((0 : Nat) : Int), fun ww vv => PtrH w_3 ⟨shaL nameS, shaL (shaL (shaL nameS ++ [3 / 256 % 256, 3 % 256]) ++ (pubL (padTo 32 sk))), padTo 32 ps, padTo 32 ee, pubL (padTo 32 ee), pubL (padTo 32 sk), [], true, false, 0⟩ ww vv] [49, 50, 51, 52, 53, 54, 55, 56, 48, 57, 58, 7] hs hd (by kernel_rfl) (by kernel_rfl) (by kernel_rfl) (by kernel_rfl) (by kernel_rfl) ⟨stLit, stLit, stOwn, stLit, stLit, stLit, stOwn, stTupH, stTupH, stPtrH, stLit, stPtrH, trivial⟩ ⟨(step_ok rfl (fun a' w' hb' hO hD => by
   have d_1 : a'.eval (.tmp 2) = .pointer (some ⟨g_1, 0, none⟩) := (hO 2 (by decide)).trans (pe hs rfl rfl)
   exact .inl ⟨_, _, (o_field (k' := 1) rfl d_1 (fun _ => by kernel_rfl)), rfl, Below.refl _ _⟩)),
(step_ok rfl (fun a' w' hb' hO hD => by
   have d_2 : a'.eval (.tmp 49) = .pointer (some ⟨g_1, 1, none⟩) := hD 0 49 (by kernel_rfl) rfl
   exact .inl ⟨_, _, (o_load1 rfl d_2 (hB_1.nx hb') rfl ⟨by kernel_rfl, by kernel_rfl⟩), rfl, Below.refl _ _⟩)),
(step_ok rfl (fun a' w' hb' hO hD => by
   have d_3 : a'.eval (.tmp 50) = .slice A1 (n1) (c1) := hD 1 50 (by kernel_rfl) rfl
   exact .inr ⟨_, #[.slice A1 (n1) (c1)], (exec_call Try.func12 (by kernel_rfl) (by kernel_rfl) _ rfl _ _ (args1 d_3)), Calls.mono (Key_any _ (h1.below (below_from HB_2 hb')) (by simp only [l1])) (fun e w'' hR => by obtain ⟨A_3, c_3, rfl, ho_3, hb_4⟩ := hR; exact ⟨_, rfl, ⟨_, _, rfl, ho_3.mono hb'.size⟩, hb_4⟩)⟩)),
(step_ok rfl (fun a' w' hb' hO hD => by
   have d_4 : a'.eval (.tmp 5) = .slice A_2 (32) (c_2) := (hO 5 (by decide)).trans (pe hs rfl rfl)
   exact .inl ⟨_, _, (o_move rfl d_4), rfl, Below.refl _ _⟩)),
(step_ok rfl (fun a' w' hb' hO hD => by
   have d_5 : a'.eval (.tmp 2) = .pointer (some ⟨g_1, 0, none⟩) := (hO 2 (by decide)).trans (pe hs rfl rfl)
   exact .inl ⟨_, _, (o_field (k' := 4) rfl d_5 (fun _ => by kernel_rfl)), rfl, Below.refl _ _⟩)),
(step_ok rfl (fun a' w' hb' hO hD => by
   have d_6 : a'.eval (.tmp 53) = .pointer (some ⟨g_1, 4, none⟩) := hD 4 53 (by kernel_rfl) rfl
   exact .inl ⟨_, _, (o_load1 rfl d_6 (hB_1.nx hb') rfl ⟨by kernel_rfl, by kernel_rfl⟩), rfl, Below.refl _ _⟩)),
(step_ok rfl (fun a' w' hb' hO hD => by
   have d_7 : a'.eval (.tmp 54) = .slice A4 (n4) (c4) := hD 5 54 (by kernel_rfl) rfl
   exact .inr ⟨_, #[.slice A4 (n4) (c4)], (exec_call Try.func12 (by kernel_rfl) (by kernel_rfl) _ rfl _ _ (args1 d_7)), Calls.mono (Key_any _ (h4.below (below_from HB_2 hb')) (by simp only [l4])) (fun e w'' hR => by obtain ⟨A_4, c_4, rfl, ho_4, hb_5⟩ := hR; exact ⟨_, rfl, ⟨_, _, rfl, ho_4.mono hb'.size⟩, hb_5⟩)⟩)),
(step_ok rfl (fun a' w' hb' hO hD => by
   have d_8 := hD 2 51 (by kernel_rfl) rfl
   obtain ⟨A_5, c_5, hv_1, hO_1⟩ := d_8
   have d_9 : a'.eval (.tmp 52) = .slice A_2 (32) (c_2) := hD 3 52 (by kernel_rfl) rfl
   have d_10 := hD 6 55 (by kernel_rfl) rfl
   obtain ⟨A_6, c_6, hv_2, hO_2⟩ := d_10
   exact .inr ⟨_, #[.int .i64 ((3 : Nat) : Int), .slice A_5 (32) (c_5), .slice A_2 (32) (c_2), .slice A_6 (32) (c_6)], (exec_call Try.func18 (by kernel_rfl) (by kernel_rfl) _ rfl _ _ (args4 rfl hv_1 d_9 hv_2)), Calls.mono (Ask_any 3 _ (hO_1).bs (by simp only [padTo_length]) ((ho_2.nx hb')).bs (pubL_length _) (hO_2).bs (by simp only [padTo_length]) (by omega)) (fun e w'' hR => by obtain ⟨M9, g9, rfl, hH9, hge9, hb9⟩ := hR; exact ⟨_, rfl, ⟨M9, g9, rfl, hH9, hge9.down hb'.size⟩, hb9⟩)⟩)),
(step_ok rfl (fun a' w' hb' hO hD => by
   have d_11 := hD 7 56 (by kernel_rfl) rfl
   obtain ⟨M_1, g_2, hv_3, hH_1, hge_1⟩ := d_11
   exact .inl ⟨_, _, (o_move rfl hv_3), ⟨_, _, rfl, hH_1, hge_1⟩, Below.refl _ _⟩)),
(step_ok rfl (fun a' w' hb' hO hD => by
   have d_12 := hD 8 48 (by kernel_rfl) rfl
   obtain ⟨M_2, g_3, hv_4, hH_2, hge_2⟩ := d_12
   exact .inl ⟨_, _, (o_extract rfl hv_4 rfl), ⟨_, _, rfl, hH_2, hge_2⟩, Below.refl _ _⟩)),
(step_ok rfl (fun a' w' hb' hO hD => by
   have d_13 := hD 8 48 (by kernel_rfl) rfl
   obtain ⟨M_3, g_4, hv_5, hH_3, hge_3⟩ := d_13
   exact .inl ⟨_, _, (o_extract rfl hv_5 rfl), rfl, Below.refl _ _⟩)),
(step_ok rfl (fun a' w' hb' hO hD => by
   have d_14 := hD 9 57 (by kernel_rfl) rfl
   obtain ⟨M_4, g_5, hv_6, hH_4, hge_4⟩ := d_14
   exact .inl ⟨_, _, (o_assign rfl hv_6), ⟨_, _, rfl, hH_4, hge_4⟩, Below.refl _ _⟩)), trivial⟩ (fun a_1 w_4 hs_1 hd_1 hb_6 hO_3 hV_1 => ?_)
 have ta_1_0 := (hO_3 0 (by decide)).trans ((pm rfl).trans t0)
 have ta_1_1 := (hO_3 1 (by decide)).trans ((pm rfl).trans t1)
 have ta_1_2 : a_1.eval (.tmp 2) = .pointer (some ⟨g_1, 0, none⟩) := (hO_3 2 (by decide)).trans (pe hs rfl rfl)
 have ta_1_4 : a_1.eval (.tmp 4) = .bool (false) := (hO_3 4 (by decide)).trans (pe hs rfl rfl)
 have ta_1_36 : a_1.eval (.tmp 36) = .slice A6 (n6) (c6) := (hO_3 36 (by decide)).trans (pe hs rfl rfl)
 have ta_1_37 : a_1.eval (.tmp 37) = .int .i64 ((n6 : Nat) : Int) := (hO_3 37 (by decide)).trans (pe hs rfl rfl)
 have ta_1_38 : a_1.eval (.tmp 38) = .bool (false) := (hO_3 38 (by decide)).trans (pe hs rfl rfl)
 have ta_1_42 : a_1.eval (.tmp 42) = .pointer (some ⟨g_1, 3, none⟩) := (hO_3 42 (by decide)).trans (pe hs rfl rfl)
 have ta_1_43 : a_1.eval (.tmp 43) = .slice A3 (n3) (c3) := (hO_3 43 (by decide)).trans (pe hs rfl rfl)
 have ta_1_44 : a_1.eval (.tmp 44) = .slice A_1 (32) (c_1) := (hO_3 44 (by decide)).trans (pe hs rfl rfl)
 have ta_1_45 : a_1.eval (.tmp 45) = .tuple #[.slice A_2 (32) (c_2), .int .i64 ((0 : Nat) : Int)] := (hO_3 45 (by decide)).trans (pe hs rfl rfl)
 have ta_1_41 : a_1.eval (.tmp 41) = .tuple #[.slice A_2 (32) (c_2), .int .i64 ((0 : Nat) : Int)] := (hO_3 41 (by decide)).trans (pe hs rfl rfl)
 have ta_1_46 : a_1.eval (.tmp 46) = .slice A_2 (32) (c_2) := (hO_3 46 (by decide)).trans (pe hs rfl rfl)
 have ta_1_47 : a_1.eval (.tmp 47) = .int .i64 ((0 : Nat) : Int) := (hO_3 47 (by decide)).trans (pe hs rfl rfl)
 have ta_1_5 : a_1.eval (.tmp 5) = .slice A_2 (32) (c_2) := (hO_3 5 (by decide)).trans (pe hs rfl rfl)
 have ta_1_6 : a_1.eval (.tmp 6) = .int .i64 ((0 : Nat) : Int) := (hO_3 6 (by decide)).trans (pe hs rfl rfl)
 clear t0 t1 hd
 replace hB_1 := hB_1.nx hb_6
 have HB_3 := below_from HB_2 hb_6
 have ta_1_49 : a_1.eval (.tmp 49) = .pointer (some ⟨g_1, 1, none⟩) := hV_1 0 49 rfl rfl
 have ta_1_50 : a_1.eval (.tmp 50) = .slice A1 (n1) (c1) := hV_1 1 50 rfl rfl
 have x_1 := hV_1 2 51 rfl rfl
 obtain ⟨A_7, c_7, hv_7, hO_4⟩ := x_1
 replace hO_4 := hO_4.mono HB_2.size
 have ta_1_52 : a_1.eval (.tmp 52) = .slice A_2 (32) (c_2) := hV_1 3 52 rfl rfl
 have ta_1_53 : a_1.eval (.tmp 53) = .pointer (some ⟨g_1, 4, none⟩) := hV_1 4 53 rfl rfl
 have ta_1_54 : a_1.eval (.tmp 54) = .slice A4 (n4) (c4) := hV_1 5 54 rfl rfl
 have x_2 := hV_1 6 55 rfl rfl
 obtain ⟨A_8, c_8, hv_8, hO_5⟩ := x_2
 replace hO_5 := hO_5.mono HB_2.size
 have x_3 := hV_1 7 56 rfl rfl
 obtain ⟨M_5, g_6, hv_9, hH_5, hge_5⟩ := x_3
 have x_4 := hV_1 8 48 rfl rfl
 obtain ⟨M_6, g_7, hv_10, hH_6, hge_6⟩ := x_4
 have x_5 := hV_1 9 57 rfl rfl
 obtain ⟨M_7, g_8, hv_11, hH_7, hge_7⟩ := x_5
 have ta_1_58 : a_1.eval (.tmp 58) = .int .i64 ((0 : Nat) : Int) := hV_1 10 58 rfl rfl
 have x_6 := hV_1 11 7 rfl rfl
 obtain ⟨M_8, g_9, hv_12, hH_8, hge_8⟩ := x_6
 clear hV_1 hO_3
 simp only [List.drop_succ_cons, List.drop_zero]
 refine q_at (v := .int .i64 ((0 : Nat) : Int)) ((pm rfl).trans ta_1_58) ?_
 refine x_nil ?_
 have gg_1 := hge_8.down HB_2.size
 refine hK_5 _ _ ?_
 refine w2_seq (fun K_6 hK_6 => ?_)
 have lt_8 := hH_8.lt
 refine x_drawn2 14 [fun _ v => v = .pointer (some ⟨g_1, 1, none⟩), fun _ v => v = .slice A1 (n1) (c1), fun ww vv => OwnN w_4.heap.size (32) (padTo 32 ps) ww vv, fun _ v => v = .pointer (some ⟨g_1, 3, none⟩), fun _ v => v = .slice A3 (n3) (c3), fun ww vv => OwnN w_4.heap.size (32) (padTo 32 sk) ww vv, fun _ v => v = .pointer (some ⟨g_1, 5, none⟩), fun _ v => v = .slice A5 (n5) (c5), fun ww vv => OwnN w_4.heap.size (32) (padTo 32 ff) ww vv, fun ww vv => TupH w_4 ⟨shaL nameS, shaL (shaL (shaL nameS ++ [3 / 256 % 256, 3 % 256]) ++ pubL (padTo 32 sk)), padTo 32 ps, padTo 32 ff, pubL (padTo 32 ff), padTo 32 sk, [], false, false, 1⟩ ww vv, fun ww vv => TupH w_4 ⟨shaL nameS, shaL (shaL (shaL nameS ++ [3 / 256 % 256, 3 % 256]) ++ pubL (padTo 32 sk)), padTo 32 ps, padTo 32 ff, pubL (padTo 32 ff), padTo 32 sk, [], false, false, 1⟩ ww vv, fun ww vv => PtrH w_4 ⟨shaL nameS, shaL (shaL (shaL nameS ++ [3 / 256 % 256, 3 % 256]) ++ pubL (padTo 32 sk)), padTo 32 ps, padTo 32 ff, pubL (padTo 32 ff), padTo 32 sk, [], false, false, 1⟩ ww vv, fun _ v => v = .int .i64 ((0 : Nat) : Int), fun ww vv => PtrH w_4 ⟨shaL nameS, shaL (shaL (shaL nameS ++ [3 / 256 % 256, 3 % 256]) ++ pubL (padTo 32 sk)), padTo 32 ps, padTo 32 ff, pubL (padTo 32 ff), padTo 32 sk, [], false, false, 1⟩ ww vv] [60, 61, 62, 63, 64, 65, 66, 67, 68, 69, 59, 70, 71, 9] hs_1 hd_1 (by kernel_rfl) (by kernel_rfl) (by kernel_rfl) (by kernel_rfl) (by kernel_rfl) ⟨stLit, stLit, stOwn, stLit, stLit, stOwn, stLit, stLit, stOwn, stTupH, stTupH, stPtrH, stLit, stPtrH, trivial⟩ ⟨(step_ok rfl (fun a' w' hb' hO hD => by
   have d_15 := (hO 2 (by decide)).trans ((pm rfl).trans ta_1_2)
   exact .inl ⟨_, _, (o_field (k' := 1) rfl d_15 (fun _ => by kernel_rfl)), rfl, Below.refl _ _⟩)),
(step_ok rfl (fun a' w' hb' hO hD => by
   have d_16 : a'.eval (.tmp 60) = .pointer (some ⟨g_1, 1, none⟩) := hD 0 60 (by kernel_rfl) rfl
   exact .inl ⟨_, _, (o_load1 rfl d_16 (hB_1.nx hb') rfl ⟨by kernel_rfl, by kernel_rfl⟩), rfl, Below.refl _ _⟩)),
(step_ok rfl (fun a' w' hb' hO hD => by
   have d_17 : a'.eval (.tmp 61) = .slice A1 (n1) (c1) := hD 1 61 (by kernel_rfl) rfl
   exact .inr ⟨_, #[.slice A1 (n1) (c1)], (exec_call Try.func12 (by kernel_rfl) (by kernel_rfl) _ rfl _ _ (args1 d_17)), Calls.mono (Key_any _ (h1.below (below_from HB_3 hb')) (by simp only [l1])) (fun e w'' hR => by obtain ⟨A_9, c_9, rfl, ho_5, hb_7⟩ := hR; exact ⟨_, rfl, ⟨_, _, rfl, ho_5.mono hb'.size⟩, hb_7⟩)⟩)),
(step_ok rfl (fun a' w' hb' hO hD => by
   have d_18 := (hO 2 (by decide)).trans ((pm rfl).trans ta_1_2)
   exact .inl ⟨_, _, (o_field (k' := 3) rfl d_18 (fun _ => by kernel_rfl)), rfl, Below.refl _ _⟩)),
(step_ok rfl (fun a' w' hb' hO hD => by
   have d_19 : a'.eval (.tmp 63) = .pointer (some ⟨g_1, 3, none⟩) := hD 3 63 (by kernel_rfl) rfl
   exact .inl ⟨_, _, (o_load1 rfl d_19 (hB_1.nx hb') rfl ⟨by kernel_rfl, by kernel_rfl⟩), rfl, Below.refl _ _⟩)),
(step_ok rfl (fun a' w' hb' hO hD => by
   have d_20 : a'.eval (.tmp 64) = .slice A3 (n3) (c3) := hD 4 64 (by kernel_rfl) rfl
   exact .inr ⟨_, #[.slice A3 (n3) (c3)], (exec_call Try.func12 (by kernel_rfl) (by kernel_rfl) _ rfl _ _ (args1 d_20)), Calls.mono (Key_any _ (h3.below (below_from HB_3 hb')) (by simp only [l3])) (fun e w'' hR => by obtain ⟨A_10, c_10, rfl, ho_6, hb_8⟩ := hR; exact ⟨_, rfl, ⟨_, _, rfl, ho_6.mono hb'.size⟩, hb_8⟩)⟩)),
(step_ok rfl (fun a' w' hb' hO hD => by
   have d_21 := (hO 2 (by decide)).trans ((pm rfl).trans ta_1_2)
   exact .inl ⟨_, _, (o_field (k' := 5) rfl d_21 (fun _ => by kernel_rfl)), rfl, Below.refl _ _⟩)),
(step_ok rfl (fun a' w' hb' hO hD => by
   have d_22 : a'.eval (.tmp 66) = .pointer (some ⟨g_1, 5, none⟩) := hD 6 66 (by kernel_rfl) rfl
   exact .inl ⟨_, _, (o_load1 rfl d_22 (hB_1.nx hb') rfl ⟨by kernel_rfl, by kernel_rfl⟩), rfl, Below.refl _ _⟩)),
(step_ok rfl (fun a' w' hb' hO hD => by
   have d_23 : a'.eval (.tmp 67) = .slice A5 (n5) (c5) := hD 7 67 (by kernel_rfl) rfl
   exact .inr ⟨_, #[.slice A5 (n5) (c5)], (exec_call Try.func12 (by kernel_rfl) (by kernel_rfl) _ rfl _ _ (args1 d_23)), Calls.mono (Key_any _ (h5.below (below_from HB_3 hb')) (by simp only [l5])) (fun e w'' hR => by obtain ⟨A_11, c_11, rfl, ho_7, hb_9⟩ := hR; exact ⟨_, rfl, ⟨_, _, rfl, ho_7.mono hb'.size⟩, hb_9⟩)⟩)),
(step_ok rfl (fun a' w' hb' hO hD => by
   have d_24 := hD 2 62 (by kernel_rfl) rfl
   obtain ⟨A_12, c_12, hv_13, hO_6⟩ := d_24
   have d_25 := hD 5 65 (by kernel_rfl) rfl
   obtain ⟨A_13, c_13, hv_14, hO_7⟩ := d_25
   have d_26 := hD 8 68 (by kernel_rfl) rfl
   obtain ⟨A_14, c_14, hv_15, hO_8⟩ := d_26
   exact .inr ⟨_, #[.int .i64 ((3 : Nat) : Int), .slice A_12 (32) (c_12), .slice A_13 (32) (c_13), .slice A_14 (32) (c_14)], (exec_call Try.func19 (by kernel_rfl) (by kernel_rfl) _ rfl _ _ (args4 rfl hv_13 hv_14 hv_15)), Calls.mono (Answer_any 3 _ (hO_6).bs (by simp only [padTo_length]) (hO_7).bs (by simp only [padTo_length]) (hO_8).bs (by simp only [padTo_length]) (by omega)) (fun e w'' hR => by obtain ⟨M9, g9, rfl, hH9, hge9, hb9⟩ := hR; exact ⟨_, rfl, ⟨M9, g9, rfl, hH9, hge9.down hb'.size⟩, hb9⟩)⟩)),
(step_ok rfl (fun a' w' hb' hO hD => by
   have d_27 := hD 9 69 (by kernel_rfl) rfl
   obtain ⟨M_9, g_10, hv_16, hH_9, hge_9⟩ := d_27
   exact .inl ⟨_, _, (o_move rfl hv_16), ⟨_, _, rfl, hH_9, hge_9⟩, Below.refl _ _⟩)),
(step_ok rfl (fun a' w' hb' hO hD => by
   have d_28 := hD 10 59 (by kernel_rfl) rfl
   obtain ⟨M_10, g_11, hv_17, hH_10, hge_10⟩ := d_28
   exact .inl ⟨_, _, (o_extract rfl hv_17 rfl), ⟨_, _, rfl, hH_10, hge_10⟩, Below.refl _ _⟩)),
(step_ok rfl (fun a' w' hb' hO hD => by
   have d_29 := hD 10 59 (by kernel_rfl) rfl
   obtain ⟨M_11, g_12, hv_18, hH_11, hge_11⟩ := d_29
   exact .inl ⟨_, _, (o_extract rfl hv_18 rfl), rfl, Below.refl _ _⟩)),
(step_ok rfl (fun a' w' hb' hO hD => by
   have d_30 := hD 11 70 (by kernel_rfl) rfl
   obtain ⟨M_12, g_13, hv_19, hH_12, hge_12⟩ := d_30
   exact .inl ⟨_, _, (o_assign rfl hv_19), ⟨_, _, rfl, hH_12, hge_12⟩, Below.refl _ _⟩)), trivial⟩ (fun a_2 w_5 hs_2 hd_2 hb_10 hO_9 hV_2 => ?_)
 have ta_2_1 := (hO_9 1 (by decide)).trans ((pm rfl).trans ta_1_1)
 have ta_2_6 := (hO_9 6 (by decide)).trans ((pm rfl).trans ta_1_6)
 have ta_2_7 := (hO_9 7 (by decide)).trans ((pm rfl).trans hv_12)
 have ta_2_8 : a_2.eval (.tmp 8) = .int .i64 ((0 : Nat) : Int) := (hO_9 8 (by decide)).trans (pe hs_1 rfl rfl)
 clear ta_1_0 ta_1_1 ta_1_2 ta_1_4 ta_1_36 ta_1_37 ta_1_38 ta_1_42 ta_1_43 ta_1_44 ta_1_45 ta_1_41 ta_1_46 ta_1_47 ta_1_5 ta_1_6 ta_1_49 ta_1_50 hv_7 ta_1_52 ta_1_53 ta_1_54 hv_8 hv_9 hv_10 hv_11 ta_1_58 hv_12 hd_1
 replace hH_5 := hH_5.nx hb_10
 replace hH_6 := hH_6.nx hb_10
 replace hH_7 := hH_7.nx hb_10
 replace hH_8 := hH_8.nx hb_10
 have HB_4 := below_from HB_3 hb_10
 have x_7 := hV_2 2 62 rfl rfl
 obtain ⟨A_15, c_15, hv_20, hO_10⟩ := x_7
 replace hO_10 := hO_10.mono HB_3.size
 have x_8 := hV_2 5 65 rfl rfl
 obtain ⟨A_16, c_16, hv_21, hO_11⟩ := x_8
 replace hO_11 := hO_11.mono HB_3.size
 have x_9 := hV_2 8 68 rfl rfl
 obtain ⟨A_17, c_17, hv_22, hO_12⟩ := x_9
 replace hO_12 := hO_12.mono HB_3.size
 have x_10 := hV_2 9 69 rfl rfl
 obtain ⟨M_13, g_14, hv_23, hH_13, hge_13⟩ := x_10
 have x_11 := hV_2 10 59 rfl rfl
 obtain ⟨M_14, g_15, hv_24, hH_14, hge_14⟩ := x_11
 have x_12 := hV_2 11 70 rfl rfl
 obtain ⟨M_15, g_16, hv_25, hH_15, hge_15⟩ := x_12
 have ta_2_71 : a_2.eval (.tmp 71) = .int .i64 ((0 : Nat) : Int) := hV_2 12 71 rfl rfl
 have x_13 := hV_2 13 9 rfl rfl
 obtain ⟨M_16, g_17, hv_26, hH_16, hge_16⟩ := x_13
 clear hV_2 hO_9
 simp only [List.drop_succ_cons, List.drop_zero]
 refine q_at (v := .int .i64 ((0 : Nat) : Int)) ((pm rfl).trans ta_2_71) ?_
 refine x_nil ?_
 have sp_8 : Sep M_8 M_16 := Sep.new lt_8 hge_16
 have gg_2 := hge_16.down HB_3.size
 refine hK_6 _ _ ?_
 refine w2_seq (fun K_7 hK_7 => ?_)
 refine w2_sr (fun K_8 hK_8 => ?_)
 refine q_mv (v := .int .i64 ((0 : Nat) : Int)) ((pm rfl).trans ta_2_6) ?_
 refine q_v 73 (.bool (false)) (o_eq (o_neq (m := 0) (n := 0) rfl (pe hs_2 rfl rfl) rfl) rfl) ?_
 refine q_mv (pe hs_2 rfl rfl) ?_
 refine op_valG (e := 74) (d := 75) (v := .int .i64 ((0 : Nat) : Int)) rfl rfl (by kernel_rfl) (pe hs_2 rfl rfl) (o_move rfl ((pm rfl).trans ta_2_8)) ?_
 refine op_valG (e := 74) (d := 76) (v := .bool (false)) rfl rfl (by kernel_rfl) (pe hs_2 rfl rfl) (o_eq (o_neq (m := 0) (n := 0) rfl (pe hs_2 rfl rfl) rfl) rfl) ?_
 refine q_v 77 (.bool (false)) (o_pickF rfl (pe hs_2 rfl rfl) (pe hs_2 rfl rfl)) ?_
 refine q_mv (pe hs_2 rfl rfl) ?_
 refine op_valG (e := 78) (d := 79) (v := .int .i64 ((0 : Nat) : Int)) rfl rfl (by kernel_rfl) (pe hs_2 rfl rfl) (o_move rfl (pe hs_2 rfl rfl)) ?_
 refine op_valG (e := 78) (d := 80) (v := .bool (false)) rfl rfl (by kernel_rfl) (pe hs_2 rfl rfl) (o_eq (o_neq (m := 0) (n := 0) rfl (pe hs_2 rfl rfl) rfl) rfl) ?_
 refine q_v 81 (.bool (false)) (o_pickF rfl (pe hs_2 rfl rfl) (pe hs_2 rfl rfl)) ?_
 refine q_mv (pe hs_2 rfl rfl) ?_
 refine op_valG (e := 82) (d := 83) (v := .pointer (some ⟨g_9, 0, none⟩)) rfl rfl (by kernel_rfl) (pe hs_2 rfl rfl) (o_move rfl ((pm rfl).trans ta_2_7)) ?_
 refine op_valG (e := 82) (d := 84) (v := .bool (false)) rfl rfl (by kernel_rfl) (pe hs_2 rfl rfl) (o_nil (b := false) rfl (pe hs_2 rfl rfl) rfl rfl ⟨57, fun _ => by kernel_rfl⟩) ?_
 refine q_v 85 (.bool (false)) (o_pickF rfl (pe hs_2 rfl rfl) (pe hs_2 rfl rfl)) ?_
 refine q_mv (pe hs_2 rfl rfl) ?_
 refine op_valG (e := 86) (d := 87) (v := .pointer (some ⟨g_17, 0, none⟩)) rfl rfl (by kernel_rfl) (pe hs_2 rfl rfl) (o_move rfl ((pm rfl).trans hv_26)) ?_
 refine op_valG (e := 86) (d := 88) (v := .bool (false)) rfl rfl (by kernel_rfl) (pe hs_2 rfl rfl) (o_nil (b := false) rfl (pe hs_2 rfl rfl) rfl rfl ⟨57, fun _ => by kernel_rfl⟩) ?_
 refine q_v 89 (.bool (false)) (o_pickF rfl (pe hs_2 rfl rfl) (pe hs_2 rfl rfl)) ?_
 refine x_nil (hK_8 _ _ ?_)
 refine w2_condF (pe hs_2 rfl rfl) ?_
 refine w2_skip ?_
 refine hK_7 _ _ ?_
 refine w2_sr (fun K_9 hK_9 => ?_)
 refine q_mv ((pm rfl).trans ta_2_7) ?_
 refine q_mv ((pm rfl).trans ta_2_1) ?_
 refine q_ca (vs := #[.pointer (some ⟨g_9, 0, none⟩), .slice A6 (n6) (c6)]) Try.func20 (args2 (pe hs_2 rfl rfl) (pe hs_2 rfl rfl)) (Read_state _ hH_8 (by dsimp only; omega) (by dsimp only; omega)) (fun e_3 w_6 hR_4 => ?_)
 obtain ⟨rfl, rfl⟩ := hR_4
 refine ⟨_, rfl, ?_⟩
 refine q_mv (pe hs_2 rfl rfl) ?_
 refine q_ex (v := .slice none (0) (0)) (pe hs_2 rfl rfl) rfl ?_
 refine q_ex (v := .int .i64 ((9 : Nat) : Int)) (pe hs_2 rfl rfl) rfl ?_
 refine q_at (pe hs_2 rfl rfl) ?_
 refine q_at (v := .int .i64 ((9 : Nat) : Int)) (pe hs_2 rfl rfl) ?_
 refine x_nil (hK_9 _ _ ?_)
 refine w2_sr (fun K_10 hK_10 => ?_)
 refine q_mv ((pm rfl).trans hv_26) ?_
 refine q_ca (vs := #[.pointer (some ⟨g_17, 0, none⟩), .slice none (0) (0)]) Try.func21 (args2 (pe hs_2 rfl rfl) rfl) (Write_state _ hH_16 (by dsimp only; omega) (by dsimp only; omega)) (fun e_4 w_7 hR_5 => ?_)
 obtain ⟨rfl, rfl⟩ := hR_5
 refine ⟨_, rfl, ?_⟩
 refine q_mv (pe hs_2 rfl rfl) ?_
 refine q_ex (v := .slice none (0) (0)) (pe hs_2 rfl rfl) rfl ?_
 refine q_ex (v := .int .i64 ((9 : Nat) : Int)) (pe hs_2 rfl rfl) rfl ?_
 refine q_at (pe hs_2 rfl rfl) ?_
 refine q_at (v := .int .i64 ((9 : Nat) : Int)) (pe hs_2 rfl rfl) ?_
 refine x_nil (hK_10 _ _ ?_)
 refine w2_sr (fun K_11 hK_11 => ?_)
 refine q_mv ((pm rfl).trans hv_26) ?_
 refine q_mv ((pm rfl).trans ta_2_1) ?_
 refine q_ca (vs := #[.pointer (some ⟨g_17, 0, none⟩), .slice A6 (n6) (c6)]) Try.func20 (args2 (pe hs_2 rfl rfl) (pe hs_2 rfl rfl)) (Read_short _ hH_16 rfl (h6.below HB_4) (by simp only [l6]) (by omega)) (fun e_5 w_8 hR_6 => ?_)
 obtain ⟨rfl, rfl⟩ := hR_6
 refine ⟨_, rfl, ?_⟩
 refine q_mv (pe hs_2 rfl rfl) ?_
 refine q_ex (v := .slice none (0) (0)) (pe hs_2 rfl rfl) rfl ?_
 refine q_ex (v := .int .i64 ((2 : Nat) : Int)) (pe hs_2 rfl rfl) rfl ?_
 refine q_at (pe hs_2 rfl rfl) ?_
 refine q_at (v := .int .i64 ((2 : Nat) : Int)) (pe hs_2 rfl rfl) ?_
 refine x_nil (hK_11 _ _ ?_)
 refine w2_sr (fun K_12 hK_12 => ?_)
 refine q_mv ((pm rfl).trans ta_2_7) ?_
 refine q_ca (vs := #[.pointer (some ⟨g_9, 0, none⟩)]) Try.func22 (args1 (pe hs_2 rfl rfl)) (Split_state _ hH_8 (by dsimp only; omega) (by dsimp only; omega)) (fun e_6 w_9 hR_7 => ?_)
 obtain ⟨rfl, rfl⟩ := hR_7
 refine ⟨_, rfl, ?_⟩
 refine q_mv (pe hs_2 rfl rfl) ?_
 refine q_ex (v := .pointer none) (pe hs_2 rfl rfl) rfl ?_
 refine q_ex (v := .pointer none) (pe hs_2 rfl rfl) rfl ?_
 refine q_ex (v := .int .i64 ((9 : Nat) : Int)) (pe hs_2 rfl rfl) rfl ?_
 refine q_at (pe hs_2 rfl rfl) ?_
 refine q_at (pe hs_2 rfl rfl) ?_
 refine q_at (v := .int .i64 ((9 : Nat) : Int)) (pe hs_2 rfl rfl) ?_
 refine x_nil (hK_12 _ _ ?_)
 refine w2_sr (fun K_13 hK_13 => ?_)
 refine q_mv ((pm rfl).trans ta_2_7) ?_
 refine q_ca (vs := #[.pointer (some ⟨g_9, 0, none⟩), .slice none (0) (0)]) Try.func21 (args2 (pe hs_2 rfl rfl) rfl) (Write_first _ hH_8 (Bs.nil _) (by simp only [List.length_nil]) (by omega) (key_good h3.b8) (pubL_num _)) (fun e_7 w_10 hR_8 => ?_)
 obtain ⟨A_18, c_18, rfl, ho_8, ⟨M_17, hH_17, hN_1, hs_3⟩, hX_1⟩ := hR_8
 obtain ⟨S1, hS1⟩ : ∃ q : Sy, q = (firstS (shaL nameS) (shaL (shaL (shaL nameS ++ [3 / 256 % 256, 3 % 256]) ++ (pubL (padTo 32 sk)))) (padTo 32 ps) (pubL (padTo 32 ee)) (dhL (padTo 32 ee) ((secN (padTo 32 sk))))) := ⟨_, rfl⟩
 rw [← hS1] at ho_8 hH_17
 have hl_1 : (pubL (padTo 32 ee) ++ outS S1 ([])).length = 32 + (0 + 16) := by rw [List.length_append, outS_length, pubL_length]; have h9 : ([] : List Nat).length = 0 := (by simp only [List.length_nil]); omega
 have sp_13 : Sep M_16 M_17 := hN_1.sep (sp_8.symm) hH_16.lt
 replace hH_16 := hH_16.keepM hX_1 (sp_8.symm)
 have gg_3 := hN_1.ge gg_1 HB_4.size
 replace ho_8 := ho_8.mono HB_4.size
 have HB_5 := hX_1.below HB_4 HB_4.size gg_1
 refine ⟨_, rfl, ?_⟩
 refine q_mv (pe hs_2 rfl rfl) ?_
 refine q_ex (v := .slice A_18 (32 + (0 + 16)) (c_18)) (pe hs_2 rfl rfl) rfl ?_
 refine q_ex (v := .int .i64 ((0 : Nat) : Int)) (pe hs_2 rfl rfl) rfl ?_
 refine q_at (pe hs_2 rfl rfl) ?_
 refine q_at (v := .int .i64 ((0 : Nat) : Int)) (pe hs_2 rfl rfl) ?_
 refine x_nil (hK_13 _ _ ?_)
 refine w2_sr (fun K_14 hK_14 => ?_)
 refine q_mv ((pm rfl).trans ta_2_7) ?_
 refine q_ca (vs := #[.pointer (some ⟨g_9, 0, none⟩), .slice none (0) (0)]) Try.func21 (args2 (pe hs_2 rfl rfl) rfl) (Write_state _ hH_17 (by dsimp only; omega) (by dsimp only; omega)) (fun e_8 w_11 hR_9 => ?_)
 obtain ⟨rfl, rfl⟩ := hR_9
 refine ⟨_, rfl, ?_⟩
 refine q_mv (pe hs_2 rfl rfl) ?_
 refine q_ex (v := .slice none (0) (0)) (pe hs_2 rfl rfl) rfl ?_
 refine q_ex (v := .int .i64 ((9 : Nat) : Int)) (pe hs_2 rfl rfl) rfl ?_
 refine q_at (pe hs_2 rfl rfl) ?_
 refine q_at (v := .int .i64 ((9 : Nat) : Int)) (pe hs_2 rfl rfl) ?_
 refine x_nil (hK_14 _ _ ?_)
 refine w2_sr (fun K_15 hK_15 => ?_)
 refine q_mv ((pm rfl).trans hv_26) ?_
 refine q_mv (pe hs_2 rfl rfl) ?_
 refine q_ca (vs := #[.pointer (some ⟨g_17, 0, none⟩), .slice A_18 (32 + (0 + 16)) (c_18)]) Try.func20 (args2 (pe hs_2 rfl rfl) (pe hs_2 rfl rfl)) (Read_first _ hH_16 (ho_8).bs hl_1 (by omega) (by omega) (pubL_length _) (key_good h4.b8) (pubL_num _) (by rw [dhL_comm (padTo 32 sk) (padTo 32 ee), ← hS1]; exact openL_outS S1 _)) (fun e_9 w_12 hR_10 => ?_)
 obtain ⟨A_19, c_19, rfl, ho_9, ⟨M_18, hH_18, hN_2, hs_4⟩, hX_2⟩ := hR_10
 rw [dhL_comm (padTo 32 sk) (padTo 32 ee), ← hS1] at hH_18
 have sp_19 : Sep M_17 M_18 := hN_2.sep (sp_13.symm) hH_17.lt
 replace hH_17 := hH_17.keepM hX_2 (sp_13.symm)
 have gg_4 := hN_2.ge gg_2 HB_5.size
 have HB_6 := hX_2.below HB_5 HB_5.size gg_2
 refine ⟨_, rfl, ?_⟩
 refine q_mv (pe hs_2 rfl rfl) ?_
 refine q_ex (v := .slice A_19 ((([] : List Nat)).length) (c_19)) (pe hs_2 rfl rfl) rfl ?_
 refine q_ex (v := .int .i64 ((0 : Nat) : Int)) (pe hs_2 rfl rfl) rfl ?_
 refine q_at (pe hs_2 rfl rfl) ?_
 refine q_at (v := .int .i64 ((0 : Nat) : Int)) (pe hs_2 rfl rfl) ?_
 refine x_nil (hK_15 _ _ ?_)
 refine w2_sr (fun K_16 hK_16 => ?_)
 refine q_mv ((pm rfl).trans hv_26) ?_
 refine q_mv (pe hs_2 rfl rfl) ?_
 refine q_ca (vs := #[.pointer (some ⟨g_17, 0, none⟩), .slice A_18 (32 + (0 + 16)) (c_18)]) Try.func20 (args2 (pe hs_2 rfl rfl) (pe hs_2 rfl rfl)) (Read_state _ hH_18 (by dsimp only; omega) (by dsimp only; omega)) (fun e_10 w_13 hR_11 => ?_)
 obtain ⟨rfl, rfl⟩ := hR_11
 refine ⟨_, rfl, ?_⟩
 refine q_mv (pe hs_2 rfl rfl) ?_
 refine q_ex (v := .slice none (0) (0)) (pe hs_2 rfl rfl) rfl ?_
 refine q_ex (v := .int .i64 ((9 : Nat) : Int)) (pe hs_2 rfl rfl) rfl ?_
 refine q_at (pe hs_2 rfl rfl) ?_
 refine q_at (v := .int .i64 ((9 : Nat) : Int)) (pe hs_2 rfl rfl) ?_
 refine x_nil (hK_16 _ _ ?_)
 refine w2_sr (fun K_17 hK_17 => ?_)
 refine q_mv ((pm rfl).trans hv_26) ?_
 refine q_ca (vs := #[.pointer (some ⟨g_17, 0, none⟩), .slice none (0) (0)]) Try.func21 (args2 (pe hs_2 rfl rfl) rfl) (Write_second _ hH_18 (Bs.nil _) (by simp only [List.length_nil]) (by omega) (key_good h4.b8) (pubL_num _) (by first | rfl | exact pubL_length _)) (fun e_11 w_14 hR_12 => ?_)
 obtain ⟨A_20, c_20, rfl, ho_10, ⟨M_19, hH_19, hN_3, hs_5⟩, hX_3⟩ := hR_12
 obtain ⟨S2, hS2⟩ : ∃ q : Sy, q = (secondS S1.ck (shaL (S1.h ++ (outS S1 (([] : List Nat))))) (pubL (padTo 32 ff)) (dhL (padTo 32 ff) ((secN (padTo 32 ee))))) := ⟨_, rfl⟩
 rw [← hS2] at ho_10 hH_19
 have hl_2 : (pubL (padTo 32 ff) ++ outS S2 ([])).length = 32 + (0 + 16) := by rw [List.length_append, outS_length, pubL_length]; have h9 : ([] : List Nat).length = 0 := (by simp only [List.length_nil]); omega
 have sp_27 : Sep M_17 M_19 := hN_3.sep (sp_19) hH_17.lt
 replace hH_17 := hH_17.keepM hX_3 (sp_19)
 replace ho_10 := ho_10.mono HB_6.size
 have HB_7 := hX_3.below HB_6 HB_6.size gg_4
 refine ⟨_, rfl, ?_⟩
 refine q_mv (pe hs_2 rfl rfl) ?_
 refine q_ex (v := .slice A_20 (32 + (0 + 16)) (c_20)) (pe hs_2 rfl rfl) rfl ?_
 refine q_ex (v := .int .i64 ((0 : Nat) : Int)) (pe hs_2 rfl rfl) rfl ?_
 refine q_at (pe hs_2 rfl rfl) ?_
 refine q_at (v := .int .i64 ((0 : Nat) : Int)) (pe hs_2 rfl rfl) ?_
 refine x_nil (hK_17 _ _ ?_)
 refine w2_sr (fun K_18 hK_18 => ?_)
 refine q_mv ((pm rfl).trans ta_2_7) ?_
 refine q_mv (pe hs_2 rfl rfl) ?_
 refine q_ca (vs := #[.pointer (some ⟨g_9, 0, none⟩), .slice A_20 (32 + (0 + 16)) (c_20)]) Try.func20 (args2 (pe hs_2 rfl rfl) (pe hs_2 rfl rfl)) (Read_second _ hH_17 (ho_10).bs hl_2 (by omega) (by omega) (pubL_length _) (key_good h5.b8) (pubL_num _) (by rw [dhL_comm (padTo 32 ee) (padTo 32 ff), ← hS2]; exact openL_outS S2 _)) (fun e_12 w_15 hR_13 => ?_)
 obtain ⟨A_21, c_21, rfl, ho_11, ⟨M_20, hH_20, hN_4, hs_6⟩, hX_4⟩ := hR_13
 rw [dhL_comm (padTo 32 ee) (padTo 32 ff), ← hS2] at hH_20
 replace hH_19 := hH_19.keepM hX_4 (sp_27.symm)
 have HB_8 := hX_4.below HB_7 HB_7.size gg_3
 refine ⟨_, rfl, ?_⟩
 refine q_mv (pe hs_2 rfl rfl) ?_
 refine q_ex (v := .slice A_21 ((([] : List Nat)).length) (c_21)) (pe hs_2 rfl rfl) rfl ?_
 refine q_ex (v := .int .i64 ((0 : Nat) : Int)) (pe hs_2 rfl rfl) rfl ?_
 refine q_at (pe hs_2 rfl rfl) ?_
 refine q_at (v := .int .i64 ((0 : Nat) : Int)) (pe hs_2 rfl rfl) ?_
 refine x_nil (hK_18 _ _ ?_)
 refine w2_sr (fun K_19 hK_19 => ?_)
 refine q_mv ((pm rfl).trans ta_2_7) ?_
 refine q_ca (vs := #[.pointer (some ⟨g_9, 0, none⟩), .slice none (0) (0)]) Try.func21 (args2 (pe hs_2 rfl rfl) rfl) (Write_state _ hH_20 (by dsimp only; omega) (by dsimp only; omega)) (fun e_13 w_16 hR_14 => ?_)
 obtain ⟨rfl, rfl⟩ := hR_14
 refine ⟨_, rfl, ?_⟩
 refine q_mv (pe hs_2 rfl rfl) ?_
 refine q_ex (v := .slice none (0) (0)) (pe hs_2 rfl rfl) rfl ?_
 refine q_ex (v := .int .i64 ((9 : Nat) : Int)) (pe hs_2 rfl rfl) rfl ?_
 refine q_at (pe hs_2 rfl rfl) ?_
 refine q_at (v := .int .i64 ((9 : Nat) : Int)) (pe hs_2 rfl rfl) ?_
 refine x_nil (hK_19 _ _ ?_)
 refine w2_sr (fun K_20 hK_20 => ?_)
 refine q_mv ((pm rfl).trans hv_26) ?_
 refine q_mv (pe hs_2 rfl rfl) ?_
 refine q_ca (vs := #[.pointer (some ⟨g_17, 0, none⟩), .slice A_18 (32 + (0 + 16)) (c_18)]) Try.func20 (args2 (pe hs_2 rfl rfl) (pe hs_2 rfl rfl)) (Read_state _ hH_19 (by dsimp only; omega) (by dsimp only; omega)) (fun e_14 w_17 hR_15 => ?_)
 obtain ⟨rfl, rfl⟩ := hR_15
 refine ⟨_, rfl, ?_⟩
 refine q_mv (pe hs_2 rfl rfl) ?_
 refine q_ex (v := .slice none (0) (0)) (pe hs_2 rfl rfl) rfl ?_
 refine q_ex (v := .int .i64 ((9 : Nat) : Int)) (pe hs_2 rfl rfl) rfl ?_
 refine q_at (pe hs_2 rfl rfl) ?_
 refine q_at (v := .int .i64 ((9 : Nat) : Int)) (pe hs_2 rfl rfl) ?_
 refine x_nil (hK_20 _ _ ?_)
 refine w2_sr (fun K_21 hK_21 => ?_)
 refine q_mv (v := .int .i64 ((9 : Nat) : Int)) (pe hs_2 rfl rfl) ?_
 refine q_v 158 (.bool (true)) (o_eq (o_eql (m := 9) (n := 9) rfl (pe hs_2 rfl rfl) rfl) rfl) ?_
 refine q_mv (pe hs_2 rfl rfl) ?_
 refine op_valG (e := 159) (d := 160) (v := .int .i64 ((9 : Nat) : Int)) rfl rfl (by kernel_rfl) (pe hs_2 rfl rfl) (o_move rfl (pe hs_2 rfl rfl)) ?_
 refine op_valG (e := 159) (d := 161) (v := .bool (true)) rfl rfl (by kernel_rfl) (pe hs_2 rfl rfl) (o_eq (o_eql (m := 9) (n := 9) rfl (pe hs_2 rfl rfl) rfl) rfl) ?_
 refine q_v 162 (.bool (true)) (o_pickT rfl (pe hs_2 rfl rfl) (pe hs_2 rfl rfl)) ?_
 refine q_mv (pe hs_2 rfl rfl) ?_
 refine op_valG (e := 163) (d := 164) (v := .int .i64 ((2 : Nat) : Int)) rfl rfl (by kernel_rfl) (pe hs_2 rfl rfl) (o_move rfl (pe hs_2 rfl rfl)) ?_
 refine op_valG (e := 163) (d := 165) (v := .bool (true)) rfl rfl (by kernel_rfl) (pe hs_2 rfl rfl) (o_eq (o_eql (m := 2) (n := 2) rfl (pe hs_2 rfl rfl) rfl) rfl) ?_
 refine q_v 166 (.bool (true)) (o_pickT rfl (pe hs_2 rfl rfl) (pe hs_2 rfl rfl)) ?_
 refine q_mv (pe hs_2 rfl rfl) ?_
 refine op_valG (e := 167) (d := 168) (v := .int .i64 ((9 : Nat) : Int)) rfl rfl (by kernel_rfl) (pe hs_2 rfl rfl) (o_move rfl (pe hs_2 rfl rfl)) ?_
 refine op_valG (e := 167) (d := 169) (v := .bool (true)) rfl rfl (by kernel_rfl) (pe hs_2 rfl rfl) (o_eq (o_eql (m := 9) (n := 9) rfl (pe hs_2 rfl rfl) rfl) rfl) ?_
 refine q_v 170 (.bool (true)) (o_pickT rfl (pe hs_2 rfl rfl) (pe hs_2 rfl rfl)) ?_
 refine q_mv (pe hs_2 rfl rfl) ?_
 refine op_valG (e := 171) (d := 172) (v := .int .i64 ((0 : Nat) : Int)) rfl rfl (by kernel_rfl) (pe hs_2 rfl rfl) (o_move rfl (pe hs_2 rfl rfl)) ?_
 refine op_valG (e := 171) (d := 173) (v := .bool (true)) rfl rfl (by kernel_rfl) (pe hs_2 rfl rfl) (o_eq (o_eql (m := 0) (n := 0) rfl (pe hs_2 rfl rfl) rfl) rfl) ?_
 refine q_v 174 (.bool (true)) (o_pickT rfl (pe hs_2 rfl rfl) (pe hs_2 rfl rfl)) ?_
 refine q_mv (pe hs_2 rfl rfl) ?_
 refine op_valG (e := 175) (d := 176) (v := .int .i64 ((9 : Nat) : Int)) rfl rfl (by kernel_rfl) (pe hs_2 rfl rfl) (o_move rfl (pe hs_2 rfl rfl)) ?_
 refine op_valG (e := 175) (d := 177) (v := .bool (true)) rfl rfl (by kernel_rfl) (pe hs_2 rfl rfl) (o_eq (o_eql (m := 9) (n := 9) rfl (pe hs_2 rfl rfl) rfl) rfl) ?_
 refine q_v 178 (.bool (true)) (o_pickT rfl (pe hs_2 rfl rfl) (pe hs_2 rfl rfl)) ?_
 refine q_mv (pe hs_2 rfl rfl) ?_
 refine op_valG (e := 179) (d := 180) (v := .int .i64 ((0 : Nat) : Int)) rfl rfl (by kernel_rfl) (pe hs_2 rfl rfl) (o_move rfl (pe hs_2 rfl rfl)) ?_
 refine op_valG (e := 179) (d := 181) (v := .bool (true)) rfl rfl (by kernel_rfl) (pe hs_2 rfl rfl) (o_eq (o_eql (m := 0) (n := 0) rfl (pe hs_2 rfl rfl) rfl) rfl) ?_
 refine q_v 182 (.bool (true)) (o_pickT rfl (pe hs_2 rfl rfl) (pe hs_2 rfl rfl)) ?_
 refine q_mv (pe hs_2 rfl rfl) ?_
 refine op_valG (e := 183) (d := 184) (v := .int .i64 ((9 : Nat) : Int)) rfl rfl (by kernel_rfl) (pe hs_2 rfl rfl) (o_move rfl (pe hs_2 rfl rfl)) ?_
 refine op_valG (e := 183) (d := 185) (v := .bool (true)) rfl rfl (by kernel_rfl) (pe hs_2 rfl rfl) (o_eq (o_eql (m := 9) (n := 9) rfl (pe hs_2 rfl rfl) rfl) rfl) ?_
 refine q_v 186 (.bool (true)) (o_pickT rfl (pe hs_2 rfl rfl) (pe hs_2 rfl rfl)) ?_
 refine q_mv (pe hs_2 rfl rfl) ?_
 refine op_valG (e := 187) (d := 188) (v := .int .i64 ((0 : Nat) : Int)) rfl rfl (by kernel_rfl) (pe hs_2 rfl rfl) (o_move rfl (pe hs_2 rfl rfl)) ?_
 refine op_valG (e := 187) (d := 189) (v := .bool (true)) rfl rfl (by kernel_rfl) (pe hs_2 rfl rfl) (o_eq (o_eql (m := 0) (n := 0) rfl (pe hs_2 rfl rfl) rfl) rfl) ?_
 refine q_v 190 (.bool (true)) (o_pickT rfl (pe hs_2 rfl rfl) (pe hs_2 rfl rfl)) ?_
 refine q_mv (pe hs_2 rfl rfl) ?_
 refine op_valG (e := 191) (d := 192) (v := .int .i64 ((0 : Nat) : Int)) rfl rfl (by kernel_rfl) (pe hs_2 rfl rfl) (o_move rfl (pe hs_2 rfl rfl)) ?_
 refine op_valG (e := 191) (d := 193) (v := .bool (true)) rfl rfl (by kernel_rfl) (pe hs_2 rfl rfl) (o_eq (o_eql (m := 0) (n := 0) rfl (pe hs_2 rfl rfl) rfl) rfl) ?_
 refine q_v 194 (.bool (true)) (o_pickT rfl (pe hs_2 rfl rfl) (pe hs_2 rfl rfl)) ?_
 refine q_mv (pe hs_2 rfl rfl) ?_
 refine op_valG (e := 195) (d := 196) (v := .int .i64 ((9 : Nat) : Int)) rfl rfl (by kernel_rfl) (pe hs_2 rfl rfl) (o_move rfl (pe hs_2 rfl rfl)) ?_
 refine op_valG (e := 195) (d := 197) (v := .bool (true)) rfl rfl (by kernel_rfl) (pe hs_2 rfl rfl) (o_eq (o_eql (m := 9) (n := 9) rfl (pe hs_2 rfl rfl) rfl) rfl) ?_
 refine q_v 198 (.bool (true)) (o_pickT rfl (pe hs_2 rfl rfl) (pe hs_2 rfl rfl)) ?_
 refine q_mv (pe hs_2 rfl rfl) ?_
 refine op_valG (e := 199) (d := 200) (v := .int .i64 ((9 : Nat) : Int)) rfl rfl (by kernel_rfl) (pe hs_2 rfl rfl) (o_move rfl (pe hs_2 rfl rfl)) ?_
 refine op_valG (e := 199) (d := 201) (v := .bool (true)) rfl rfl (by kernel_rfl) (pe hs_2 rfl rfl) (o_eq (o_eql (m := 9) (n := 9) rfl (pe hs_2 rfl rfl) rfl) rfl) ?_
 refine q_v 202 (.bool (true)) (o_pickT rfl (pe hs_2 rfl rfl) (pe hs_2 rfl rfl)) ?_
 refine q_mv (pe hs_2 rfl rfl) ?_
 refine op_callG (e := 203) (vs := #[]) rfl rfl (by kernel_rfl) (pe hs_2 rfl rfl) (exec_call Try.func10 (by kernel_rfl) (by kernel_rfl) _ rfl _ _ (args0)) (awake10_any _) (fun e_15 w_18 hR_16 => ?_)
 obtain ⟨rfl, hb_20⟩ := hR_16
 replace hH_19 := hH_19.nx hb_20
 replace hH_20 := hH_20.nx hb_20
 have HB_9 := below_from HB_8 hb_20
 refine ⟨_, rfl, ?_⟩
 refine q_v 205 (.bool (true)) (o_pickT rfl (pe hs_2 rfl rfl) (pe hs_2 rfl rfl)) ?_
 refine q_at (pe hs_2 rfl rfl) ?_
 refine x_nil (hK_21 _ _ ?_)
 refine w2_ret ?_
 refine ret1 rfl hd_2 (pe hs_2 rfl rfl) ?_
 exact ⟨rfl, HB_9⟩
set_option maxHeartbeats 1000000 in
theorem TurnsB {A1 A2 A3 A4 A5 : Option Addr} {c1 c2 c3 c4 c5 n1 n2 n3 n4 n5 : Nat} {ps sv sk ee ff : List Nat} (z : Int) {A6 : Option Addr} {c6 n6 : Nat} {xs : List Nat} (w : World) (h1 : Bs w A1 c1 ps) (l1 : ps.length = n1) (h2 : Bs w A2 c2 sv) (l2 : sv.length = n2) (h3 : Bs w A3 c3 sk) (l3 : sk.length = n3) (h4 : Bs w A4 c4 ee) (l4 : ee.length = n4) (h5 : Bs w A5 c5 ff) (l5 : ff.length = n5) (h6 : Bs w A6 c6 xs) (l6 : xs.length = n6) (hbig : 47 < n6) :
  Calls Try.prog 4 #[.agg #[.int .i64 (z), .slice A1 (n1) (c1), .slice A2 (n2) (c2), .slice A3 (n3) (c3), .slice A4 (n4) (c4), .slice A5 (n5) (c5)], .slice A6 (n6) (c6)] w fun e w' => e = .returned (.bool true) ∧ Below w.heap.size w w' := by
 have hc6 := h6.le
 have hS6 := h6.first (n := 47) (by omega)
 have hl6 : (xs.take 47).length = 47 := List.length_take_of_le (by omega)
 refine x_enter 206 Try.func4 rfl rfl (fun a hs hd ha0 => ?_)
 have t0 : a.eval (.tmp 0) = .agg #[.int .i64 (z), .slice A1 (n1) (c1), .slice A2 (n2) (c2), .slice A3 (n3) (c3), .slice A4 (n4) (c4), .slice A5 (n5) (c5)] := ha0 0 _ rfl
 have t1 : a.eval (.tmp 1) = .slice A6 (n6) (c6) := ha0 1 _ rfl
 clear ha0
 refine w2_sr (fun K_1 hK_1 => ?_)
 refine op_ex (d := 2) rfl rfl (o_boxL (cs := #[.int .i64 (z), .slice A1 (n1) (c1), .slice A2 (n2) (c2), .slice A3 (n3) (c3), .slice A4 (n4) (c4), .slice A5 (n5) (c5)]) rfl ((pm rfl).trans t0)) (fun v_1 w_1 hR_1 => ?_)
 obtain ⟨g_1, rfl, hle_1, hB_1, hb_1⟩ := hR_1
 refine q_as (.bool (false)) rfl ?_
 refine x_nil (hK_1 _ _ ?_)
 refine w2_seq (fun K_2 hK_2 => ?_)
 refine w2_sr (fun K_3 hK_3 => ?_)
 refine q_mv ((pm rfl).trans t1) ?_
 refine q_v 37 (.int .i64 ((n6 : Nat) : Int)) (o_len rfl (pe hs rfl rfl)) ?_
 refine q_v 38 (.bool (true)) (o_eq (o_gtr (m := n6) (n := 47) rfl (pe hs rfl rfl) rfl) (by rw [decide_eq_true hbig])) ?_
 refine x_nil (hK_3 _ _ ?_)
 refine w2_condT (pe hs rfl rfl) ?_
 refine x_region (by kernel_rfl) ?_
 refine q_mv ((pm rfl).trans t1) ?_
 refine q_v 40 (.slice ((subA A6 0 c6)) (47) (c6)) (o_sliceH (h := 47) rfl (pe hs rfl rfl) rfl (by omega)) ?_
 refine q_at (pe hs rfl rfl) ?_
 refine x_nil (hK_2 _ _ ?_)
 refine w2_sr (fun K_4 hK_4 => ?_)
 refine q_fa 3 (pe hs rfl rfl) ?_
 refine q_ld (v := .slice A3 (n3) (c3)) (pe hs rfl rfl) hB_1 rfl ?_
 refine q_ca (vs := #[.slice A3 (n3) (c3)]) Try.func12 (args1 (pe hs rfl rfl)) (Key_any _ (h3.below hb_1) (by simp only [l3])) (fun e_1 w_2 hR_2 => ?_)
 obtain ⟨A_1, c_1, rfl, ho_1, hb_2⟩ := hR_2
 replace ho_1 := ho_1.mono hb_1.size
 replace hB_1 := hB_1.nx hb_2
 have HB_1 := below_from hb_1 hb_2
 refine ⟨_, rfl, ?_⟩
 refine q_ca (vs := #[.slice A_1 (32) (c_1)]) Try.func17 (args1 (pe hs rfl rfl)) (Base_own _ (ho_1).bs (by simp only [padTo_length])) (fun e_2 w_3 hR_3 => ?_)
 obtain ⟨A_2, c_2, rfl, ho_2, hb_3⟩ := hR_3
 replace ho_2 := ho_2.mono HB_1.size
 replace hB_1 := hB_1.nx hb_3
 have HB_2 := below_from HB_1 hb_3
 refine ⟨_, rfl, ?_⟩
 refine q_mv (pe hs rfl rfl) ?_
 refine q_ex (v := .slice A_2 (32) (c_2)) (pe hs rfl rfl) rfl ?_
 refine q_ex (v := .int .i64 ((0 : Nat) : Int)) (pe hs rfl rfl) rfl ?_
 refine q_at (pe hs rfl rfl) ?_
 refine q_at (v := .int .i64 ((0 : Nat) : Int)) (pe hs rfl rfl) ?_
 refine x_nil (hK_4 _ _ ?_)
 refine w2_seq (fun K_5 hK_5 => ?_)
 refine x_drawn2 12 [fun _ v => v = .pointer (some ⟨g_1, 1, none⟩), fun _ v => v = .slice A1 (n1) (c1), fun ww vv => OwnN w_3.heap.size (32) (padTo 32 ps) ww vv, fun _ v => v = .slice A_2 (32) (c_2), fun _ v => v = .pointer (some ⟨g_1, 4, none⟩), fun _ v => v = .slice A4 (n4) (c4), fun ww vv => OwnN w_3.heap.size (32) (padTo 32 ee) ww vv, fun ww vv => TupH w_3 ⟨shaL nameS, shaL (shaL (shaL nameS ++ [3 / 256 % 256, 3 % 256]) ++ (pubL (padTo 32 sk))), padTo 32 ps, padTo 32 ee, pubL (padTo 32 ee), pubL (padTo 32 sk), [], true, false, 0⟩ ww vv, fun ww vv => TupH w_3 ⟨shaL nameS, shaL (shaL (shaL nameS ++ [3 / 256 % 256, 3 % 256]) ++ (pubL (padTo 32 sk))), padTo 32 ps, padTo 32 ee, pubL (padTo 32 ee), pubL (padTo 32 sk), [], true, false, 0⟩ ww vv, fun ww vv => PtrH w_3 ⟨shaL nameS, shaL (shaL (shaL nameS ++ [3 / 256 % 256, 3 % 256]) ++ (pubL (padTo 32 sk))), padTo 32 ps, padTo 32 ee, pubL (padTo 32 ee), pubL (padTo 32 sk), [], true, false, 0⟩ ww vv, fun _ v => v = .int .i64 ((0 : Nat) : Int), fun ww vv => PtrH w_3 ⟨shaL nameS, shaL (shaL (shaL nameS ++ [3 / 256 % 256, 3 % 256]) ++ (pubL (padTo 32 sk))), padTo 32 ps, padTo 32 ee, pubL (padTo 32 ee), pubL (padTo 32 sk), [], true, false, 0⟩ ww vv] [49, 50, 51, 52, 53, 54, 55, 56, 48, 57, 58, 7] hs hd (by kernel_rfl) (by kernel_rfl) (by kernel_rfl) (by kernel_rfl) (by kernel_rfl) ⟨stLit, stLit, stOwn, stLit, stLit, stLit, stOwn, stTupH, stTupH, stPtrH, stLit, stPtrH, trivial⟩ ⟨(step_ok rfl (fun a' w' hb' hO hD => by
   have d_1 : a'.eval (.tmp 2) = .pointer (some ⟨g_1, 0, none⟩) := (hO 2 (by decide)).trans (pe hs rfl rfl)
   exact .inl ⟨_, _, (o_field (k' := 1) rfl d_1 (fun _ => by kernel_rfl)), rfl, Below.refl _ _⟩)),
(step_ok rfl (fun a' w' hb' hO hD => by
   have d_2 : a'.eval (.tmp 49) = .pointer (some ⟨g_1, 1, none⟩) := hD 0 49 (by kernel_rfl) rfl
   exact .inl ⟨_, _, (o_load1 rfl d_2 (hB_1.nx hb') rfl ⟨by kernel_rfl, by kernel_rfl⟩), rfl, Below.refl _ _⟩)),
(step_ok rfl (fun a' w' hb' hO hD => by
   have d_3 : a'.eval (.tmp 50) = .slice A1 (n1) (c1) := hD 1 50 (by kernel_rfl) rfl
   exact .inr ⟨_, #[.slice A1 (n1) (c1)], (exec_call Try.func12 (by kernel_rfl) (by kernel_rfl) _ rfl _ _ (args1 d_3)), Calls.mono (Key_any _ (h1.below (below_from HB_2 hb')) (by simp only [l1])) (fun e w'' hR => by obtain ⟨A_3, c_3, rfl, ho_3, hb_4⟩ := hR; exact ⟨_, rfl, ⟨_, _, rfl, ho_3.mono hb'.size⟩, hb_4⟩)⟩)),
(step_ok rfl (fun a' w' hb' hO hD => by
   have d_4 : a'.eval (.tmp 5) = .slice A_2 (32) (c_2) := (hO 5 (by decide)).trans (pe hs rfl rfl)
   exact .inl ⟨_, _, (o_move rfl d_4), rfl, Below.refl _ _⟩)),
(step_ok rfl (fun a' w' hb' hO hD => by
   have d_5 : a'.eval (.tmp 2) = .pointer (some ⟨g_1, 0, none⟩) := (hO 2 (by decide)).trans (pe hs rfl rfl)
   exact .inl ⟨_, _, (o_field (k' := 4) rfl d_5 (fun _ => by kernel_rfl)), rfl, Below.refl _ _⟩)),
(step_ok rfl (fun a' w' hb' hO hD => by
   have d_6 : a'.eval (.tmp 53) = .pointer (some ⟨g_1, 4, none⟩) := hD 4 53 (by kernel_rfl) rfl
   exact .inl ⟨_, _, (o_load1 rfl d_6 (hB_1.nx hb') rfl ⟨by kernel_rfl, by kernel_rfl⟩), rfl, Below.refl _ _⟩)),
(step_ok rfl (fun a' w' hb' hO hD => by
   have d_7 : a'.eval (.tmp 54) = .slice A4 (n4) (c4) := hD 5 54 (by kernel_rfl) rfl
   exact .inr ⟨_, #[.slice A4 (n4) (c4)], (exec_call Try.func12 (by kernel_rfl) (by kernel_rfl) _ rfl _ _ (args1 d_7)), Calls.mono (Key_any _ (h4.below (below_from HB_2 hb')) (by simp only [l4])) (fun e w'' hR => by obtain ⟨A_4, c_4, rfl, ho_4, hb_5⟩ := hR; exact ⟨_, rfl, ⟨_, _, rfl, ho_4.mono hb'.size⟩, hb_5⟩)⟩)),
(step_ok rfl (fun a' w' hb' hO hD => by
   have d_8 := hD 2 51 (by kernel_rfl) rfl
   obtain ⟨A_5, c_5, hv_1, hO_1⟩ := d_8
   have d_9 : a'.eval (.tmp 52) = .slice A_2 (32) (c_2) := hD 3 52 (by kernel_rfl) rfl
   have d_10 := hD 6 55 (by kernel_rfl) rfl
   obtain ⟨A_6, c_6, hv_2, hO_2⟩ := d_10
   exact .inr ⟨_, #[.int .i64 ((3 : Nat) : Int), .slice A_5 (32) (c_5), .slice A_2 (32) (c_2), .slice A_6 (32) (c_6)], (exec_call Try.func18 (by kernel_rfl) (by kernel_rfl) _ rfl _ _ (args4 rfl hv_1 d_9 hv_2)), Calls.mono (Ask_any 3 _ (hO_1).bs (by simp only [padTo_length]) ((ho_2.nx hb')).bs (pubL_length _) (hO_2).bs (by simp only [padTo_length]) (by omega)) (fun e w'' hR => by obtain ⟨M9, g9, rfl, hH9, hge9, hb9⟩ := hR; exact ⟨_, rfl, ⟨M9, g9, rfl, hH9, hge9.down hb'.size⟩, hb9⟩)⟩)),
(step_ok rfl (fun a' w' hb' hO hD => by
   have d_11 := hD 7 56 (by kernel_rfl) rfl
   obtain ⟨M_1, g_2, hv_3, hH_1, hge_1⟩ := d_11
   exact .inl ⟨_, _, (o_move rfl hv_3), ⟨_, _, rfl, hH_1, hge_1⟩, Below.refl _ _⟩)),
(step_ok rfl (fun a' w' hb' hO hD => by
   have d_12 := hD 8 48 (by kernel_rfl) rfl
   obtain ⟨M_2, g_3, hv_4, hH_2, hge_2⟩ := d_12
   exact .inl ⟨_, _, (o_extract rfl hv_4 rfl), ⟨_, _, rfl, hH_2, hge_2⟩, Below.refl _ _⟩)),
(step_ok rfl (fun a' w' hb' hO hD => by
   have d_13 := hD 8 48 (by kernel_rfl) rfl
   obtain ⟨M_3, g_4, hv_5, hH_3, hge_3⟩ := d_13
   exact .inl ⟨_, _, (o_extract rfl hv_5 rfl), rfl, Below.refl _ _⟩)),
(step_ok rfl (fun a' w' hb' hO hD => by
   have d_14 := hD 9 57 (by kernel_rfl) rfl
   obtain ⟨M_4, g_5, hv_6, hH_4, hge_4⟩ := d_14
   exact .inl ⟨_, _, (o_assign rfl hv_6), ⟨_, _, rfl, hH_4, hge_4⟩, Below.refl _ _⟩)), trivial⟩ (fun a_1 w_4 hs_1 hd_1 hb_6 hO_3 hV_1 => ?_)
 have ta_1_0 := (hO_3 0 (by decide)).trans ((pm rfl).trans t0)
 have ta_1_1 : a_1.eval (.tmp 1) = .slice ((subA A6 0 c6)) (47) (c6) := (hO_3 1 (by decide)).trans (pe hs rfl rfl)
 have ta_1_2 : a_1.eval (.tmp 2) = .pointer (some ⟨g_1, 0, none⟩) := (hO_3 2 (by decide)).trans (pe hs rfl rfl)
 have ta_1_4 : a_1.eval (.tmp 4) = .bool (false) := (hO_3 4 (by decide)).trans (pe hs rfl rfl)
 have ta_1_36 : a_1.eval (.tmp 36) = .slice A6 (n6) (c6) := (hO_3 36 (by decide)).trans (pe hs rfl rfl)
 have ta_1_37 : a_1.eval (.tmp 37) = .int .i64 ((n6 : Nat) : Int) := (hO_3 37 (by decide)).trans (pe hs rfl rfl)
 have ta_1_38 : a_1.eval (.tmp 38) = .bool (true) := (hO_3 38 (by decide)).trans (pe hs rfl rfl)
 have ta_1_39 : a_1.eval (.tmp 39) = .slice A6 (n6) (c6) := (hO_3 39 (by decide)).trans (pe hs rfl rfl)
 have ta_1_40 : a_1.eval (.tmp 40) = .slice ((subA A6 0 c6)) (47) (c6) := (hO_3 40 (by decide)).trans (pe hs rfl rfl)
 have ta_1_42 : a_1.eval (.tmp 42) = .pointer (some ⟨g_1, 3, none⟩) := (hO_3 42 (by decide)).trans (pe hs rfl rfl)
 have ta_1_43 : a_1.eval (.tmp 43) = .slice A3 (n3) (c3) := (hO_3 43 (by decide)).trans (pe hs rfl rfl)
 have ta_1_44 : a_1.eval (.tmp 44) = .slice A_1 (32) (c_1) := (hO_3 44 (by decide)).trans (pe hs rfl rfl)
 have ta_1_45 : a_1.eval (.tmp 45) = .tuple #[.slice A_2 (32) (c_2), .int .i64 ((0 : Nat) : Int)] := (hO_3 45 (by decide)).trans (pe hs rfl rfl)
 have ta_1_41 : a_1.eval (.tmp 41) = .tuple #[.slice A_2 (32) (c_2), .int .i64 ((0 : Nat) : Int)] := (hO_3 41 (by decide)).trans (pe hs rfl rfl)
 have ta_1_46 : a_1.eval (.tmp 46) = .slice A_2 (32) (c_2) := (hO_3 46 (by decide)).trans (pe hs rfl rfl)
 have ta_1_47 : a_1.eval (.tmp 47) = .int .i64 ((0 : Nat) : Int) := (hO_3 47 (by decide)).trans (pe hs rfl rfl)
 have ta_1_5 : a_1.eval (.tmp 5) = .slice A_2 (32) (c_2) := (hO_3 5 (by decide)).trans (pe hs rfl rfl)
 have ta_1_6 : a_1.eval (.tmp 6) = .int .i64 ((0 : Nat) : Int) := (hO_3 6 (by decide)).trans (pe hs rfl rfl)
 clear t0 t1 hd
 replace hB_1 := hB_1.nx hb_6
 have HB_3 := below_from HB_2 hb_6
 have ta_1_49 : a_1.eval (.tmp 49) = .pointer (some ⟨g_1, 1, none⟩) := hV_1 0 49 rfl rfl
 have ta_1_50 : a_1.eval (.tmp 50) = .slice A1 (n1) (c1) := hV_1 1 50 rfl rfl
 have x_1 := hV_1 2 51 rfl rfl
 obtain ⟨A_7, c_7, hv_7, hO_4⟩ := x_1
 replace hO_4 := hO_4.mono HB_2.size
 have ta_1_52 : a_1.eval (.tmp 52) = .slice A_2 (32) (c_2) := hV_1 3 52 rfl rfl
 have ta_1_53 : a_1.eval (.tmp 53) = .pointer (some ⟨g_1, 4, none⟩) := hV_1 4 53 rfl rfl
 have ta_1_54 : a_1.eval (.tmp 54) = .slice A4 (n4) (c4) := hV_1 5 54 rfl rfl
 have x_2 := hV_1 6 55 rfl rfl
 obtain ⟨A_8, c_8, hv_8, hO_5⟩ := x_2
 replace hO_5 := hO_5.mono HB_2.size
 have x_3 := hV_1 7 56 rfl rfl
 obtain ⟨M_5, g_6, hv_9, hH_5, hge_5⟩ := x_3
 have x_4 := hV_1 8 48 rfl rfl
 obtain ⟨M_6, g_7, hv_10, hH_6, hge_6⟩ := x_4
 have x_5 := hV_1 9 57 rfl rfl
 obtain ⟨M_7, g_8, hv_11, hH_7, hge_7⟩ := x_5
 have ta_1_58 : a_1.eval (.tmp 58) = .int .i64 ((0 : Nat) : Int) := hV_1 10 58 rfl rfl
 have x_6 := hV_1 11 7 rfl rfl
 obtain ⟨M_8, g_9, hv_12, hH_8, hge_8⟩ := x_6
 clear hV_1 hO_3
 simp only [List.drop_succ_cons, List.drop_zero]
 refine q_at (v := .int .i64 ((0 : Nat) : Int)) ((pm rfl).trans ta_1_58) ?_
 refine x_nil ?_
 have gg_1 := hge_8.down HB_2.size
 refine hK_5 _ _ ?_
 refine w2_seq (fun K_6 hK_6 => ?_)
 have lt_8 := hH_8.lt
 refine x_drawn2 14 [fun _ v => v = .pointer (some ⟨g_1, 1, none⟩), fun _ v => v = .slice A1 (n1) (c1), fun ww vv => OwnN w_4.heap.size (32) (padTo 32 ps) ww vv, fun _ v => v = .pointer (some ⟨g_1, 3, none⟩), fun _ v => v = .slice A3 (n3) (c3), fun ww vv => OwnN w_4.heap.size (32) (padTo 32 sk) ww vv, fun _ v => v = .pointer (some ⟨g_1, 5, none⟩), fun _ v => v = .slice A5 (n5) (c5), fun ww vv => OwnN w_4.heap.size (32) (padTo 32 ff) ww vv, fun ww vv => TupH w_4 ⟨shaL nameS, shaL (shaL (shaL nameS ++ [3 / 256 % 256, 3 % 256]) ++ pubL (padTo 32 sk)), padTo 32 ps, padTo 32 ff, pubL (padTo 32 ff), padTo 32 sk, [], false, false, 1⟩ ww vv, fun ww vv => TupH w_4 ⟨shaL nameS, shaL (shaL (shaL nameS ++ [3 / 256 % 256, 3 % 256]) ++ pubL (padTo 32 sk)), padTo 32 ps, padTo 32 ff, pubL (padTo 32 ff), padTo 32 sk, [], false, false, 1⟩ ww vv, fun ww vv => PtrH w_4 ⟨shaL nameS, shaL (shaL (shaL nameS ++ [3 / 256 % 256, 3 % 256]) ++ pubL (padTo 32 sk)), padTo 32 ps, padTo 32 ff, pubL (padTo 32 ff), padTo 32 sk, [], false, false, 1⟩ ww vv, fun _ v => v = .int .i64 ((0 : Nat) : Int), fun ww vv => PtrH w_4 ⟨shaL nameS, shaL (shaL (shaL nameS ++ [3 / 256 % 256, 3 % 256]) ++ pubL (padTo 32 sk)), padTo 32 ps, padTo 32 ff, pubL (padTo 32 ff), padTo 32 sk, [], false, false, 1⟩ ww vv] [60, 61, 62, 63, 64, 65, 66, 67, 68, 69, 59, 70, 71, 9] hs_1 hd_1 (by kernel_rfl) (by kernel_rfl) (by kernel_rfl) (by kernel_rfl) (by kernel_rfl) ⟨stLit, stLit, stOwn, stLit, stLit, stOwn, stLit, stLit, stOwn, stTupH, stTupH, stPtrH, stLit, stPtrH, trivial⟩ ⟨(step_ok rfl (fun a' w' hb' hO hD => by
   have d_15 := (hO 2 (by decide)).trans ((pm rfl).trans ta_1_2)
   exact .inl ⟨_, _, (o_field (k' := 1) rfl d_15 (fun _ => by kernel_rfl)), rfl, Below.refl _ _⟩)),
(step_ok rfl (fun a' w' hb' hO hD => by
   have d_16 : a'.eval (.tmp 60) = .pointer (some ⟨g_1, 1, none⟩) := hD 0 60 (by kernel_rfl) rfl
   exact .inl ⟨_, _, (o_load1 rfl d_16 (hB_1.nx hb') rfl ⟨by kernel_rfl, by kernel_rfl⟩), rfl, Below.refl _ _⟩)),
(step_ok rfl (fun a' w' hb' hO hD => by
   have d_17 : a'.eval (.tmp 61) = .slice A1 (n1) (c1) := hD 1 61 (by kernel_rfl) rfl
   exact .inr ⟨_, #[.slice A1 (n1) (c1)], (exec_call Try.func12 (by kernel_rfl) (by kernel_rfl) _ rfl _ _ (args1 d_17)), Calls.mono (Key_any _ (h1.below (below_from HB_3 hb')) (by simp only [l1])) (fun e w'' hR => by obtain ⟨A_9, c_9, rfl, ho_5, hb_7⟩ := hR; exact ⟨_, rfl, ⟨_, _, rfl, ho_5.mono hb'.size⟩, hb_7⟩)⟩)),
(step_ok rfl (fun a' w' hb' hO hD => by
   have d_18 := (hO 2 (by decide)).trans ((pm rfl).trans ta_1_2)
   exact .inl ⟨_, _, (o_field (k' := 3) rfl d_18 (fun _ => by kernel_rfl)), rfl, Below.refl _ _⟩)),
(step_ok rfl (fun a' w' hb' hO hD => by
   have d_19 : a'.eval (.tmp 63) = .pointer (some ⟨g_1, 3, none⟩) := hD 3 63 (by kernel_rfl) rfl
   exact .inl ⟨_, _, (o_load1 rfl d_19 (hB_1.nx hb') rfl ⟨by kernel_rfl, by kernel_rfl⟩), rfl, Below.refl _ _⟩)),
(step_ok rfl (fun a' w' hb' hO hD => by
   have d_20 : a'.eval (.tmp 64) = .slice A3 (n3) (c3) := hD 4 64 (by kernel_rfl) rfl
   exact .inr ⟨_, #[.slice A3 (n3) (c3)], (exec_call Try.func12 (by kernel_rfl) (by kernel_rfl) _ rfl _ _ (args1 d_20)), Calls.mono (Key_any _ (h3.below (below_from HB_3 hb')) (by simp only [l3])) (fun e w'' hR => by obtain ⟨A_10, c_10, rfl, ho_6, hb_8⟩ := hR; exact ⟨_, rfl, ⟨_, _, rfl, ho_6.mono hb'.size⟩, hb_8⟩)⟩)),
(step_ok rfl (fun a' w' hb' hO hD => by
   have d_21 := (hO 2 (by decide)).trans ((pm rfl).trans ta_1_2)
   exact .inl ⟨_, _, (o_field (k' := 5) rfl d_21 (fun _ => by kernel_rfl)), rfl, Below.refl _ _⟩)),
(step_ok rfl (fun a' w' hb' hO hD => by
   have d_22 : a'.eval (.tmp 66) = .pointer (some ⟨g_1, 5, none⟩) := hD 6 66 (by kernel_rfl) rfl
   exact .inl ⟨_, _, (o_load1 rfl d_22 (hB_1.nx hb') rfl ⟨by kernel_rfl, by kernel_rfl⟩), rfl, Below.refl _ _⟩)),
(step_ok rfl (fun a' w' hb' hO hD => by
   have d_23 : a'.eval (.tmp 67) = .slice A5 (n5) (c5) := hD 7 67 (by kernel_rfl) rfl
   exact .inr ⟨_, #[.slice A5 (n5) (c5)], (exec_call Try.func12 (by kernel_rfl) (by kernel_rfl) _ rfl _ _ (args1 d_23)), Calls.mono (Key_any _ (h5.below (below_from HB_3 hb')) (by simp only [l5])) (fun e w'' hR => by obtain ⟨A_11, c_11, rfl, ho_7, hb_9⟩ := hR; exact ⟨_, rfl, ⟨_, _, rfl, ho_7.mono hb'.size⟩, hb_9⟩)⟩)),
(step_ok rfl (fun a' w' hb' hO hD => by
   have d_24 := hD 2 62 (by kernel_rfl) rfl
   obtain ⟨A_12, c_12, hv_13, hO_6⟩ := d_24
   have d_25 := hD 5 65 (by kernel_rfl) rfl
   obtain ⟨A_13, c_13, hv_14, hO_7⟩ := d_25
   have d_26 := hD 8 68 (by kernel_rfl) rfl
   obtain ⟨A_14, c_14, hv_15, hO_8⟩ := d_26
   exact .inr ⟨_, #[.int .i64 ((3 : Nat) : Int), .slice A_12 (32) (c_12), .slice A_13 (32) (c_13), .slice A_14 (32) (c_14)], (exec_call Try.func19 (by kernel_rfl) (by kernel_rfl) _ rfl _ _ (args4 rfl hv_13 hv_14 hv_15)), Calls.mono (Answer_any 3 _ (hO_6).bs (by simp only [padTo_length]) (hO_7).bs (by simp only [padTo_length]) (hO_8).bs (by simp only [padTo_length]) (by omega)) (fun e w'' hR => by obtain ⟨M9, g9, rfl, hH9, hge9, hb9⟩ := hR; exact ⟨_, rfl, ⟨M9, g9, rfl, hH9, hge9.down hb'.size⟩, hb9⟩)⟩)),
(step_ok rfl (fun a' w' hb' hO hD => by
   have d_27 := hD 9 69 (by kernel_rfl) rfl
   obtain ⟨M_9, g_10, hv_16, hH_9, hge_9⟩ := d_27
   exact .inl ⟨_, _, (o_move rfl hv_16), ⟨_, _, rfl, hH_9, hge_9⟩, Below.refl _ _⟩)),
(step_ok rfl (fun a' w' hb' hO hD => by
   have d_28 := hD 10 59 (by kernel_rfl) rfl
   obtain ⟨M_10, g_11, hv_17, hH_10, hge_10⟩ := d_28
   exact .inl ⟨_, _, (o_extract rfl hv_17 rfl), ⟨_, _, rfl, hH_10, hge_10⟩, Below.refl _ _⟩)),
(step_ok rfl (fun a' w' hb' hO hD => by
   have d_29 := hD 10 59 (by kernel_rfl) rfl
   obtain ⟨M_11, g_12, hv_18, hH_11, hge_11⟩ := d_29
   exact .inl ⟨_, _, (o_extract rfl hv_18 rfl), rfl, Below.refl _ _⟩)),
(step_ok rfl (fun a' w' hb' hO hD => by
   have d_30 := hD 11 70 (by kernel_rfl) rfl
   obtain ⟨M_12, g_13, hv_19, hH_12, hge_12⟩ := d_30
   exact .inl ⟨_, _, (o_assign rfl hv_19), ⟨_, _, rfl, hH_12, hge_12⟩, Below.refl _ _⟩)), trivial⟩ (fun a_2 w_5 hs_2 hd_2 hb_10 hO_9 hV_2 => ?_)
 have ta_2_1 := (hO_9 1 (by decide)).trans ((pm rfl).trans ta_1_1)
 have ta_2_6 := (hO_9 6 (by decide)).trans ((pm rfl).trans ta_1_6)
 have ta_2_7 := (hO_9 7 (by decide)).trans ((pm rfl).trans hv_12)
 have ta_2_8 : a_2.eval (.tmp 8) = .int .i64 ((0 : Nat) : Int) := (hO_9 8 (by decide)).trans (pe hs_1 rfl rfl)
 clear ta_1_0 ta_1_1 ta_1_2 ta_1_4 ta_1_36 ta_1_37 ta_1_38 ta_1_39 ta_1_40 ta_1_42 ta_1_43 ta_1_44 ta_1_45 ta_1_41 ta_1_46 ta_1_47 ta_1_5 ta_1_6 ta_1_49 ta_1_50 hv_7 ta_1_52 ta_1_53 ta_1_54 hv_8 hv_9 hv_10 hv_11 ta_1_58 hv_12 hd_1
 replace hH_5 := hH_5.nx hb_10
 replace hH_6 := hH_6.nx hb_10
 replace hH_7 := hH_7.nx hb_10
 replace hH_8 := hH_8.nx hb_10
 have HB_4 := below_from HB_3 hb_10
 have x_7 := hV_2 2 62 rfl rfl
 obtain ⟨A_15, c_15, hv_20, hO_10⟩ := x_7
 replace hO_10 := hO_10.mono HB_3.size
 have x_8 := hV_2 5 65 rfl rfl
 obtain ⟨A_16, c_16, hv_21, hO_11⟩ := x_8
 replace hO_11 := hO_11.mono HB_3.size
 have x_9 := hV_2 8 68 rfl rfl
 obtain ⟨A_17, c_17, hv_22, hO_12⟩ := x_9
 replace hO_12 := hO_12.mono HB_3.size
 have x_10 := hV_2 9 69 rfl rfl
 obtain ⟨M_13, g_14, hv_23, hH_13, hge_13⟩ := x_10
 have x_11 := hV_2 10 59 rfl rfl
 obtain ⟨M_14, g_15, hv_24, hH_14, hge_14⟩ := x_11
 have x_12 := hV_2 11 70 rfl rfl
 obtain ⟨M_15, g_16, hv_25, hH_15, hge_15⟩ := x_12
 have ta_2_71 : a_2.eval (.tmp 71) = .int .i64 ((0 : Nat) : Int) := hV_2 12 71 rfl rfl
 have x_13 := hV_2 13 9 rfl rfl
 obtain ⟨M_16, g_17, hv_26, hH_16, hge_16⟩ := x_13
 clear hV_2 hO_9
 simp only [List.drop_succ_cons, List.drop_zero]
 refine q_at (v := .int .i64 ((0 : Nat) : Int)) ((pm rfl).trans ta_2_71) ?_
 refine x_nil ?_
 have sp_8 : Sep M_8 M_16 := Sep.new lt_8 hge_16
 have gg_2 := hge_16.down HB_3.size
 refine hK_6 _ _ ?_
 refine w2_seq (fun K_7 hK_7 => ?_)
 refine w2_sr (fun K_8 hK_8 => ?_)
 refine q_mv (v := .int .i64 ((0 : Nat) : Int)) ((pm rfl).trans ta_2_6) ?_
 refine q_v 73 (.bool (false)) (o_eq (o_neq (m := 0) (n := 0) rfl (pe hs_2 rfl rfl) rfl) rfl) ?_
 refine q_mv (pe hs_2 rfl rfl) ?_
 refine op_valG (e := 74) (d := 75) (v := .int .i64 ((0 : Nat) : Int)) rfl rfl (by kernel_rfl) (pe hs_2 rfl rfl) (o_move rfl ((pm rfl).trans ta_2_8)) ?_
 refine op_valG (e := 74) (d := 76) (v := .bool (false)) rfl rfl (by kernel_rfl) (pe hs_2 rfl rfl) (o_eq (o_neq (m := 0) (n := 0) rfl (pe hs_2 rfl rfl) rfl) rfl) ?_
 refine q_v 77 (.bool (false)) (o_pickF rfl (pe hs_2 rfl rfl) (pe hs_2 rfl rfl)) ?_
 refine q_mv (pe hs_2 rfl rfl) ?_
 refine op_valG (e := 78) (d := 79) (v := .int .i64 ((0 : Nat) : Int)) rfl rfl (by kernel_rfl) (pe hs_2 rfl rfl) (o_move rfl (pe hs_2 rfl rfl)) ?_
 refine op_valG (e := 78) (d := 80) (v := .bool (false)) rfl rfl (by kernel_rfl) (pe hs_2 rfl rfl) (o_eq (o_neq (m := 0) (n := 0) rfl (pe hs_2 rfl rfl) rfl) rfl) ?_
 refine q_v 81 (.bool (false)) (o_pickF rfl (pe hs_2 rfl rfl) (pe hs_2 rfl rfl)) ?_
 refine q_mv (pe hs_2 rfl rfl) ?_
 refine op_valG (e := 82) (d := 83) (v := .pointer (some ⟨g_9, 0, none⟩)) rfl rfl (by kernel_rfl) (pe hs_2 rfl rfl) (o_move rfl ((pm rfl).trans ta_2_7)) ?_
 refine op_valG (e := 82) (d := 84) (v := .bool (false)) rfl rfl (by kernel_rfl) (pe hs_2 rfl rfl) (o_nil (b := false) rfl (pe hs_2 rfl rfl) rfl rfl ⟨57, fun _ => by kernel_rfl⟩) ?_
 refine q_v 85 (.bool (false)) (o_pickF rfl (pe hs_2 rfl rfl) (pe hs_2 rfl rfl)) ?_
 refine q_mv (pe hs_2 rfl rfl) ?_
 refine op_valG (e := 86) (d := 87) (v := .pointer (some ⟨g_17, 0, none⟩)) rfl rfl (by kernel_rfl) (pe hs_2 rfl rfl) (o_move rfl ((pm rfl).trans hv_26)) ?_
 refine op_valG (e := 86) (d := 88) (v := .bool (false)) rfl rfl (by kernel_rfl) (pe hs_2 rfl rfl) (o_nil (b := false) rfl (pe hs_2 rfl rfl) rfl rfl ⟨57, fun _ => by kernel_rfl⟩) ?_
 refine q_v 89 (.bool (false)) (o_pickF rfl (pe hs_2 rfl rfl) (pe hs_2 rfl rfl)) ?_
 refine x_nil (hK_8 _ _ ?_)
 refine w2_condF (pe hs_2 rfl rfl) ?_
 refine w2_skip ?_
 refine hK_7 _ _ ?_
 refine w2_sr (fun K_9 hK_9 => ?_)
 refine q_mv ((pm rfl).trans ta_2_7) ?_
 refine q_mv ((pm rfl).trans ta_2_1) ?_
 refine q_ca (vs := #[.pointer (some ⟨g_9, 0, none⟩), .slice ((subA A6 0 c6)) (47) (c6)]) Try.func20 (args2 (pe hs_2 rfl rfl) (pe hs_2 rfl rfl)) (Read_state _ hH_8 (by dsimp only; omega) (by dsimp only; omega)) (fun e_3 w_6 hR_4 => ?_)
 obtain ⟨rfl, rfl⟩ := hR_4
 refine ⟨_, rfl, ?_⟩
 refine q_mv (pe hs_2 rfl rfl) ?_
 refine q_ex (v := .slice none (0) (0)) (pe hs_2 rfl rfl) rfl ?_
 refine q_ex (v := .int .i64 ((9 : Nat) : Int)) (pe hs_2 rfl rfl) rfl ?_
 refine q_at (pe hs_2 rfl rfl) ?_
 refine q_at (v := .int .i64 ((9 : Nat) : Int)) (pe hs_2 rfl rfl) ?_
 refine x_nil (hK_9 _ _ ?_)
 refine w2_sr (fun K_10 hK_10 => ?_)
 refine q_mv ((pm rfl).trans hv_26) ?_
 refine q_ca (vs := #[.pointer (some ⟨g_17, 0, none⟩), .slice none (0) (0)]) Try.func21 (args2 (pe hs_2 rfl rfl) rfl) (Write_state _ hH_16 (by dsimp only; omega) (by dsimp only; omega)) (fun e_4 w_7 hR_5 => ?_)
 obtain ⟨rfl, rfl⟩ := hR_5
 refine ⟨_, rfl, ?_⟩
 refine q_mv (pe hs_2 rfl rfl) ?_
 refine q_ex (v := .slice none (0) (0)) (pe hs_2 rfl rfl) rfl ?_
 refine q_ex (v := .int .i64 ((9 : Nat) : Int)) (pe hs_2 rfl rfl) rfl ?_
 refine q_at (pe hs_2 rfl rfl) ?_
 refine q_at (v := .int .i64 ((9 : Nat) : Int)) (pe hs_2 rfl rfl) ?_
 refine x_nil (hK_10 _ _ ?_)
 refine w2_sr (fun K_11 hK_11 => ?_)
 refine q_mv ((pm rfl).trans hv_26) ?_
 refine q_mv ((pm rfl).trans ta_2_1) ?_
 refine q_ca (vs := #[.pointer (some ⟨g_17, 0, none⟩), .slice ((subA A6 0 c6)) (47) (c6)]) Try.func20 (args2 (pe hs_2 rfl rfl) (pe hs_2 rfl rfl)) (Read_short _ hH_16 rfl (hS6.below HB_4) hl6 (by omega)) (fun e_5 w_8 hR_6 => ?_)
 obtain ⟨rfl, rfl⟩ := hR_6
 refine ⟨_, rfl, ?_⟩
 refine q_mv (pe hs_2 rfl rfl) ?_
 refine q_ex (v := .slice none (0) (0)) (pe hs_2 rfl rfl) rfl ?_
 refine q_ex (v := .int .i64 ((2 : Nat) : Int)) (pe hs_2 rfl rfl) rfl ?_
 refine q_at (pe hs_2 rfl rfl) ?_
 refine q_at (v := .int .i64 ((2 : Nat) : Int)) (pe hs_2 rfl rfl) ?_
 refine x_nil (hK_11 _ _ ?_)
 refine w2_sr (fun K_12 hK_12 => ?_)
 refine q_mv ((pm rfl).trans ta_2_7) ?_
 refine q_ca (vs := #[.pointer (some ⟨g_9, 0, none⟩)]) Try.func22 (args1 (pe hs_2 rfl rfl)) (Split_state _ hH_8 (by dsimp only; omega) (by dsimp only; omega)) (fun e_6 w_9 hR_7 => ?_)
 obtain ⟨rfl, rfl⟩ := hR_7
 refine ⟨_, rfl, ?_⟩
 refine q_mv (pe hs_2 rfl rfl) ?_
 refine q_ex (v := .pointer none) (pe hs_2 rfl rfl) rfl ?_
 refine q_ex (v := .pointer none) (pe hs_2 rfl rfl) rfl ?_
 refine q_ex (v := .int .i64 ((9 : Nat) : Int)) (pe hs_2 rfl rfl) rfl ?_
 refine q_at (pe hs_2 rfl rfl) ?_
 refine q_at (pe hs_2 rfl rfl) ?_
 refine q_at (v := .int .i64 ((9 : Nat) : Int)) (pe hs_2 rfl rfl) ?_
 refine x_nil (hK_12 _ _ ?_)
 refine w2_sr (fun K_13 hK_13 => ?_)
 refine q_mv ((pm rfl).trans ta_2_7) ?_
 refine q_ca (vs := #[.pointer (some ⟨g_9, 0, none⟩), .slice none (0) (0)]) Try.func21 (args2 (pe hs_2 rfl rfl) rfl) (Write_first _ hH_8 (Bs.nil _) (by simp only [List.length_nil]) (by omega) (key_good h3.b8) (pubL_num _)) (fun e_7 w_10 hR_8 => ?_)
 obtain ⟨A_18, c_18, rfl, ho_8, ⟨M_17, hH_17, hN_1, hs_3⟩, hX_1⟩ := hR_8
 obtain ⟨S1, hS1⟩ : ∃ q : Sy, q = (firstS (shaL nameS) (shaL (shaL (shaL nameS ++ [3 / 256 % 256, 3 % 256]) ++ (pubL (padTo 32 sk)))) (padTo 32 ps) (pubL (padTo 32 ee)) (dhL (padTo 32 ee) ((secN (padTo 32 sk))))) := ⟨_, rfl⟩
 rw [← hS1] at ho_8 hH_17
 have hl_1 : (pubL (padTo 32 ee) ++ outS S1 ([])).length = 32 + (0 + 16) := by rw [List.length_append, outS_length, pubL_length]; have h9 : ([] : List Nat).length = 0 := (by simp only [List.length_nil]); omega
 have sp_13 : Sep M_16 M_17 := hN_1.sep (sp_8.symm) hH_16.lt
 replace hH_16 := hH_16.keepM hX_1 (sp_8.symm)
 have gg_3 := hN_1.ge gg_1 HB_4.size
 replace ho_8 := ho_8.mono HB_4.size
 have HB_5 := hX_1.below HB_4 HB_4.size gg_1
 refine ⟨_, rfl, ?_⟩
 refine q_mv (pe hs_2 rfl rfl) ?_
 refine q_ex (v := .slice A_18 (32 + (0 + 16)) (c_18)) (pe hs_2 rfl rfl) rfl ?_
 refine q_ex (v := .int .i64 ((0 : Nat) : Int)) (pe hs_2 rfl rfl) rfl ?_
 refine q_at (pe hs_2 rfl rfl) ?_
 refine q_at (v := .int .i64 ((0 : Nat) : Int)) (pe hs_2 rfl rfl) ?_
 refine x_nil (hK_13 _ _ ?_)
 refine w2_sr (fun K_14 hK_14 => ?_)
 refine q_mv ((pm rfl).trans ta_2_7) ?_
 refine q_ca (vs := #[.pointer (some ⟨g_9, 0, none⟩), .slice none (0) (0)]) Try.func21 (args2 (pe hs_2 rfl rfl) rfl) (Write_state _ hH_17 (by dsimp only; omega) (by dsimp only; omega)) (fun e_8 w_11 hR_9 => ?_)
 obtain ⟨rfl, rfl⟩ := hR_9
 refine ⟨_, rfl, ?_⟩
 refine q_mv (pe hs_2 rfl rfl) ?_
 refine q_ex (v := .slice none (0) (0)) (pe hs_2 rfl rfl) rfl ?_
 refine q_ex (v := .int .i64 ((9 : Nat) : Int)) (pe hs_2 rfl rfl) rfl ?_
 refine q_at (pe hs_2 rfl rfl) ?_
 refine q_at (v := .int .i64 ((9 : Nat) : Int)) (pe hs_2 rfl rfl) ?_
 refine x_nil (hK_14 _ _ ?_)
 refine w2_sr (fun K_15 hK_15 => ?_)
 refine q_mv ((pm rfl).trans hv_26) ?_
 refine q_mv (pe hs_2 rfl rfl) ?_
 refine q_ca (vs := #[.pointer (some ⟨g_17, 0, none⟩), .slice A_18 (32 + (0 + 16)) (c_18)]) Try.func20 (args2 (pe hs_2 rfl rfl) (pe hs_2 rfl rfl)) (Read_first _ hH_16 (ho_8).bs hl_1 (by omega) (by omega) (pubL_length _) (key_good h4.b8) (pubL_num _) (by rw [dhL_comm (padTo 32 sk) (padTo 32 ee), ← hS1]; exact openL_outS S1 _)) (fun e_9 w_12 hR_10 => ?_)
 obtain ⟨A_19, c_19, rfl, ho_9, ⟨M_18, hH_18, hN_2, hs_4⟩, hX_2⟩ := hR_10
 rw [dhL_comm (padTo 32 sk) (padTo 32 ee), ← hS1] at hH_18
 have sp_19 : Sep M_17 M_18 := hN_2.sep (sp_13.symm) hH_17.lt
 replace hH_17 := hH_17.keepM hX_2 (sp_13.symm)
 have gg_4 := hN_2.ge gg_2 HB_5.size
 have HB_6 := hX_2.below HB_5 HB_5.size gg_2
 refine ⟨_, rfl, ?_⟩
 refine q_mv (pe hs_2 rfl rfl) ?_
 refine q_ex (v := .slice A_19 ((([] : List Nat)).length) (c_19)) (pe hs_2 rfl rfl) rfl ?_
 refine q_ex (v := .int .i64 ((0 : Nat) : Int)) (pe hs_2 rfl rfl) rfl ?_
 refine q_at (pe hs_2 rfl rfl) ?_
 refine q_at (v := .int .i64 ((0 : Nat) : Int)) (pe hs_2 rfl rfl) ?_
 refine x_nil (hK_15 _ _ ?_)
 refine w2_sr (fun K_16 hK_16 => ?_)
 refine q_mv ((pm rfl).trans hv_26) ?_
 refine q_mv (pe hs_2 rfl rfl) ?_
 refine q_ca (vs := #[.pointer (some ⟨g_17, 0, none⟩), .slice A_18 (32 + (0 + 16)) (c_18)]) Try.func20 (args2 (pe hs_2 rfl rfl) (pe hs_2 rfl rfl)) (Read_state _ hH_18 (by dsimp only; omega) (by dsimp only; omega)) (fun e_10 w_13 hR_11 => ?_)
 obtain ⟨rfl, rfl⟩ := hR_11
 refine ⟨_, rfl, ?_⟩
 refine q_mv (pe hs_2 rfl rfl) ?_
 refine q_ex (v := .slice none (0) (0)) (pe hs_2 rfl rfl) rfl ?_
 refine q_ex (v := .int .i64 ((9 : Nat) : Int)) (pe hs_2 rfl rfl) rfl ?_
 refine q_at (pe hs_2 rfl rfl) ?_
 refine q_at (v := .int .i64 ((9 : Nat) : Int)) (pe hs_2 rfl rfl) ?_
 refine x_nil (hK_16 _ _ ?_)
 refine w2_sr (fun K_17 hK_17 => ?_)
 refine q_mv ((pm rfl).trans hv_26) ?_
 refine q_ca (vs := #[.pointer (some ⟨g_17, 0, none⟩), .slice none (0) (0)]) Try.func21 (args2 (pe hs_2 rfl rfl) rfl) (Write_second _ hH_18 (Bs.nil _) (by simp only [List.length_nil]) (by omega) (key_good h4.b8) (pubL_num _) (by first | rfl | exact pubL_length _)) (fun e_11 w_14 hR_12 => ?_)
 obtain ⟨A_20, c_20, rfl, ho_10, ⟨M_19, hH_19, hN_3, hs_5⟩, hX_3⟩ := hR_12
 obtain ⟨S2, hS2⟩ : ∃ q : Sy, q = (secondS S1.ck (shaL (S1.h ++ (outS S1 (([] : List Nat))))) (pubL (padTo 32 ff)) (dhL (padTo 32 ff) ((secN (padTo 32 ee))))) := ⟨_, rfl⟩
 rw [← hS2] at ho_10 hH_19
 have hl_2 : (pubL (padTo 32 ff) ++ outS S2 ([])).length = 32 + (0 + 16) := by rw [List.length_append, outS_length, pubL_length]; have h9 : ([] : List Nat).length = 0 := (by simp only [List.length_nil]); omega
 have sp_27 : Sep M_17 M_19 := hN_3.sep (sp_19) hH_17.lt
 replace hH_17 := hH_17.keepM hX_3 (sp_19)
 replace ho_10 := ho_10.mono HB_6.size
 have HB_7 := hX_3.below HB_6 HB_6.size gg_4
 refine ⟨_, rfl, ?_⟩
 refine q_mv (pe hs_2 rfl rfl) ?_
 refine q_ex (v := .slice A_20 (32 + (0 + 16)) (c_20)) (pe hs_2 rfl rfl) rfl ?_
 refine q_ex (v := .int .i64 ((0 : Nat) : Int)) (pe hs_2 rfl rfl) rfl ?_
 refine q_at (pe hs_2 rfl rfl) ?_
 refine q_at (v := .int .i64 ((0 : Nat) : Int)) (pe hs_2 rfl rfl) ?_
 refine x_nil (hK_17 _ _ ?_)
 refine w2_sr (fun K_18 hK_18 => ?_)
 refine q_mv ((pm rfl).trans ta_2_7) ?_
 refine q_mv (pe hs_2 rfl rfl) ?_
 refine q_ca (vs := #[.pointer (some ⟨g_9, 0, none⟩), .slice A_20 (32 + (0 + 16)) (c_20)]) Try.func20 (args2 (pe hs_2 rfl rfl) (pe hs_2 rfl rfl)) (Read_second _ hH_17 (ho_10).bs hl_2 (by omega) (by omega) (pubL_length _) (key_good h5.b8) (pubL_num _) (by rw [dhL_comm (padTo 32 ee) (padTo 32 ff), ← hS2]; exact openL_outS S2 _)) (fun e_12 w_15 hR_13 => ?_)
 obtain ⟨A_21, c_21, rfl, ho_11, ⟨M_20, hH_20, hN_4, hs_6⟩, hX_4⟩ := hR_13
 rw [dhL_comm (padTo 32 ee) (padTo 32 ff), ← hS2] at hH_20
 replace hH_19 := hH_19.keepM hX_4 (sp_27.symm)
 have HB_8 := hX_4.below HB_7 HB_7.size gg_3
 refine ⟨_, rfl, ?_⟩
 refine q_mv (pe hs_2 rfl rfl) ?_
 refine q_ex (v := .slice A_21 ((([] : List Nat)).length) (c_21)) (pe hs_2 rfl rfl) rfl ?_
 refine q_ex (v := .int .i64 ((0 : Nat) : Int)) (pe hs_2 rfl rfl) rfl ?_
 refine q_at (pe hs_2 rfl rfl) ?_
 refine q_at (v := .int .i64 ((0 : Nat) : Int)) (pe hs_2 rfl rfl) ?_
 refine x_nil (hK_18 _ _ ?_)
 refine w2_sr (fun K_19 hK_19 => ?_)
 refine q_mv ((pm rfl).trans ta_2_7) ?_
 refine q_ca (vs := #[.pointer (some ⟨g_9, 0, none⟩), .slice none (0) (0)]) Try.func21 (args2 (pe hs_2 rfl rfl) rfl) (Write_state _ hH_20 (by dsimp only; omega) (by dsimp only; omega)) (fun e_13 w_16 hR_14 => ?_)
 obtain ⟨rfl, rfl⟩ := hR_14
 refine ⟨_, rfl, ?_⟩
 refine q_mv (pe hs_2 rfl rfl) ?_
 refine q_ex (v := .slice none (0) (0)) (pe hs_2 rfl rfl) rfl ?_
 refine q_ex (v := .int .i64 ((9 : Nat) : Int)) (pe hs_2 rfl rfl) rfl ?_
 refine q_at (pe hs_2 rfl rfl) ?_
 refine q_at (v := .int .i64 ((9 : Nat) : Int)) (pe hs_2 rfl rfl) ?_
 refine x_nil (hK_19 _ _ ?_)
 refine w2_sr (fun K_20 hK_20 => ?_)
 refine q_mv ((pm rfl).trans hv_26) ?_
 refine q_mv (pe hs_2 rfl rfl) ?_
 refine q_ca (vs := #[.pointer (some ⟨g_17, 0, none⟩), .slice A_18 (32 + (0 + 16)) (c_18)]) Try.func20 (args2 (pe hs_2 rfl rfl) (pe hs_2 rfl rfl)) (Read_state _ hH_19 (by dsimp only; omega) (by dsimp only; omega)) (fun e_14 w_17 hR_15 => ?_)
 obtain ⟨rfl, rfl⟩ := hR_15
 refine ⟨_, rfl, ?_⟩
 refine q_mv (pe hs_2 rfl rfl) ?_
 refine q_ex (v := .slice none (0) (0)) (pe hs_2 rfl rfl) rfl ?_
 refine q_ex (v := .int .i64 ((9 : Nat) : Int)) (pe hs_2 rfl rfl) rfl ?_
 refine q_at (pe hs_2 rfl rfl) ?_
 refine q_at (v := .int .i64 ((9 : Nat) : Int)) (pe hs_2 rfl rfl) ?_
 refine x_nil (hK_20 _ _ ?_)
 refine w2_sr (fun K_21 hK_21 => ?_)
 refine q_mv (v := .int .i64 ((9 : Nat) : Int)) (pe hs_2 rfl rfl) ?_
 refine q_v 158 (.bool (true)) (o_eq (o_eql (m := 9) (n := 9) rfl (pe hs_2 rfl rfl) rfl) rfl) ?_
 refine q_mv (pe hs_2 rfl rfl) ?_
 refine op_valG (e := 159) (d := 160) (v := .int .i64 ((9 : Nat) : Int)) rfl rfl (by kernel_rfl) (pe hs_2 rfl rfl) (o_move rfl (pe hs_2 rfl rfl)) ?_
 refine op_valG (e := 159) (d := 161) (v := .bool (true)) rfl rfl (by kernel_rfl) (pe hs_2 rfl rfl) (o_eq (o_eql (m := 9) (n := 9) rfl (pe hs_2 rfl rfl) rfl) rfl) ?_
 refine q_v 162 (.bool (true)) (o_pickT rfl (pe hs_2 rfl rfl) (pe hs_2 rfl rfl)) ?_
 refine q_mv (pe hs_2 rfl rfl) ?_
 refine op_valG (e := 163) (d := 164) (v := .int .i64 ((2 : Nat) : Int)) rfl rfl (by kernel_rfl) (pe hs_2 rfl rfl) (o_move rfl (pe hs_2 rfl rfl)) ?_
 refine op_valG (e := 163) (d := 165) (v := .bool (true)) rfl rfl (by kernel_rfl) (pe hs_2 rfl rfl) (o_eq (o_eql (m := 2) (n := 2) rfl (pe hs_2 rfl rfl) rfl) rfl) ?_
 refine q_v 166 (.bool (true)) (o_pickT rfl (pe hs_2 rfl rfl) (pe hs_2 rfl rfl)) ?_
 refine q_mv (pe hs_2 rfl rfl) ?_
 refine op_valG (e := 167) (d := 168) (v := .int .i64 ((9 : Nat) : Int)) rfl rfl (by kernel_rfl) (pe hs_2 rfl rfl) (o_move rfl (pe hs_2 rfl rfl)) ?_
 refine op_valG (e := 167) (d := 169) (v := .bool (true)) rfl rfl (by kernel_rfl) (pe hs_2 rfl rfl) (o_eq (o_eql (m := 9) (n := 9) rfl (pe hs_2 rfl rfl) rfl) rfl) ?_
 refine q_v 170 (.bool (true)) (o_pickT rfl (pe hs_2 rfl rfl) (pe hs_2 rfl rfl)) ?_
 refine q_mv (pe hs_2 rfl rfl) ?_
 refine op_valG (e := 171) (d := 172) (v := .int .i64 ((0 : Nat) : Int)) rfl rfl (by kernel_rfl) (pe hs_2 rfl rfl) (o_move rfl (pe hs_2 rfl rfl)) ?_
 refine op_valG (e := 171) (d := 173) (v := .bool (true)) rfl rfl (by kernel_rfl) (pe hs_2 rfl rfl) (o_eq (o_eql (m := 0) (n := 0) rfl (pe hs_2 rfl rfl) rfl) rfl) ?_
 refine q_v 174 (.bool (true)) (o_pickT rfl (pe hs_2 rfl rfl) (pe hs_2 rfl rfl)) ?_
 refine q_mv (pe hs_2 rfl rfl) ?_
 refine op_valG (e := 175) (d := 176) (v := .int .i64 ((9 : Nat) : Int)) rfl rfl (by kernel_rfl) (pe hs_2 rfl rfl) (o_move rfl (pe hs_2 rfl rfl)) ?_
 refine op_valG (e := 175) (d := 177) (v := .bool (true)) rfl rfl (by kernel_rfl) (pe hs_2 rfl rfl) (o_eq (o_eql (m := 9) (n := 9) rfl (pe hs_2 rfl rfl) rfl) rfl) ?_
 refine q_v 178 (.bool (true)) (o_pickT rfl (pe hs_2 rfl rfl) (pe hs_2 rfl rfl)) ?_
 refine q_mv (pe hs_2 rfl rfl) ?_
 refine op_valG (e := 179) (d := 180) (v := .int .i64 ((0 : Nat) : Int)) rfl rfl (by kernel_rfl) (pe hs_2 rfl rfl) (o_move rfl (pe hs_2 rfl rfl)) ?_
 refine op_valG (e := 179) (d := 181) (v := .bool (true)) rfl rfl (by kernel_rfl) (pe hs_2 rfl rfl) (o_eq (o_eql (m := 0) (n := 0) rfl (pe hs_2 rfl rfl) rfl) rfl) ?_
 refine q_v 182 (.bool (true)) (o_pickT rfl (pe hs_2 rfl rfl) (pe hs_2 rfl rfl)) ?_
 refine q_mv (pe hs_2 rfl rfl) ?_
 refine op_valG (e := 183) (d := 184) (v := .int .i64 ((9 : Nat) : Int)) rfl rfl (by kernel_rfl) (pe hs_2 rfl rfl) (o_move rfl (pe hs_2 rfl rfl)) ?_
 refine op_valG (e := 183) (d := 185) (v := .bool (true)) rfl rfl (by kernel_rfl) (pe hs_2 rfl rfl) (o_eq (o_eql (m := 9) (n := 9) rfl (pe hs_2 rfl rfl) rfl) rfl) ?_
 refine q_v 186 (.bool (true)) (o_pickT rfl (pe hs_2 rfl rfl) (pe hs_2 rfl rfl)) ?_
 refine q_mv (pe hs_2 rfl rfl) ?_
 refine op_valG (e := 187) (d := 188) (v := .int .i64 ((0 : Nat) : Int)) rfl rfl (by kernel_rfl) (pe hs_2 rfl rfl) (o_move rfl (pe hs_2 rfl rfl)) ?_
 refine op_valG (e := 187) (d := 189) (v := .bool (true)) rfl rfl (by kernel_rfl) (pe hs_2 rfl rfl) (o_eq (o_eql (m := 0) (n := 0) rfl (pe hs_2 rfl rfl) rfl) rfl) ?_
 refine q_v 190 (.bool (true)) (o_pickT rfl (pe hs_2 rfl rfl) (pe hs_2 rfl rfl)) ?_
 refine q_mv (pe hs_2 rfl rfl) ?_
 refine op_valG (e := 191) (d := 192) (v := .int .i64 ((0 : Nat) : Int)) rfl rfl (by kernel_rfl) (pe hs_2 rfl rfl) (o_move rfl (pe hs_2 rfl rfl)) ?_
 refine op_valG (e := 191) (d := 193) (v := .bool (true)) rfl rfl (by kernel_rfl) (pe hs_2 rfl rfl) (o_eq (o_eql (m := 0) (n := 0) rfl (pe hs_2 rfl rfl) rfl) rfl) ?_
 refine q_v 194 (.bool (true)) (o_pickT rfl (pe hs_2 rfl rfl) (pe hs_2 rfl rfl)) ?_
 refine q_mv (pe hs_2 rfl rfl) ?_
 refine op_valG (e := 195) (d := 196) (v := .int .i64 ((9 : Nat) : Int)) rfl rfl (by kernel_rfl) (pe hs_2 rfl rfl) (o_move rfl (pe hs_2 rfl rfl)) ?_
 refine op_valG (e := 195) (d := 197) (v := .bool (true)) rfl rfl (by kernel_rfl) (pe hs_2 rfl rfl) (o_eq (o_eql (m := 9) (n := 9) rfl (pe hs_2 rfl rfl) rfl) rfl) ?_
 refine q_v 198 (.bool (true)) (o_pickT rfl (pe hs_2 rfl rfl) (pe hs_2 rfl rfl)) ?_
 refine q_mv (pe hs_2 rfl rfl) ?_
 refine op_valG (e := 199) (d := 200) (v := .int .i64 ((9 : Nat) : Int)) rfl rfl (by kernel_rfl) (pe hs_2 rfl rfl) (o_move rfl (pe hs_2 rfl rfl)) ?_
 refine op_valG (e := 199) (d := 201) (v := .bool (true)) rfl rfl (by kernel_rfl) (pe hs_2 rfl rfl) (o_eq (o_eql (m := 9) (n := 9) rfl (pe hs_2 rfl rfl) rfl) rfl) ?_
 refine q_v 202 (.bool (true)) (o_pickT rfl (pe hs_2 rfl rfl) (pe hs_2 rfl rfl)) ?_
 refine q_mv (pe hs_2 rfl rfl) ?_
 refine op_callG (e := 203) (vs := #[]) rfl rfl (by kernel_rfl) (pe hs_2 rfl rfl) (exec_call Try.func10 (by kernel_rfl) (by kernel_rfl) _ rfl _ _ (args0)) (awake10_any _) (fun e_15 w_18 hR_16 => ?_)
 obtain ⟨rfl, hb_20⟩ := hR_16
 replace hH_19 := hH_19.nx hb_20
 replace hH_20 := hH_20.nx hb_20
 have HB_9 := below_from HB_8 hb_20
 refine ⟨_, rfl, ?_⟩
 refine q_v 205 (.bool (true)) (o_pickT rfl (pe hs_2 rfl rfl) (pe hs_2 rfl rfl)) ?_
 refine q_at (pe hs_2 rfl rfl) ?_
 refine x_nil (hK_21 _ _ ?_)
 refine w2_ret ?_
 refine ret1 rfl hd_2 (pe hs_2 rfl rfl) ?_
 exact ⟨rfl, HB_9⟩
end Go.Proofs.Ytbgonhmaeekkaaa
