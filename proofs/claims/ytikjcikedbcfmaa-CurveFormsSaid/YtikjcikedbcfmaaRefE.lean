/-
 WALKS: the reference's Mult, where it comes to nought.
-/
import Derived.Test.YtikjcikedbcfmaaRefD
namespace Go.Proofs.Ytikjcikedbcfmaa
open Go.RowKit
set_option linter.unusedVariables false
set_option linter.unusedSimpArgs false
set_option maxRecDepth 100000
attribute [local irreducible] wpList wpListIn putsR

set_option maxHeartbeats 4000000 in
theorem MultR_zero {A B : Option Addr} {c d q m : Nat} {ks us : List Nat} (w : World) (h0 : Bs w A c ks) (hk : ks.length = q) (h1 : Bs w B d us) (hm : us.length = m) (hk32 : q = 32) (hm32 : m = 32) (hz : (xmul ks us).val = 0) :
  Calls Try.prog 26 #[.slice A (q) (c), .slice B (m) (d)] w fun e w' => e = .returned (.tuple #[.slice none 0 0, .int .i64 5]) ∧ Below w.heap.size w w' := by
 refine x_enter 143 Try.func26 rfl rfl (fun a hs hd ha0 => ?_)
 have t0 : a.eval (.tmp 0) = .slice A (q) (c) := ha0 0 _ rfl
 have t1 : a.eval (.tmp 1) = .slice B (m) (d) := ha0 1 _ rfl
 clear ha0
 refine w2_sr (fun K_1 hK_1 => ?_)
 refine q_as (.slice none (0) (0)) rfl ?_
 refine q_as (.int .i64 ((0 : Nat) : Int)) rfl ?_
 refine x_nil (hK_1 _ _ ?_)
 refine w2_sr (fun K_2 hK_2 => ?_)
 refine q_mv ((pm rfl).trans t0) ?_
 refine q_ca (vs := #[.slice A (q) (c)]) Try.func24 (args1 (pe hs rfl rfl)) (ClampR_ok _ h0 hk hk32) (fun e_1 w_1 hR_1 => ?_)
 obtain ⟨A_1, c_1, rfl, ho_1, hb_1⟩ := hR_1
 refine ⟨_, rfl, ?_⟩
 refine q_mv (pe hs rfl rfl) ?_
 refine q_ex (v := .slice A_1 (32) (c_1)) (pe hs rfl rfl) rfl ?_
 refine q_ex (v := .int .i64 ((0 : Nat) : Int)) (pe hs rfl rfl) rfl ?_
 refine q_at (pe hs rfl rfl) ?_
 refine q_at (v := .int .i64 ((0 : Nat) : Int)) (pe hs rfl rfl) ?_
 refine x_nil (hK_2 _ _ ?_)
 refine w2_sr (fun K_3 hK_3 => ?_)
 refine q_mv ((pm rfl).trans t1) ?_
 refine q_ca (vs := #[.slice B (m) (d)]) Try.func7 (args1 (pe hs rfl rfl)) (ParseNum_ok _ (h1.below hb_1) hm hm32) (fun e_2 w_2 hR_2 => ?_)
 obtain ⟨rfl, hb_3⟩ := hR_2
 replace ho_1 := ho_1.nx hb_3
 have HB_1 := below_from hb_1 hb_3
 refine ⟨_, rfl, ?_⟩
 refine q_mv (pe hs rfl rfl) ?_
 refine q_ex (v := .agg (iws .u64 (dg (numL us))).toArray) (pe hs rfl rfl) rfl ?_
 refine q_ex (v := .int .i64 ((0 : Nat) : Int)) (pe hs rfl rfl) rfl ?_
 refine op_ex (d := 8) rfl rfl (o_alloc (zs := (iws .u64 (List.replicate 16 0)).toArray) rfl (fun _ => by kernel_rfl)) (fun v_1 w_3 hR_3 => ?_)
 obtain ⟨g_1, rfl, hle_1, hB_1, hb_4⟩ := hR_3
 have ge_1 : w.heap.size ≤ g_1 := Nat.le_trans HB_1.size hle_1
 replace ho_1 := ho_1.nx hb_4
 have HB_2 := below_from HB_1 hb_4
 refine op_do rfl rfl (o_storeI rfl (pe hs rfl rfl) (pe hs rfl rfl) hB_1 (by rw [dg_length]; exact ⟨by kernel_rfl, by kernel_rfl⟩) (by simp [iws, dg_length])) (fun w_4 hR_4 => ?_)
 obtain ⟨hB_2, hX_1⟩ := hR_4
 replace ho_1 := ho_1.keepX hB_1 (by decide) hX_1
 have HB_3 := hX_1.below HB_2 HB_2.size (fun k hk => hk ▸ ge_1)
 clear hB_1
 refine q_at (v := .int .i64 ((0 : Nat) : Int)) (pe hs rfl rfl) ?_
 refine x_nil (hK_3 _ _ ?_)
 refine w2_seq (fun K_4 hK_4 => ?_)
 refine w2_sr (fun K_5 hK_5 => ?_)
 refine q_mv (v := .int .i64 ((0 : Nat) : Int)) (pe hs rfl rfl) ?_
 refine q_v 42 (.bool (false)) (o_eq (o_neq (m := 0) (n := 0) rfl (pe hs rfl rfl) rfl) rfl) ?_
 refine q_mv (pe hs rfl rfl) ?_
 refine op_valG (e := 43) (d := 44) (v := .int .i64 ((0 : Nat) : Int)) rfl rfl (by kernel_rfl) (pe hs rfl rfl) (o_move rfl (pe hs rfl rfl)) ?_
 refine op_valG (e := 43) (d := 45) (v := .bool (false)) rfl rfl (by kernel_rfl) (pe hs rfl rfl) (o_eq (o_neq (m := 0) (n := 0) rfl (pe hs rfl rfl) rfl) rfl) ?_
 refine q_v 46 (.bool (false)) (o_pickF rfl (pe hs rfl rfl) (pe hs rfl rfl)) ?_
 refine x_nil (hK_5 _ _ ?_)
 refine w2_condF (pe hs rfl rfl) ?_
 refine w2_skip ?_
 refine hK_4 _ _ ?_
 refine w2_seq (fun K_6 hK_6 => ?_)
 obtain ⟨cl, hcl⟩ : ∃ q, q = clampL ks := ⟨_, rfl⟩
 obtain ⟨u, hu⟩ : ∃ q, q = numL us := ⟨_, rfl⟩
 rw [← hcl] at ho_1
 have hcll : cl.length = 32 := by rw [hcl]; exact clampL_len hk hk32
 have hc8 := ho_1.b8
 rw [← hu] at hB_2
 refine x_drawnA 10 [fun _ v => v = .agg (iws .u64 (dg (1 : F))).toArray, fun _ v => v = .agg (iws .u64 (dg (0 : F))).toArray, fun _ v => v = .agg (iws .u64 (dg u)).toArray, fun _ v => v = .agg (iws .u64 (dg (1 : F))).toArray, fun _ _ => True, fun _ _ => True, fun _ _ => True, fun _ _ => True, fun _ _ => True, fun _ _ => True] [⟨4, 8, (iws .u64 (List.replicate 16 0)).toArray, (iws .u64 (dg (1 : F))).toArray, 32⟩, ⟨5, 9, (iws .u64 (List.replicate 16 0)).toArray, (iws .u64 (dg (0 : F))).toArray, 32⟩, ⟨6, 906, (iws .u64 (List.replicate 16 0)).toArray, (iws .u64 (List.replicate 16 0)).toArray, 32⟩, ⟨7, 907, (iws .u64 (List.replicate 16 0)).toArray, (iws .u64 (List.replicate 16 0)).toArray, 32⟩] [47, 48, 49, 50, 10, 11, 12, 13] hs hd (by kernel_rfl) (by kernel_rfl) (by kernel_rfl) (by kernel_rfl) (by kernel_rfl) (by intro e he; simp only [List.mem_cons, List.not_mem_nil, or_false] at he; rcases he with rfl | rfl | rfl | rfl <;> first | exact ⟨by dsimp only; omega, .inl (by dsimp only; omega)⟩ | exact ⟨by dsimp only; omega, .inr rfl⟩) (fun i w w' v h => AllLit.nth (l := [fun _ v => v = .agg (iws .u64 (dg (1 : F))).toArray, fun _ v => v = .agg (iws .u64 (dg (0 : F))).toArray, fun _ v => v = .agg (iws .u64 (dg u)).toArray, fun _ v => v = .agg (iws .u64 (dg (1 : F))).toArray, fun _ _ => True, fun _ _ => True, fun _ _ => True, fun _ _ => True, fun _ _ => True, fun _ _ => True]) ⟨litL, litL, litL, litL, litL, litL, litL, litL, litL, litL, trivial⟩ i w w' v h) ⟨(by exact ⟨rfl, .inl ⟨fun a' w' hb' hO hD => by
   exact .inr ⟨_, #[.int .u64 ((1 : Nat) : Int)], (exec_call Try.func10 (by kernel_rfl) (by kernel_rfl) _ rfl _ _ (args1 rfl)), Calls.mono (NumOf_1 _) (fun e w'' hR => by obtain ⟨rfl, hb_5⟩ := hR; exact ⟨_, rfl, rfl, hb_5⟩)⟩, (by intro e he; simp only [List.mem_cons, List.not_mem_nil, or_false] at he; rcases he with rfl | rfl | rfl | rfl <;> exact ⟨by dsimp only; omega, by dsimp only; omega⟩), rfl⟩⟩),
(by exact ⟨rfl, .inl ⟨fun a' w' hb' hO hD => by
   exact .inr ⟨_, #[.int .u64 ((0 : Nat) : Int)], (exec_call Try.func10 (by kernel_rfl) (by kernel_rfl) _ rfl _ _ (args1 rfl)), Calls.mono (NumOf_0 _) (fun e w'' hR => by obtain ⟨rfl, hb_6⟩ := hR; exact ⟨_, rfl, rfl, hb_6⟩)⟩, (by intro e he; simp only [List.mem_cons, List.not_mem_nil, or_false] at he; rcases he with rfl | rfl | rfl | rfl <;> exact ⟨by dsimp only; omega, by dsimp only; omega⟩), rfl⟩⟩),
(by exact ⟨rfl, .inl ⟨fun a' w' hb' hO hD => by
   have d_1 : a'.eval (.tmp 8) = .pointer (some ⟨g_1, 0, none⟩) := (hO 8 (by decide)).trans (pe hs rfl rfl)
   exact .inl ⟨_, _, (o_loadI rfl d_1 (hB_2.nx hb') (by rw [dg_length]; exact ⟨by kernel_rfl, by kernel_rfl⟩)), rfl, Below.refl _ _⟩, (by intro e he; simp only [List.mem_cons, List.not_mem_nil, or_false] at he; rcases he with rfl | rfl | rfl | rfl <;> exact ⟨by dsimp only; omega, by dsimp only; omega⟩), rfl⟩⟩),
(by exact ⟨rfl, .inl ⟨fun a' w' hb' hO hD => by
   exact .inr ⟨_, #[.int .u64 ((1 : Nat) : Int)], (exec_call Try.func10 (by kernel_rfl) (by kernel_rfl) _ rfl _ _ (args1 rfl)), Calls.mono (NumOf_1 _) (fun e w'' hR => by obtain ⟨rfl, hb_7⟩ := hR; exact ⟨_, rfl, rfl, hb_7⟩)⟩, (by intro e he; simp only [List.mem_cons, List.not_mem_nil, or_false] at he; rcases he with rfl | rfl | rfl | rfl <;> exact ⟨by dsimp only; omega, by dsimp only; omega⟩), rfl⟩⟩),
(by exact ⟨rfl, .inr (.inl ⟨_, (.head _), rfl, rfl, fun _ _ => trivial, (by intro e he; simp only [List.mem_cons, List.not_mem_nil, or_false] at he; rcases he with rfl | rfl | rfl | rfl <;> exact ⟨by dsimp only; omega, fun h => by first | (exfalso; dsimp only at h; omega) | rfl⟩), fun a' w' hb' => o_alloc (zs := (iws .u64 (List.replicate 16 0)).toArray) rfl (fun _ => by kernel_rfl)⟩)⟩),
(by exact ⟨rfl, .inr (.inl ⟨_, (.tail _ (.head _)), rfl, rfl, fun _ _ => trivial, (by intro e he; simp only [List.mem_cons, List.not_mem_nil, or_false] at he; rcases he with rfl | rfl | rfl | rfl <;> exact ⟨by dsimp only; omega, fun h => by first | (exfalso; dsimp only at h; omega) | rfl⟩), fun a' w' hb' => o_alloc (zs := (iws .u64 (List.replicate 16 0)).toArray) rfl (fun _ => by kernel_rfl)⟩)⟩),
(by exact ⟨rfl, .inr (.inl ⟨_, (.tail _ (.tail _ (.head _))), rfl, rfl, fun _ _ => trivial, (by intro e he; simp only [List.mem_cons, List.not_mem_nil, or_false] at he; rcases he with rfl | rfl | rfl | rfl <;> exact ⟨by dsimp only; omega, fun h => by first | (exfalso; dsimp only at h; omega) | rfl⟩), fun a' w' hb' => o_alloc (zs := (iws .u64 (List.replicate 16 0)).toArray) rfl (fun _ => by kernel_rfl)⟩)⟩),
(by exact ⟨rfl, .inr (.inl ⟨_, (.tail _ (.tail _ (.tail _ (.head _)))), rfl, rfl, fun _ _ => trivial, (by intro e he; simp only [List.mem_cons, List.not_mem_nil, or_false] at he; rcases he with rfl | rfl | rfl | rfl <;> exact ⟨by dsimp only; omega, fun h => by first | (exfalso; dsimp only at h; omega) | rfl⟩), fun a' w' hb' => o_alloc (zs := (iws .u64 (List.replicate 16 0)).toArray) rfl (fun _ => by kernel_rfl)⟩)⟩),
(by exact ⟨rfl, .inr (.inr ⟨_, (.head _), rfl, rfl, rfl, by kernel_rfl, ⟨_, rfl⟩, (by intro e he; simp only [List.mem_cons, List.not_mem_nil, or_false] at he; rcases he with rfl | rfl | rfl | rfl <;> exact ⟨by dsimp only; omega, fun h => by first | (exfalso; dsimp only at h; omega) | rfl⟩), fun a' w' g hb' hO hD hp hBz => by
   have d_2 : a'.eval (.tmp 47) = .agg (iws .u64 (dg (1 : F))).toArray := hD 0 47 (by kernel_rfl) rfl
   exact o_storeI rfl (hp _ rfl) d_2 hBz (by rw [(dg_length _)]; exact ⟨by kernel_rfl, by kernel_rfl⟩) (by simp only [iws_length, List.length_replicate]; rw [(dg_length _)])⟩)⟩),
(by exact ⟨rfl, .inr (.inr ⟨_, (.tail _ (.head _)), rfl, rfl, rfl, by kernel_rfl, ⟨_, rfl⟩, (by intro e he; simp only [List.mem_cons, List.not_mem_nil, or_false] at he; rcases he with rfl | rfl | rfl | rfl <;> exact ⟨by dsimp only; omega, fun h => by first | (exfalso; dsimp only at h; omega) | rfl⟩), fun a' w' g hb' hO hD hp hBz => by
   have d_3 : a'.eval (.tmp 48) = .agg (iws .u64 (dg (0 : F))).toArray := hD 1 48 (by kernel_rfl) rfl
   exact o_storeI rfl (hp _ rfl) d_3 hBz (by rw [(dg_length _)]; exact ⟨by kernel_rfl, by kernel_rfl⟩) (by simp only [iws_length, List.length_replicate]; rw [(dg_length _)])⟩)⟩), trivial⟩ (fun a_1 w_5 gf_1 hs_1 hd_1 hb_8 hO_1 hV_1 hN_1 hG_1 => ?_)
 have ta_1_0 := (hO_1 0 (by decide)).trans ((pm rfl).trans t0)
 have ta_1_1 := (hO_1 1 (by decide)).trans ((pm rfl).trans t1)
 have ta_1_4 : a_1.eval (.tmp 4) = .slice none (0) (0) := (hO_1 4 (by decide)).trans (pe hs rfl rfl)
 have ta_1_5 : a_1.eval (.tmp 5) = .int .i64 ((0 : Nat) : Int) := (hO_1 5 (by decide)).trans (pe hs rfl rfl)
 have ta_1_32 : a_1.eval (.tmp 32) = .slice A (q) (c) := (hO_1 32 (by decide)).trans (pe hs rfl rfl)
 have ta_1_33 : a_1.eval (.tmp 33) = .tuple #[.slice A_1 (32) (c_1), .int .i64 ((0 : Nat) : Int)] := (hO_1 33 (by decide)).trans (pe hs rfl rfl)
 have ta_1_31 : a_1.eval (.tmp 31) = .tuple #[.slice A_1 (32) (c_1), .int .i64 ((0 : Nat) : Int)] := (hO_1 31 (by decide)).trans (pe hs rfl rfl)
 have ta_1_34 : a_1.eval (.tmp 34) = .slice A_1 (32) (c_1) := (hO_1 34 (by decide)).trans (pe hs rfl rfl)
 have ta_1_35 : a_1.eval (.tmp 35) = .int .i64 ((0 : Nat) : Int) := (hO_1 35 (by decide)).trans (pe hs rfl rfl)
 have ta_1_6 : a_1.eval (.tmp 6) = .slice A_1 (32) (c_1) := (hO_1 6 (by decide)).trans (pe hs rfl rfl)
 have ta_1_7 : a_1.eval (.tmp 7) = .int .i64 ((0 : Nat) : Int) := (hO_1 7 (by decide)).trans (pe hs rfl rfl)
 have ta_1_37 : a_1.eval (.tmp 37) = .slice B (m) (d) := (hO_1 37 (by decide)).trans (pe hs rfl rfl)
 have ta_1_38 : a_1.eval (.tmp 38) = .tuple #[.agg (iws .u64 (dg (numL us))).toArray, .int .i64 ((0 : Nat) : Int)] := (hO_1 38 (by decide)).trans (pe hs rfl rfl)
 have ta_1_36 : a_1.eval (.tmp 36) = .tuple #[.agg (iws .u64 (dg (numL us))).toArray, .int .i64 ((0 : Nat) : Int)] := (hO_1 36 (by decide)).trans (pe hs rfl rfl)
 have ta_1_39 : a_1.eval (.tmp 39) = .agg (iws .u64 (dg (numL us))).toArray := (hO_1 39 (by decide)).trans (pe hs rfl rfl)
 have ta_1_40 : a_1.eval (.tmp 40) = .int .i64 ((0 : Nat) : Int) := (hO_1 40 (by decide)).trans (pe hs rfl rfl)
 have ta_1_8 : a_1.eval (.tmp 8) = .pointer (some ⟨g_1, 0, none⟩) := (hO_1 8 (by decide)).trans (pe hs rfl rfl)
 have ta_1_9 : a_1.eval (.tmp 9) = .int .i64 ((0 : Nat) : Int) := (hO_1 9 (by decide)).trans (pe hs rfl rfl)
 have ta_1_41 : a_1.eval (.tmp 41) = .int .i64 ((0 : Nat) : Int) := (hO_1 41 (by decide)).trans (pe hs rfl rfl)
 have ta_1_42 : a_1.eval (.tmp 42) = .bool (false) := (hO_1 42 (by decide)).trans (pe hs rfl rfl)
 have ta_1_43 : a_1.eval (.tmp 43) = .bool (false) := (hO_1 43 (by decide)).trans (pe hs rfl rfl)
 have ta_1_44 : a_1.eval (.tmp 44) = .int .i64 ((0 : Nat) : Int) := (hO_1 44 (by decide)).trans (pe hs rfl rfl)
 have ta_1_45 : a_1.eval (.tmp 45) = .bool (false) := (hO_1 45 (by decide)).trans (pe hs rfl rfl)
 have ta_1_46 : a_1.eval (.tmp 46) = .bool (false) := (hO_1 46 (by decide)).trans (pe hs rfl rfl)
 clear t0 t1 hd
 obtain ⟨ta_1_10, hle_2, hB_4⟩ := hN_1 0 _ rfl _ rfl
 obtain ⟨ta_1_11, hle_3, hB_5⟩ := hN_1 1 _ rfl _ rfl
 obtain ⟨ta_1_12, hle_4, hB_6⟩ := hN_1 2 _ rfl _ rfl
 obtain ⟨ta_1_13, hle_5, hB_7⟩ := hN_1 3 _ rfl _ rfl
 have ne_1 : gf_1 4 ≠ gf_1 5 := hG_1 0 1 _ _ rfl rfl (by dsimp only; omega)
 have ne_2 : gf_1 4 ≠ gf_1 6 := hG_1 0 2 _ _ rfl rfl (by dsimp only; omega)
 have ne_3 : gf_1 5 ≠ gf_1 6 := hG_1 1 2 _ _ rfl rfl (by dsimp only; omega)
 have ne_4 : gf_1 4 ≠ gf_1 7 := hG_1 0 3 _ _ rfl rfl (by dsimp only; omega)
 have ne_5 : gf_1 5 ≠ gf_1 7 := hG_1 1 3 _ _ rfl rfl (by dsimp only; omega)
 have ne_6 : gf_1 6 ≠ gf_1 7 := hG_1 2 3 _ _ rfl rfl (by dsimp only; omega)
 clear hN_1 hG_1
 dsimp only at ta_1_10 hle_2 hB_4 ta_1_11 hle_3 hB_5 ta_1_12 hle_4 hB_6 ta_1_13 hle_5 hB_7
 generalize gf_1 4 = g_2 at *
 generalize gf_1 5 = g_3 at *
 generalize gf_1 6 = g_4 at *
 generalize gf_1 7 = g_5 at *
 have ne_7 : g_1 ≠ g_2 := Nat.ne_of_lt (Nat.lt_of_lt_of_le hB_2.lt hle_2)
 have ge_2 : w.heap.size ≤ g_2 := Nat.le_trans HB_3.size hle_2
 have ne_8 : g_1 ≠ g_3 := Nat.ne_of_lt (Nat.lt_of_lt_of_le hB_2.lt hle_3)
 have ge_3 : w.heap.size ≤ g_3 := Nat.le_trans HB_3.size hle_3
 have ne_9 : g_1 ≠ g_4 := Nat.ne_of_lt (Nat.lt_of_lt_of_le hB_2.lt hle_4)
 have ge_4 : w.heap.size ≤ g_4 := Nat.le_trans HB_3.size hle_4
 have ne_10 : g_1 ≠ g_5 := Nat.ne_of_lt (Nat.lt_of_lt_of_le hB_2.lt hle_5)
 have ge_5 : w.heap.size ≤ g_5 := Nat.le_trans HB_3.size hle_5
 replace ho_1 := ho_1.nx hb_8
 replace hB_2 := hB_2.nx hb_8
 have HB_4 := below_from HB_3 hb_8
 have ta_1_47 : a_1.eval (.tmp 47) = .agg (iws .u64 (dg (1 : F))).toArray := hV_1 0 47 rfl rfl
 have ta_1_48 : a_1.eval (.tmp 48) = .agg (iws .u64 (dg (0 : F))).toArray := hV_1 1 48 rfl rfl
 have ta_1_49 : a_1.eval (.tmp 49) = .agg (iws .u64 (dg u)).toArray := hV_1 2 49 rfl rfl
 have ta_1_50 : a_1.eval (.tmp 50) = .agg (iws .u64 (dg (1 : F))).toArray := hV_1 3 50 rfl rfl
 clear hV_1 hO_1
 simp only [List.drop_succ_cons, List.drop_zero]
 refine op_do rfl rfl (o_storeI rfl ((pm rfl).trans ta_1_12) ((pm rfl).trans ta_1_49) hB_6 (by rw [dg_length]; exact ⟨by kernel_rfl, by kernel_rfl⟩) (by simp [iws, dg_length])) (fun w_6 hR_5 => ?_)
 obtain ⟨hB_8, hX_2⟩ := hR_5
 replace ho_1 := ho_1.keepX hB_6 (by decide) hX_2
 replace hB_2 := hX_2.blk hB_2 ne_9
 replace hB_4 := hX_2.blk hB_4 ne_2
 replace hB_5 := hX_2.blk hB_5 ne_3
 replace hB_7 := hX_2.blk hB_7 (Ne.symm ne_6)
 have HB_5 := hX_2.below HB_4 HB_4.size (fun k hk => hk ▸ ge_4)
 clear hB_6
 refine op_do rfl rfl (o_storeI rfl ((pm rfl).trans ta_1_13) ((pm rfl).trans ta_1_50) hB_7 (by rw [dg_length]; exact ⟨by kernel_rfl, by kernel_rfl⟩) (by simp [iws, dg_length])) (fun w_7 hR_6 => ?_)
 obtain ⟨hB_9, hX_3⟩ := hR_6
 replace ho_1 := ho_1.keepX hB_7 (by decide) hX_3
 replace hB_2 := hX_3.blk hB_2 ne_10
 replace hB_4 := hX_3.blk hB_4 ne_4
 replace hB_5 := hX_3.blk hB_5 ne_5
 replace hB_8 := hX_3.blk hB_8 ne_6
 have HB_6 := hX_3.below HB_5 HB_5.size (fun k hk => hk ▸ ge_5)
 clear hB_7
 refine x_nil (hK_6 _ _ ?_)
 refine w2_sr (fun K_7 hK_7 => ?_)
 refine q_as (.int .u8 ((0 : Nat) : Int)) rfl ?_
 refine x_nil (hK_7 _ _ ?_)
 refine w2_seq (fun K_8 hK_8 => ?_)
 refine w2_sr (fun K_9 hK_9 => ?_)
 refine q_as (.int .i64 ((254 : Nat) : Int)) rfl ?_
 refine x_nil (hK_9 _ _ ?_)
 refine w2_block (fun K_10 hK_10 => ?_)
 refine x_loop (fun nn aa ww => ∃ (K : Nat), nn = 255 - K ∧ aa.tmps.size = 143 ∧ aa.defers = [] ∧ aa.eval (.tmp 0) = .slice A (q) (c) ∧ aa.eval (.tmp 1) = .slice B (m) (d) ∧ aa.eval (.tmp 4) = .slice none (0) (0) ∧ aa.eval (.tmp 5) = .int .i64 ((0 : Nat) : Int) ∧ aa.eval (.tmp 6) = .slice A_1 (32) (c_1) ∧ aa.eval (.tmp 7) = .int .i64 ((0 : Nat) : Int) ∧ aa.eval (.tmp 8) = .pointer (some ⟨g_1, 0, none⟩) ∧ aa.eval (.tmp 9) = .int .i64 ((0 : Nat) : Int) ∧ aa.eval (.tmp 10) = .pointer (some ⟨g_2, 0, none⟩) ∧ aa.eval (.tmp 11) = .pointer (some ⟨g_3, 0, none⟩) ∧ aa.eval (.tmp 12) = .pointer (some ⟨g_4, 0, none⟩) ∧ aa.eval (.tmp 13) = .pointer (some ⟨g_5, 0, none⟩) ∧ aa.eval (.tmp 14) = .int .u8 ((lastb cl K : Nat) : Int) ∧ aa.eval (.tmp 15) = .int .i64 (254 - (K : Int)) ∧ aa.eval (.tmp 31) = .tuple #[.slice A_1 (32) (c_1), .int .i64 ((0 : Nat) : Int)] ∧ aa.eval (.tmp 32) = .slice A (q) (c) ∧ aa.eval (.tmp 33) = .tuple #[.slice A_1 (32) (c_1), .int .i64 ((0 : Nat) : Int)] ∧ aa.eval (.tmp 34) = .slice A_1 (32) (c_1) ∧ aa.eval (.tmp 35) = .int .i64 ((0 : Nat) : Int) ∧ aa.eval (.tmp 36) = .tuple #[.agg (iws .u64 (dg (numL us))).toArray, .int .i64 ((0 : Nat) : Int)] ∧ aa.eval (.tmp 37) = .slice B (m) (d) ∧ aa.eval (.tmp 38) = .tuple #[.agg (iws .u64 (dg (numL us))).toArray, .int .i64 ((0 : Nat) : Int)] ∧ aa.eval (.tmp 39) = .agg (iws .u64 (dg (numL us))).toArray ∧ aa.eval (.tmp 40) = .int .i64 ((0 : Nat) : Int) ∧ aa.eval (.tmp 41) = .int .i64 ((0 : Nat) : Int) ∧ aa.eval (.tmp 42) = .bool (false) ∧ aa.eval (.tmp 43) = .bool (false) ∧ aa.eval (.tmp 44) = .int .i64 ((0 : Nat) : Int) ∧ aa.eval (.tmp 45) = .bool (false) ∧ aa.eval (.tmp 46) = .bool (false) ∧ aa.eval (.tmp 47) = .agg (iws .u64 (dg (1 : F))).toArray ∧ aa.eval (.tmp 48) = .agg (iws .u64 (dg (0 : F))).toArray ∧ aa.eval (.tmp 49) = .agg (iws .u64 (dg u)).toArray ∧ aa.eval (.tmp 50) = .agg (iws .u64 (dg (1 : F))).toArray ∧ K ≤ 255 ∧ Own ww w.heap.size A_1 c_1 cl ∧ Blk ww g_1 (iws .u64 (dg u)).toArray 32 ∧ Blk ww g_2 (iws .u64 (dg (rS cl u K).1)).toArray 32 ∧ Blk ww g_3 (iws .u64 (dg (rS cl u K).2.1)).toArray 32 ∧ Blk ww g_4 (iws .u64 (dg (rS cl u K).2.2.1)).toArray 32 ∧ Blk ww g_5 (iws .u64 (dg (rS cl u K).2.2.2)).toArray 32 ∧ Below w.heap.size w ww) (255) ?_ ?_
 ·exact ⟨0, rfl, (by rw [putsR_size]; exact hs_1), (by rw [putsR_defers]; exact hd_1), ((pm rfl).trans ta_1_0), ((pm rfl).trans ta_1_1), ((pm rfl).trans ta_1_4), ((pm rfl).trans ta_1_5), ((pm rfl).trans ta_1_6), ((pm rfl).trans ta_1_7), ((pm rfl).trans ta_1_8), ((pm rfl).trans ta_1_9), ((pm rfl).trans ta_1_10), ((pm rfl).trans ta_1_11), ((pm rfl).trans ta_1_12), ((pm rfl).trans ta_1_13), (pe hs_1 rfl rfl), (pe hs_1 rfl rfl), ((pm rfl).trans ta_1_31), ((pm rfl).trans ta_1_32), ((pm rfl).trans ta_1_33), ((pm rfl).trans ta_1_34), ((pm rfl).trans ta_1_35), ((pm rfl).trans ta_1_36), ((pm rfl).trans ta_1_37), ((pm rfl).trans ta_1_38), ((pm rfl).trans ta_1_39), ((pm rfl).trans ta_1_40), ((pm rfl).trans ta_1_41), ((pm rfl).trans ta_1_42), ((pm rfl).trans ta_1_43), ((pm rfl).trans ta_1_44), ((pm rfl).trans ta_1_45), ((pm rfl).trans ta_1_46), ((pm rfl).trans ta_1_47), ((pm rfl).trans ta_1_48), ((pm rfl).trans ta_1_49), ((pm rfl).trans ta_1_50), by omega, ho_1, hB_2, (by rw [rS0]; exact hB_4), (by rw [rS0]; exact hB_5), (by rw [rS0]; exact hB_8), (by rw [rS0]; exact hB_9), HB_6⟩
 ·skip
  clear ta_1_0 ta_1_1 ta_1_4 ta_1_5 ta_1_32 ta_1_33 ta_1_31 ta_1_34 ta_1_35 ta_1_6 ta_1_7 ta_1_37 ta_1_38 ta_1_36 ta_1_39 ta_1_40 ta_1_8 ta_1_9 ta_1_41 ta_1_42 ta_1_43 ta_1_44 ta_1_45 ta_1_46 ta_1_10 ta_1_11 ta_1_12 ta_1_13 ta_1_47 ta_1_48 ta_1_49 ta_1_50 hd_1 ho_1 hB_2 hB_4 hB_5 hB_8 hB_9 HB_6
  rintro nna_2 a_2 w_8 ⟨K, hm_1, hs_2, hd_2, ta_2_0, ta_2_1, ta_2_4, ta_2_5, ta_2_6, ta_2_7, ta_2_8, ta_2_9, ta_2_10, ta_2_11, ta_2_12, ta_2_13, ta_2_14, ta_2_15, ta_2_31, ta_2_32, ta_2_33, ta_2_34, ta_2_35, ta_2_36, ta_2_37, ta_2_38, ta_2_39, ta_2_40, ta_2_41, ta_2_42, ta_2_43, ta_2_44, ta_2_45, ta_2_46, ta_2_47, ta_2_48, ta_2_49, ta_2_50, hK, hCl, B8, B10, B11, B12, B13, HBL⟩ K_11 hK_11
  subst hm_1
  have hlb := lastb_lt cl K
  have hkb := kbit_lt cl (254 - K)
  refine w2_seq (fun K_12 hK_12 => ?_)
  refine w2_sr (fun K_13 hK_13 => ?_)
  refine q_mv ((pm rfl).trans ta_2_15) ?_
  refine q_v 52 (.bool (decide (((0 : Nat) : Int) ≤ 254 - (K : Int)))) (o_geqZZ (m := 254 - (K : Int)) (n := ((0 : Nat) : Int)) rfl (pe hs_2 rfl rfl) rfl) ?_
  refine x_nil (hK_13 _ _ ?_)
  refine w2_split (pe hs_2 rfl rfl) (fun h_1 => ?_) (fun h_1 => ?_)
  ·simp only [DD9] at h_1
   have hK15 : K ≤ 254 := by have h9 := h_1; omega
   refine w2_skip ?_
   refine hK_12 _ _ ?_
   refine w2_seq (fun K_14 hK_14 => ?_)
   refine w2_block (fun K_15 hK_15 => ?_)
   refine w2_sr (fun K_16 hK_16 => ?_)
   refine q_mv ((pm rfl).trans ta_2_6) ?_
   refine q_v 56 (.int .i64 ((254 - K : Nat) : Int)) (o_eq (o_move rfl ((pm rfl).trans ta_2_15)) (congrArg (Value.int .i64) (by omega))) ?_
   refine q_v 57 (.int .i64 (((254 - K) / 8 : Nat) : Int)) (o_quo (m := (254 - K)) (n := 8) rfl (pe hs_2 rfl rfl) rfl (by omega) (IntWalk.i64_in _ (by omega))) ?_
   refine q_v 58 (.pointer (atA A_1 ((254 - K) / 8))) (o_ix (k := (254 - K) / 8) rfl (pe hs_2 rfl rfl) (pe hs_2 rfl rfl) (by omega) ((hCl).bs.some (by rw [hcll]; omega))) ?_
   refine q_v 59 (.int .u8 ((cl.getD ((254 - K) / 8) 0 : Nat) : Int)) (o_ld8 rfl (pe hs_2 rfl rfl) (hCl).bs (by rw [hcll]; omega) rfl) ?_
   refine q_v 60 (.int .i64 ((254 - K : Nat) : Int)) (o_eq (o_move rfl ((pm rfl).trans ta_2_15)) (congrArg (Value.int .i64) (by omega))) ?_
   refine q_v 61 (.int .i64 (((254 - K) % 8 : Nat) : Int)) (o_rem (m := (254 - K)) (n := 8) rfl (pe hs_2 rfl rfl) rfl (by omega) (IntWalk.i64_in _ (by omega))) ?_
   refine q_v 62 (.int .u64 (((254 - K) % 8 : Nat) : Int)) (o_conv (m := ((254 - K) % 8)) (r := (254 - K) % 8) rfl (pe hs_2 rfl rfl) ⟨.int .i64, fun _ => by kernel_rfl⟩ (fun _ => by kernel_rfl) (by rw [IntKind.wrap_u64]; omega)) ?_
   refine q_v 63 (.int .u8 (((cl.getD ((254 - K) / 8) 0) / 2 ^ ((254 - K) % 8) : Nat) : Int)) (o_shr (m := (cl.getD ((254 - K) / 8) 0)) (n := ((254 - K) % 8)) rfl (pe hs_2 rfl rfl) (pe hs_2 rfl rfl) (by simp [IntKind.bits]; omega)) ?_
   refine q_v 64 (.int .u8 ((kbit cl (254 - K) : Nat) : Int)) (o_eq (o_bits (m := ((cl.getD ((254 - K) / 8) 0) / 2 ^ ((254 - K) % 8))) (n := 1) (((cl.getD ((254 - K) / 8) 0) / 2 ^ ((254 - K) % 8)) &&& 1) rfl (pe hs_2 rfl rfl) rfl (by decide) (u8_and_nat _ _ (Nat.lt_of_le_of_lt (Nat.div_le_self _ _) (getD_lt hc8 _)) (by decide))) (by rw [and_1]; rfl)) ?_
   refine q_at (pe hs_2 rfl rfl) ?_
   refine x_nil (hK_16 _ _ ?_)
   refine x_cut (fun aa ww => aa.tmps.size = 143 ∧ aa.defers = [] ∧ aa.eval (.tmp 0) = .slice A (q) (c) ∧ aa.eval (.tmp 1) = .slice B (m) (d) ∧ aa.eval (.tmp 4) = .slice none (0) (0) ∧ aa.eval (.tmp 5) = .int .i64 ((0 : Nat) : Int) ∧ aa.eval (.tmp 6) = .slice A_1 (32) (c_1) ∧ aa.eval (.tmp 7) = .int .i64 ((0 : Nat) : Int) ∧ aa.eval (.tmp 8) = .pointer (some ⟨g_1, 0, none⟩) ∧ aa.eval (.tmp 9) = .int .i64 ((0 : Nat) : Int) ∧ aa.eval (.tmp 10) = .pointer (some ⟨g_2, 0, none⟩) ∧ aa.eval (.tmp 11) = .pointer (some ⟨g_3, 0, none⟩) ∧ aa.eval (.tmp 12) = .pointer (some ⟨g_4, 0, none⟩) ∧ aa.eval (.tmp 13) = .pointer (some ⟨g_5, 0, none⟩) ∧ aa.eval (.tmp 14) = .int .u8 ((lastb cl K : Nat) : Int) ∧ aa.eval (.tmp 15) = .int .i64 (254 - (K : Int)) ∧ aa.eval (.tmp 16) = .int .u8 ((kbit cl (254 - K) : Nat) : Int) ∧ aa.eval (.tmp 31) = .tuple #[.slice A_1 (32) (c_1), .int .i64 ((0 : Nat) : Int)] ∧ aa.eval (.tmp 32) = .slice A (q) (c) ∧ aa.eval (.tmp 33) = .tuple #[.slice A_1 (32) (c_1), .int .i64 ((0 : Nat) : Int)] ∧ aa.eval (.tmp 34) = .slice A_1 (32) (c_1) ∧ aa.eval (.tmp 35) = .int .i64 ((0 : Nat) : Int) ∧ aa.eval (.tmp 36) = .tuple #[.agg (iws .u64 (dg (numL us))).toArray, .int .i64 ((0 : Nat) : Int)] ∧ aa.eval (.tmp 37) = .slice B (m) (d) ∧ aa.eval (.tmp 38) = .tuple #[.agg (iws .u64 (dg (numL us))).toArray, .int .i64 ((0 : Nat) : Int)] ∧ aa.eval (.tmp 39) = .agg (iws .u64 (dg (numL us))).toArray ∧ aa.eval (.tmp 40) = .int .i64 ((0 : Nat) : Int) ∧ aa.eval (.tmp 41) = .int .i64 ((0 : Nat) : Int) ∧ aa.eval (.tmp 42) = .bool (false) ∧ aa.eval (.tmp 43) = .bool (false) ∧ aa.eval (.tmp 44) = .int .i64 ((0 : Nat) : Int) ∧ aa.eval (.tmp 45) = .bool (false) ∧ aa.eval (.tmp 46) = .bool (false) ∧ aa.eval (.tmp 47) = .agg (iws .u64 (dg (1 : F))).toArray ∧ aa.eval (.tmp 48) = .agg (iws .u64 (dg (0 : F))).toArray ∧ aa.eval (.tmp 49) = .agg (iws .u64 (dg u)).toArray ∧ aa.eval (.tmp 50) = .agg (iws .u64 (dg (1 : F))).toArray ∧ Own ww w.heap.size A_1 c_1 cl ∧ Blk ww g_1 (iws .u64 (dg u)).toArray 32 ∧ Blk ww g_2 (iws .u64 (dg (mS cl u K).1)).toArray 32 ∧ Blk ww g_3 (iws .u64 (dg (mS cl u K).2.1)).toArray 32 ∧ Blk ww g_4 (iws .u64 (dg (mS cl u K).2.2.1)).toArray 32 ∧ Blk ww g_5 (iws .u64 (dg (mS cl u K).2.2.2)).toArray 32 ∧ Below w.heap.size w ww) (fun K_17 hK_17 => ?_) ?_
   ·skip
    refine w2_sr (fun K_18 hK_18 => ?_)
    refine q_mv (pe hs_2 rfl rfl) ?_
    refine q_mv ((pm rfl).trans ta_2_14) ?_
    refine q_v 67 (.bool (!decide ((kbit cl (254 - K)) = (lastb cl K)))) (o_neq (m := (kbit cl (254 - K))) (n := (lastb cl K)) rfl (pe hs_2 rfl rfl) (pe hs_2 rfl rfl)) ?_
    refine x_nil (hK_18 _ _ ?_)
    refine w2_split (pe hs_2 rfl rfl) (fun h_2 => ?_) (fun h_2 => ?_)
    ·simp only [DD9] at h_2
     have hsw : ¬ kbit cl (254 - K) = lastb cl K := h_2
     refine x_drawnH 5 4 g_2 _ (iws .u64 (dg (rS cl u K).2.2.1)).toArray _ [fun _ v => v = .agg (iws .u64 (dg (rS cl u K).2.2.1)).toArray, fun _ v => v = .agg (iws .u64 (dg (rS cl u K).2.2.2)).toArray, fun _ v => v = .agg (iws .u64 (dg (rS cl u K).1)).toArray, fun _ v => v = .agg (iws .u64 (dg (rS cl u K).2.1)).toArray, fun _ _ => True] [68, 69, 70, 71] hs_2 hd_2 (by kernel_rfl) (by kernel_rfl) (by kernel_rfl) (by kernel_rfl) (by kernel_rfl) rfl (by kernel_rfl) ⟨litL, litL, litL, litL, litL, trivial⟩ B10 ⟨(stepH_val rfl rfl (fun a' w' hb' hO hD hBl => by
       have d_4 := (hO 12 (by decide)).trans ((pm rfl).trans ta_2_12)
       exact .inl ⟨_, _, (o_loadI rfl d_4 (hb'.blk B12 (Ne.symm ne_2)) (by rw [dg_length]; exact ⟨by kernel_rfl, by kernel_rfl⟩)), rfl, Below.refl _ _⟩)),
(stepH_val rfl rfl (fun a' w' hb' hO hD hBl => by
       have d_5 := (hO 13 (by decide)).trans ((pm rfl).trans ta_2_13)
       exact .inl ⟨_, _, (o_loadI rfl d_5 (hb'.blk B13 (Ne.symm ne_4)) (by rw [dg_length]; exact ⟨by kernel_rfl, by kernel_rfl⟩)), rfl, Below.refl _ _⟩)),
(stepH_val rfl rfl (fun a' w' hb' hO hD hBl => by
       have d_6 := (hO 10 (by decide)).trans ((pm rfl).trans ta_2_10)
       exact .inl ⟨_, _, (o_loadI rfl d_6 (hBl _ rfl (by kernel_rfl)) (by rw [dg_length]; exact ⟨by kernel_rfl, by kernel_rfl⟩)), rfl, Below.refl _ _⟩)),
(stepH_val rfl rfl (fun a' w' hb' hO hD hBl => by
       have d_7 := (hO 11 (by decide)).trans ((pm rfl).trans ta_2_11)
       exact .inl ⟨_, _, (o_loadI rfl d_7 (hb'.blk B11 (Ne.symm ne_1)) (by rw [dg_length]; exact ⟨by kernel_rfl, by kernel_rfl⟩)), rfl, Below.refl _ _⟩)),
(stepH_hot rfl (fun a' w' hb' hO hD c hc hBc => by
       have d_8 := (hO 10 (by decide)).trans ((pm rfl).trans ta_2_10)
       have d_9 : a'.eval (.tmp 68) = .agg (iws .u64 (dg (rS cl u K).2.2.1)).toArray := hD 0 68 (by kernel_rfl) rfl
       rcases hc with rfl | rfl
       ·exact o_storeI rfl d_8 d_9 hBc (by rw [dg_length]; exact ⟨by kernel_rfl, by kernel_rfl⟩) (by simp [iws, dg_length])
       ·exact o_storeI rfl d_8 d_9 hBc (by rw [dg_length]; exact ⟨by kernel_rfl, by kernel_rfl⟩) (by simp [iws, dg_length]))), trivial⟩ (fun a_3 w_9 hs_3 hd_3 hX_4 hB_10 hO_2 hV_2 => ?_)
     have ta_3_0 := (hO_2 0 (by decide)).trans ((pm rfl).trans ta_2_0)
     have ta_3_1 := (hO_2 1 (by decide)).trans ((pm rfl).trans ta_2_1)
     have ta_3_4 := (hO_2 4 (by decide)).trans ((pm rfl).trans ta_2_4)
     have ta_3_5 := (hO_2 5 (by decide)).trans ((pm rfl).trans ta_2_5)
     have ta_3_32 := (hO_2 32 (by decide)).trans ((pm rfl).trans ta_2_32)
     have ta_3_33 := (hO_2 33 (by decide)).trans ((pm rfl).trans ta_2_33)
     have ta_3_31 := (hO_2 31 (by decide)).trans ((pm rfl).trans ta_2_31)
     have ta_3_34 := (hO_2 34 (by decide)).trans ((pm rfl).trans ta_2_34)
     have ta_3_35 := (hO_2 35 (by decide)).trans ((pm rfl).trans ta_2_35)
     have ta_3_6 := (hO_2 6 (by decide)).trans ((pm rfl).trans ta_2_6)
     have ta_3_7 := (hO_2 7 (by decide)).trans ((pm rfl).trans ta_2_7)
     have ta_3_37 := (hO_2 37 (by decide)).trans ((pm rfl).trans ta_2_37)
     have ta_3_38 := (hO_2 38 (by decide)).trans ((pm rfl).trans ta_2_38)
     have ta_3_36 := (hO_2 36 (by decide)).trans ((pm rfl).trans ta_2_36)
     have ta_3_39 := (hO_2 39 (by decide)).trans ((pm rfl).trans ta_2_39)
     have ta_3_40 := (hO_2 40 (by decide)).trans ((pm rfl).trans ta_2_40)
     have ta_3_8 := (hO_2 8 (by decide)).trans ((pm rfl).trans ta_2_8)
     have ta_3_9 := (hO_2 9 (by decide)).trans ((pm rfl).trans ta_2_9)
     have ta_3_41 := (hO_2 41 (by decide)).trans ((pm rfl).trans ta_2_41)
     have ta_3_42 := (hO_2 42 (by decide)).trans ((pm rfl).trans ta_2_42)
     have ta_3_43 := (hO_2 43 (by decide)).trans ((pm rfl).trans ta_2_43)
     have ta_3_44 := (hO_2 44 (by decide)).trans ((pm rfl).trans ta_2_44)
     have ta_3_45 := (hO_2 45 (by decide)).trans ((pm rfl).trans ta_2_45)
     have ta_3_46 := (hO_2 46 (by decide)).trans ((pm rfl).trans ta_2_46)
     have ta_3_10 := (hO_2 10 (by decide)).trans ((pm rfl).trans ta_2_10)
     have ta_3_11 := (hO_2 11 (by decide)).trans ((pm rfl).trans ta_2_11)
     have ta_3_12 := (hO_2 12 (by decide)).trans ((pm rfl).trans ta_2_12)
     have ta_3_13 := (hO_2 13 (by decide)).trans ((pm rfl).trans ta_2_13)
     have ta_3_47 := (hO_2 47 (by decide)).trans ((pm rfl).trans ta_2_47)
     have ta_3_48 := (hO_2 48 (by decide)).trans ((pm rfl).trans ta_2_48)
     have ta_3_49 := (hO_2 49 (by decide)).trans ((pm rfl).trans ta_2_49)
     have ta_3_50 := (hO_2 50 (by decide)).trans ((pm rfl).trans ta_2_50)
     have ta_3_14 := (hO_2 14 (by decide)).trans ((pm rfl).trans ta_2_14)
     have ta_3_15 := (hO_2 15 (by decide)).trans ((pm rfl).trans ta_2_15)
     have ta_3_16 : a_3.eval (.tmp 16) = .int .u8 ((kbit cl (254 - K) : Nat) : Int) := (hO_2 16 (by decide)).trans (pe hs_2 rfl rfl)
     clear ta_2_0 ta_2_1 ta_2_4 ta_2_5 ta_2_32 ta_2_33 ta_2_31 ta_2_34 ta_2_35 ta_2_6 ta_2_7 ta_2_37 ta_2_38 ta_2_36 ta_2_39 ta_2_40 ta_2_8 ta_2_9 ta_2_41 ta_2_42 ta_2_43 ta_2_44 ta_2_45 ta_2_46 ta_2_10 ta_2_11 ta_2_12 ta_2_13 ta_2_47 ta_2_48 ta_2_49 ta_2_50 ta_2_14 ta_2_15 hd_2
     replace hCl := hCl.keepX B10 (by decide) hX_4
     replace B8 := hX_4.blk B8 ne_7
     replace B11 := hX_4.blk B11 (Ne.symm ne_1)
     replace B12 := hX_4.blk B12 (Ne.symm ne_2)
     replace B13 := hX_4.blk B13 (Ne.symm ne_4)
     have HB_7 := hX_4.below HBL HBL.size (fun k hk => hk ▸ ge_2)
     clear B10
     have ta_3_69 : a_3.eval (.tmp 69) = .agg (iws .u64 (dg (rS cl u K).2.2.2)).toArray := hV_2 1 69 rfl rfl
     have ta_3_70 : a_3.eval (.tmp 70) = .agg (iws .u64 (dg (rS cl u K).1)).toArray := hV_2 2 70 rfl rfl
     have ta_3_71 : a_3.eval (.tmp 71) = .agg (iws .u64 (dg (rS cl u K).2.1)).toArray := hV_2 3 71 rfl rfl
     clear hV_2 hO_2
     simp only [List.drop_succ_cons, List.drop_zero]
     refine op_do rfl rfl (o_storeI rfl ((pm rfl).trans ta_3_11) ((pm rfl).trans ta_3_69) B11 (by rw [dg_length]; exact ⟨by kernel_rfl, by kernel_rfl⟩) (by simp [iws, dg_length])) (fun w_10 hR_7 => ?_)
     obtain ⟨hB_11, hX_5⟩ := hR_7
     replace hCl := hCl.keepX B11 (by decide) hX_5
     replace B8 := hX_5.blk B8 ne_8
     replace B12 := hX_5.blk B12 (Ne.symm ne_3)
     replace B13 := hX_5.blk B13 (Ne.symm ne_5)
     replace hB_10 := hX_5.blk hB_10 ne_1
     have HB_8 := hX_5.below HB_7 HB_7.size (fun k hk => hk ▸ ge_3)
     clear B11
     refine op_do rfl rfl (o_storeI rfl ((pm rfl).trans ta_3_12) ((pm rfl).trans ta_3_70) B12 (by rw [dg_length]; exact ⟨by kernel_rfl, by kernel_rfl⟩) (by simp [iws, dg_length])) (fun w_11 hR_8 => ?_)
     obtain ⟨hB_12, hX_6⟩ := hR_8
     replace hCl := hCl.keepX B12 (by decide) hX_6
     replace B8 := hX_6.blk B8 ne_9
     replace B13 := hX_6.blk B13 (Ne.symm ne_6)
     replace hB_10 := hX_6.blk hB_10 ne_2
     replace hB_11 := hX_6.blk hB_11 ne_3
     have HB_9 := hX_6.below HB_8 HB_8.size (fun k hk => hk ▸ ge_4)
     clear B12
     refine op_do rfl rfl (o_storeI rfl ((pm rfl).trans ta_3_13) ((pm rfl).trans ta_3_71) B13 (by rw [dg_length]; exact ⟨by kernel_rfl, by kernel_rfl⟩) (by simp [iws, dg_length])) (fun w_12 hR_9 => ?_)
     obtain ⟨hB_13, hX_7⟩ := hR_9
     replace hCl := hCl.keepX B13 (by decide) hX_7
     replace B8 := hX_7.blk B8 ne_10
     replace hB_10 := hX_7.blk hB_10 ne_4
     replace hB_11 := hX_7.blk hB_11 ne_5
     replace hB_12 := hX_7.blk hB_12 ne_6
     have HB_10 := hX_7.below HB_9 HB_9.size (fun k hk => hk ▸ ge_5)
     clear B13
     refine x_nil ?_
     exact hK_17 _ _ ⟨(by rw [putsR_size]; exact hs_3), (by rw [putsR_defers]; exact hd_3), ((pm rfl).trans ta_3_0), ((pm rfl).trans ta_3_1), ((pm rfl).trans ta_3_4), ((pm rfl).trans ta_3_5), ((pm rfl).trans ta_3_6), ((pm rfl).trans ta_3_7), ((pm rfl).trans ta_3_8), ((pm rfl).trans ta_3_9), ((pm rfl).trans ta_3_10), ((pm rfl).trans ta_3_11), ((pm rfl).trans ta_3_12), ((pm rfl).trans ta_3_13), ((pm rfl).trans ta_3_14), ((pm rfl).trans ta_3_15), ((pm rfl).trans ta_3_16), ((pm rfl).trans ta_3_31), ((pm rfl).trans ta_3_32), ((pm rfl).trans ta_3_33), ((pm rfl).trans ta_3_34), ((pm rfl).trans ta_3_35), ((pm rfl).trans ta_3_36), ((pm rfl).trans ta_3_37), ((pm rfl).trans ta_3_38), ((pm rfl).trans ta_3_39), ((pm rfl).trans ta_3_40), ((pm rfl).trans ta_3_41), ((pm rfl).trans ta_3_42), ((pm rfl).trans ta_3_43), ((pm rfl).trans ta_3_44), ((pm rfl).trans ta_3_45), ((pm rfl).trans ta_3_46), ((pm rfl).trans ta_3_47), ((pm rfl).trans ta_3_48), ((pm rfl).trans ta_3_49), ((pm rfl).trans ta_3_50), hCl, B8, (by rw [mS_ne hsw]; exact hB_10), (by rw [mS_ne hsw]; exact hB_11), (by rw [mS_ne hsw]; exact hB_12), (by rw [mS_ne hsw]; exact hB_13), HB_10⟩
    ·simp only [DD9] at h_2
     have hsw : kbit cl (254 - K) = lastb cl K := h_2
     refine w2_skip ?_
     exact hK_17 _ _ ⟨(by rw [putsR_size]; exact hs_2), (by rw [putsR_defers]; exact hd_2), ((pm rfl).trans ta_2_0), ((pm rfl).trans ta_2_1), ((pm rfl).trans ta_2_4), ((pm rfl).trans ta_2_5), ((pm rfl).trans ta_2_6), ((pm rfl).trans ta_2_7), ((pm rfl).trans ta_2_8), ((pm rfl).trans ta_2_9), ((pm rfl).trans ta_2_10), ((pm rfl).trans ta_2_11), ((pm rfl).trans ta_2_12), ((pm rfl).trans ta_2_13), ((pm rfl).trans ta_2_14), ((pm rfl).trans ta_2_15), (pe hs_2 rfl rfl), ((pm rfl).trans ta_2_31), ((pm rfl).trans ta_2_32), ((pm rfl).trans ta_2_33), ((pm rfl).trans ta_2_34), ((pm rfl).trans ta_2_35), ((pm rfl).trans ta_2_36), ((pm rfl).trans ta_2_37), ((pm rfl).trans ta_2_38), ((pm rfl).trans ta_2_39), ((pm rfl).trans ta_2_40), ((pm rfl).trans ta_2_41), ((pm rfl).trans ta_2_42), ((pm rfl).trans ta_2_43), ((pm rfl).trans ta_2_44), ((pm rfl).trans ta_2_45), ((pm rfl).trans ta_2_46), ((pm rfl).trans ta_2_47), ((pm rfl).trans ta_2_48), ((pm rfl).trans ta_2_49), ((pm rfl).trans ta_2_50), hCl, B8, (by rw [mS_eq hsw]; exact B10), (by rw [mS_eq hsw]; exact B11), (by rw [mS_eq hsw]; exact B12), (by rw [mS_eq hsw]; exact B13), HBL⟩
   ·skip
    clear ta_2_0 ta_2_1 ta_2_4 ta_2_5 ta_2_32 ta_2_33 ta_2_31 ta_2_34 ta_2_35 ta_2_6 ta_2_7 ta_2_37 ta_2_38 ta_2_36 ta_2_39 ta_2_40 ta_2_8 ta_2_9 ta_2_41 ta_2_42 ta_2_43 ta_2_44 ta_2_45 ta_2_46 ta_2_10 ta_2_11 ta_2_12 ta_2_13 ta_2_47 ta_2_48 ta_2_49 ta_2_50 ta_2_14 ta_2_15 hd_2 hCl B8 B10 B11 B12 B13 HBL
    rintro a_4 w_13 ⟨hs_4, hd_4, ta_4_0, ta_4_1, ta_4_4, ta_4_5, ta_4_6, ta_4_7, ta_4_8, ta_4_9, ta_4_10, ta_4_11, ta_4_12, ta_4_13, ta_4_14, ta_4_15, ta_4_16, ta_4_31, ta_4_32, ta_4_33, ta_4_34, ta_4_35, ta_4_36, ta_4_37, ta_4_38, ta_4_39, ta_4_40, ta_4_41, ta_4_42, ta_4_43, ta_4_44, ta_4_45, ta_4_46, ta_4_47, ta_4_48, ta_4_49, ta_4_50, hCl, B8, B10, B11, B12, B13, HBL⟩
    refine w2_sr (fun K_19 hK_19 => ?_)
    refine q_mv ((pm rfl).trans ta_4_16) ?_
    refine q_at (pe hs_4 rfl rfl) ?_
    refine x_nil (hK_19 _ _ ?_)
    refine w2_seq (fun K_20 hK_20 => ?_)
    refine x_drawnA 8 [fun _ v => v = .agg (iws .u64 (dg (mS cl u K).1)).toArray, fun _ v => v = .agg (iws .u64 (dg (mS cl u K).2.1)).toArray, fun _ v => v = .agg (iws .u64 (dg ((mS cl u K).1 + (mS cl u K).2.1))).toArray, fun _ v => v = .agg (iws .u64 (dg (mS cl u K).1)).toArray, fun _ v => v = .agg (iws .u64 (dg (mS cl u K).2.1)).toArray, fun _ v => v = .agg (iws .u64 (dg ((mS cl u K).1 - (mS cl u K).2.1))).toArray, fun _ _ => True, fun _ _ => True] [⟨6, 906, (iws .u64 (List.replicate 16 0)).toArray, (iws .u64 (List.replicate 16 0)).toArray, 32⟩, ⟨7, 907, (iws .u64 (List.replicate 16 0)).toArray, (iws .u64 (List.replicate 16 0)).toArray, 32⟩] [73, 74, 75, 76, 77, 78, 17, 18] hs_4 hd_4 (by kernel_rfl) (by kernel_rfl) (by kernel_rfl) (by kernel_rfl) (by kernel_rfl) (by intro e he; simp only [List.mem_cons, List.not_mem_nil, or_false] at he; rcases he with rfl | rfl <;> first | exact ⟨by dsimp only; omega, .inl (by dsimp only; omega)⟩ | exact ⟨by dsimp only; omega, .inr rfl⟩) (fun i w w' v h => AllLit.nth (l := [fun _ v => v = .agg (iws .u64 (dg (mS cl u K).1)).toArray, fun _ v => v = .agg (iws .u64 (dg (mS cl u K).2.1)).toArray, fun _ v => v = .agg (iws .u64 (dg ((mS cl u K).1 + (mS cl u K).2.1))).toArray, fun _ v => v = .agg (iws .u64 (dg (mS cl u K).1)).toArray, fun _ v => v = .agg (iws .u64 (dg (mS cl u K).2.1)).toArray, fun _ v => v = .agg (iws .u64 (dg ((mS cl u K).1 - (mS cl u K).2.1))).toArray, fun _ _ => True, fun _ _ => True]) ⟨litL, litL, litL, litL, litL, litL, litL, litL, trivial⟩ i w w' v h) ⟨(by exact ⟨rfl, .inl ⟨fun a' w' hb' hO hD => by
      have d_10 := (hO 10 (by decide)).trans ((pm rfl).trans ta_4_10)
      exact .inl ⟨_, _, (o_loadI rfl d_10 (B10.nx hb') (by rw [dg_length]; exact ⟨by kernel_rfl, by kernel_rfl⟩)), rfl, Below.refl _ _⟩, (by intro e he; simp only [List.mem_cons, List.not_mem_nil, or_false] at he; rcases he with rfl | rfl <;> exact ⟨by dsimp only; omega, by dsimp only; omega⟩), rfl⟩⟩),
(by exact ⟨rfl, .inl ⟨fun a' w' hb' hO hD => by
      have d_11 := (hO 11 (by decide)).trans ((pm rfl).trans ta_4_11)
      exact .inl ⟨_, _, (o_loadI rfl d_11 (B11.nx hb') (by rw [dg_length]; exact ⟨by kernel_rfl, by kernel_rfl⟩)), rfl, Below.refl _ _⟩, (by intro e he; simp only [List.mem_cons, List.not_mem_nil, or_false] at he; rcases he with rfl | rfl <;> exact ⟨by dsimp only; omega, by dsimp only; omega⟩), rfl⟩⟩),
(by exact ⟨rfl, .inl ⟨fun a' w' hb' hO hD => by
      have d_12 : a'.eval (.tmp 73) = .agg (iws .u64 (dg (mS cl u K).1)).toArray := hD 0 73 (by kernel_rfl) rfl
      have d_13 : a'.eval (.tmp 74) = .agg (iws .u64 (dg (mS cl u K).2.1)).toArray := hD 1 74 (by kernel_rfl) rfl
      exact .inr ⟨_, #[.agg (iws .u64 (dg (mS cl u K).1)).toArray, .agg (iws .u64 (dg (mS cl u K).2.1)).toArray], (exec_call Try.func13 (by kernel_rfl) (by kernel_rfl) _ rfl _ _ (args2 d_12 d_13)), Calls.mono (AddNum_any _) (fun e w'' hR => by obtain ⟨rfl, hb_9⟩ := hR; exact ⟨_, rfl, rfl, hb_9⟩)⟩, (by intro e he; simp only [List.mem_cons, List.not_mem_nil, or_false] at he; rcases he with rfl | rfl <;> exact ⟨by dsimp only; omega, by dsimp only; omega⟩), rfl⟩⟩),
(by exact ⟨rfl, .inl ⟨fun a' w' hb' hO hD => by
      have d_14 := (hO 10 (by decide)).trans ((pm rfl).trans ta_4_10)
      exact .inl ⟨_, _, (o_loadI rfl d_14 (B10.nx hb') (by rw [dg_length]; exact ⟨by kernel_rfl, by kernel_rfl⟩)), rfl, Below.refl _ _⟩, (by intro e he; simp only [List.mem_cons, List.not_mem_nil, or_false] at he; rcases he with rfl | rfl <;> exact ⟨by dsimp only; omega, by dsimp only; omega⟩), rfl⟩⟩),
(by exact ⟨rfl, .inl ⟨fun a' w' hb' hO hD => by
      have d_15 := (hO 11 (by decide)).trans ((pm rfl).trans ta_4_11)
      exact .inl ⟨_, _, (o_loadI rfl d_15 (B11.nx hb') (by rw [dg_length]; exact ⟨by kernel_rfl, by kernel_rfl⟩)), rfl, Below.refl _ _⟩, (by intro e he; simp only [List.mem_cons, List.not_mem_nil, or_false] at he; rcases he with rfl | rfl <;> exact ⟨by dsimp only; omega, by dsimp only; omega⟩), rfl⟩⟩),
(by exact ⟨rfl, .inl ⟨fun a' w' hb' hO hD => by
      have d_16 : a'.eval (.tmp 76) = .agg (iws .u64 (dg (mS cl u K).1)).toArray := hD 3 76 (by kernel_rfl) rfl
      have d_17 : a'.eval (.tmp 77) = .agg (iws .u64 (dg (mS cl u K).2.1)).toArray := hD 4 77 (by kernel_rfl) rfl
      exact .inr ⟨_, #[.agg (iws .u64 (dg (mS cl u K).1)).toArray, .agg (iws .u64 (dg (mS cl u K).2.1)).toArray], (exec_call Try.func15 (by kernel_rfl) (by kernel_rfl) _ rfl _ _ (args2 d_16 d_17)), Calls.mono (SubNum_any _) (fun e w'' hR => by obtain ⟨rfl, hb_10⟩ := hR; exact ⟨_, rfl, rfl, hb_10⟩)⟩, (by intro e he; simp only [List.mem_cons, List.not_mem_nil, or_false] at he; rcases he with rfl | rfl <;> exact ⟨by dsimp only; omega, by dsimp only; omega⟩), rfl⟩⟩),
(by exact ⟨rfl, .inr (.inl ⟨_, (.head _), rfl, rfl, fun _ _ => trivial, (by intro e he; simp only [List.mem_cons, List.not_mem_nil, or_false] at he; rcases he with rfl | rfl <;> exact ⟨by dsimp only; omega, fun h => by first | (exfalso; dsimp only at h; omega) | rfl⟩), fun a' w' hb' => o_alloc (zs := (iws .u64 (List.replicate 16 0)).toArray) rfl (fun _ => by kernel_rfl)⟩)⟩),
(by exact ⟨rfl, .inr (.inl ⟨_, (.tail _ (.head _)), rfl, rfl, fun _ _ => trivial, (by intro e he; simp only [List.mem_cons, List.not_mem_nil, or_false] at he; rcases he with rfl | rfl <;> exact ⟨by dsimp only; omega, fun h => by first | (exfalso; dsimp only at h; omega) | rfl⟩), fun a' w' hb' => o_alloc (zs := (iws .u64 (List.replicate 16 0)).toArray) rfl (fun _ => by kernel_rfl)⟩)⟩), trivial⟩ (fun a_5 w_14 gf_2 hs_5 hd_5 hb_11 hO_3 hV_3 hN_2 hG_2 => ?_)
    have ta_5_4 := (hO_3 4 (by decide)).trans ((pm rfl).trans ta_4_4)
    have ta_5_5 := (hO_3 5 (by decide)).trans ((pm rfl).trans ta_4_5)
    have ta_5_8 := (hO_3 8 (by decide)).trans ((pm rfl).trans ta_4_8)
    have ta_5_10 := (hO_3 10 (by decide)).trans ((pm rfl).trans ta_4_10)
    have ta_5_11 := (hO_3 11 (by decide)).trans ((pm rfl).trans ta_4_11)
    have ta_5_12 := (hO_3 12 (by decide)).trans ((pm rfl).trans ta_4_12)
    have ta_5_13 := (hO_3 13 (by decide)).trans ((pm rfl).trans ta_4_13)
    have ta_5_16 := (hO_3 16 (by decide)).trans ((pm rfl).trans ta_4_16)
    have ta_5_0 := (hO_3 0 (by decide)).trans ((pm rfl).trans ta_4_0)
    have ta_5_1 := (hO_3 1 (by decide)).trans ((pm rfl).trans ta_4_1)
    have ta_5_32 := (hO_3 32 (by decide)).trans ((pm rfl).trans ta_4_32)
    have ta_5_33 := (hO_3 33 (by decide)).trans ((pm rfl).trans ta_4_33)
    have ta_5_31 := (hO_3 31 (by decide)).trans ((pm rfl).trans ta_4_31)
    have ta_5_34 := (hO_3 34 (by decide)).trans ((pm rfl).trans ta_4_34)
    have ta_5_35 := (hO_3 35 (by decide)).trans ((pm rfl).trans ta_4_35)
    have ta_5_6 := (hO_3 6 (by decide)).trans ((pm rfl).trans ta_4_6)
    have ta_5_7 := (hO_3 7 (by decide)).trans ((pm rfl).trans ta_4_7)
    have ta_5_37 := (hO_3 37 (by decide)).trans ((pm rfl).trans ta_4_37)
    have ta_5_38 := (hO_3 38 (by decide)).trans ((pm rfl).trans ta_4_38)
    have ta_5_36 := (hO_3 36 (by decide)).trans ((pm rfl).trans ta_4_36)
    have ta_5_39 := (hO_3 39 (by decide)).trans ((pm rfl).trans ta_4_39)
    have ta_5_40 := (hO_3 40 (by decide)).trans ((pm rfl).trans ta_4_40)
    have ta_5_9 := (hO_3 9 (by decide)).trans ((pm rfl).trans ta_4_9)
    have ta_5_41 := (hO_3 41 (by decide)).trans ((pm rfl).trans ta_4_41)
    have ta_5_42 := (hO_3 42 (by decide)).trans ((pm rfl).trans ta_4_42)
    have ta_5_43 := (hO_3 43 (by decide)).trans ((pm rfl).trans ta_4_43)
    have ta_5_44 := (hO_3 44 (by decide)).trans ((pm rfl).trans ta_4_44)
    have ta_5_45 := (hO_3 45 (by decide)).trans ((pm rfl).trans ta_4_45)
    have ta_5_46 := (hO_3 46 (by decide)).trans ((pm rfl).trans ta_4_46)
    have ta_5_47 := (hO_3 47 (by decide)).trans ((pm rfl).trans ta_4_47)
    have ta_5_48 := (hO_3 48 (by decide)).trans ((pm rfl).trans ta_4_48)
    have ta_5_49 := (hO_3 49 (by decide)).trans ((pm rfl).trans ta_4_49)
    have ta_5_50 := (hO_3 50 (by decide)).trans ((pm rfl).trans ta_4_50)
    have ta_5_14 : a_5.eval (.tmp 14) = .int .u8 ((kbit cl (254 - K) : Nat) : Int) := (hO_3 14 (by decide)).trans (pe hs_4 rfl rfl)
    have ta_5_15 := (hO_3 15 (by decide)).trans ((pm rfl).trans ta_4_15)
    have ta_5_72 : a_5.eval (.tmp 72) = .int .u8 ((kbit cl (254 - K) : Nat) : Int) := (hO_3 72 (by decide)).trans (pe hs_4 rfl rfl)
    clear ta_4_4 ta_4_5 ta_4_8 ta_4_10 ta_4_11 ta_4_12 ta_4_13 ta_4_16 ta_4_0 ta_4_1 ta_4_32 ta_4_33 ta_4_31 ta_4_34 ta_4_35 ta_4_6 ta_4_7 ta_4_37 ta_4_38 ta_4_36 ta_4_39 ta_4_40 ta_4_9 ta_4_41 ta_4_42 ta_4_43 ta_4_44 ta_4_45 ta_4_46 ta_4_47 ta_4_48 ta_4_49 ta_4_50 ta_4_14 ta_4_15 hd_4
    obtain ⟨ta_5_17, hle_6, hB_14⟩ := hN_2 0 _ rfl _ rfl
    obtain ⟨ta_5_18, hle_7, hB_15⟩ := hN_2 1 _ rfl _ rfl
    have ne_11 : gf_2 6 ≠ gf_2 7 := hG_2 0 1 _ _ rfl rfl (by dsimp only; omega)
    clear hN_2 hG_2
    dsimp only at ta_5_17 hle_6 hB_14 ta_5_18 hle_7 hB_15
    generalize gf_2 6 = g_6 at *
    generalize gf_2 7 = g_7 at *
    have ne_12 : g_1 ≠ g_6 := Nat.ne_of_lt (Nat.lt_of_lt_of_le B8.lt hle_6)
    have ne_13 : g_2 ≠ g_6 := Nat.ne_of_lt (Nat.lt_of_lt_of_le B10.lt hle_6)
    have ne_14 : g_3 ≠ g_6 := Nat.ne_of_lt (Nat.lt_of_lt_of_le B11.lt hle_6)
    have ne_15 : g_4 ≠ g_6 := Nat.ne_of_lt (Nat.lt_of_lt_of_le B12.lt hle_6)
    have ne_16 : g_5 ≠ g_6 := Nat.ne_of_lt (Nat.lt_of_lt_of_le B13.lt hle_6)
    have ge_6 : w.heap.size ≤ g_6 := Nat.le_trans HBL.size hle_6
    have ne_17 : g_1 ≠ g_7 := Nat.ne_of_lt (Nat.lt_of_lt_of_le B8.lt hle_7)
    have ne_18 : g_2 ≠ g_7 := Nat.ne_of_lt (Nat.lt_of_lt_of_le B10.lt hle_7)
    have ne_19 : g_3 ≠ g_7 := Nat.ne_of_lt (Nat.lt_of_lt_of_le B11.lt hle_7)
    have ne_20 : g_4 ≠ g_7 := Nat.ne_of_lt (Nat.lt_of_lt_of_le B12.lt hle_7)
    have ne_21 : g_5 ≠ g_7 := Nat.ne_of_lt (Nat.lt_of_lt_of_le B13.lt hle_7)
    have ge_7 : w.heap.size ≤ g_7 := Nat.le_trans HBL.size hle_7
    replace hCl := hCl.nx hb_11
    replace B8 := B8.nx hb_11
    replace B10 := B10.nx hb_11
    replace B11 := B11.nx hb_11
    replace B12 := B12.nx hb_11
    replace B13 := B13.nx hb_11
    have HB_11 := below_from HBL hb_11
    have ta_5_73 : a_5.eval (.tmp 73) = .agg (iws .u64 (dg (mS cl u K).1)).toArray := hV_3 0 73 rfl rfl
    have ta_5_74 : a_5.eval (.tmp 74) = .agg (iws .u64 (dg (mS cl u K).2.1)).toArray := hV_3 1 74 rfl rfl
    have ta_5_75 : a_5.eval (.tmp 75) = .agg (iws .u64 (dg ((mS cl u K).1 + (mS cl u K).2.1))).toArray := hV_3 2 75 rfl rfl
    have ta_5_76 : a_5.eval (.tmp 76) = .agg (iws .u64 (dg (mS cl u K).1)).toArray := hV_3 3 76 rfl rfl
    have ta_5_77 : a_5.eval (.tmp 77) = .agg (iws .u64 (dg (mS cl u K).2.1)).toArray := hV_3 4 77 rfl rfl
    have ta_5_78 : a_5.eval (.tmp 78) = .agg (iws .u64 (dg ((mS cl u K).1 - (mS cl u K).2.1))).toArray := hV_3 5 78 rfl rfl
    clear hV_3 hO_3
    simp only [List.drop_succ_cons, List.drop_zero]
    refine op_do rfl rfl (o_storeI rfl ((pm rfl).trans ta_5_17) ((pm rfl).trans ta_5_75) hB_14 (by rw [dg_length]; exact ⟨by kernel_rfl, by kernel_rfl⟩) (by simp [iws, dg_length])) (fun w_15 hR_10 => ?_)
    obtain ⟨hB_16, hX_8⟩ := hR_10
    replace hCl := hCl.keepX hB_14 (by decide) hX_8
    replace B8 := hX_8.blk B8 ne_12
    replace B10 := hX_8.blk B10 ne_13
    replace B11 := hX_8.blk B11 ne_14
    replace B12 := hX_8.blk B12 ne_15
    replace B13 := hX_8.blk B13 ne_16
    replace hB_15 := hX_8.blk hB_15 (Ne.symm ne_11)
    have HB_12 := hX_8.below HB_11 HB_11.size (fun k hk => hk ▸ ge_6)
    clear hB_14
    refine op_do rfl rfl (o_storeI rfl ((pm rfl).trans ta_5_18) ((pm rfl).trans ta_5_78) hB_15 (by rw [dg_length]; exact ⟨by kernel_rfl, by kernel_rfl⟩) (by simp [iws, dg_length])) (fun w_16 hR_11 => ?_)
    obtain ⟨hB_17, hX_9⟩ := hR_11
    replace hCl := hCl.keepX hB_15 (by decide) hX_9
    replace B8 := hX_9.blk B8 ne_17
    replace B10 := hX_9.blk B10 ne_18
    replace B11 := hX_9.blk B11 ne_19
    replace B12 := hX_9.blk B12 ne_20
    replace B13 := hX_9.blk B13 ne_21
    replace hB_16 := hX_9.blk hB_16 ne_11
    have HB_13 := hX_9.below HB_12 HB_12.size (fun k hk => hk ▸ ge_7)
    clear hB_15
    refine x_nil (hK_20 _ _ ?_)
    refine w2_seq (fun K_21 hK_21 => ?_)
    refine x_drawnA 8 [fun _ v => v = .agg (iws .u64 (dg (mS cl u K).2.2.1)).toArray, fun _ v => v = .agg (iws .u64 (dg (mS cl u K).2.2.2)).toArray, fun _ v => v = .agg (iws .u64 (dg ((mS cl u K).2.2.1 + (mS cl u K).2.2.2))).toArray, fun _ v => v = .agg (iws .u64 (dg (mS cl u K).2.2.1)).toArray, fun _ v => v = .agg (iws .u64 (dg (mS cl u K).2.2.2)).toArray, fun _ v => v = .agg (iws .u64 (dg ((mS cl u K).2.2.1 - (mS cl u K).2.2.2))).toArray, fun _ _ => True, fun _ _ => True] [⟨6, 906, (iws .u64 (List.replicate 16 0)).toArray, (iws .u64 (List.replicate 16 0)).toArray, 32⟩, ⟨7, 907, (iws .u64 (List.replicate 16 0)).toArray, (iws .u64 (List.replicate 16 0)).toArray, 32⟩] [79, 80, 81, 82, 83, 84, 19, 20] hs_5 hd_5 (by kernel_rfl) (by kernel_rfl) (by kernel_rfl) (by kernel_rfl) (by kernel_rfl) (by intro e he; simp only [List.mem_cons, List.not_mem_nil, or_false] at he; rcases he with rfl | rfl <;> first | exact ⟨by dsimp only; omega, .inl (by dsimp only; omega)⟩ | exact ⟨by dsimp only; omega, .inr rfl⟩) (fun i w w' v h => AllLit.nth (l := [fun _ v => v = .agg (iws .u64 (dg (mS cl u K).2.2.1)).toArray, fun _ v => v = .agg (iws .u64 (dg (mS cl u K).2.2.2)).toArray, fun _ v => v = .agg (iws .u64 (dg ((mS cl u K).2.2.1 + (mS cl u K).2.2.2))).toArray, fun _ v => v = .agg (iws .u64 (dg (mS cl u K).2.2.1)).toArray, fun _ v => v = .agg (iws .u64 (dg (mS cl u K).2.2.2)).toArray, fun _ v => v = .agg (iws .u64 (dg ((mS cl u K).2.2.1 - (mS cl u K).2.2.2))).toArray, fun _ _ => True, fun _ _ => True]) ⟨litL, litL, litL, litL, litL, litL, litL, litL, trivial⟩ i w w' v h) ⟨(by exact ⟨rfl, .inl ⟨fun a' w' hb' hO hD => by
      have d_18 := (hO 12 (by decide)).trans ((pm rfl).trans ta_5_12)
      exact .inl ⟨_, _, (o_loadI rfl d_18 (B12.nx hb') (by rw [dg_length]; exact ⟨by kernel_rfl, by kernel_rfl⟩)), rfl, Below.refl _ _⟩, (by intro e he; simp only [List.mem_cons, List.not_mem_nil, or_false] at he; rcases he with rfl | rfl <;> exact ⟨by dsimp only; omega, by dsimp only; omega⟩), rfl⟩⟩),
(by exact ⟨rfl, .inl ⟨fun a' w' hb' hO hD => by
      have d_19 := (hO 13 (by decide)).trans ((pm rfl).trans ta_5_13)
      exact .inl ⟨_, _, (o_loadI rfl d_19 (B13.nx hb') (by rw [dg_length]; exact ⟨by kernel_rfl, by kernel_rfl⟩)), rfl, Below.refl _ _⟩, (by intro e he; simp only [List.mem_cons, List.not_mem_nil, or_false] at he; rcases he with rfl | rfl <;> exact ⟨by dsimp only; omega, by dsimp only; omega⟩), rfl⟩⟩),
(by exact ⟨rfl, .inl ⟨fun a' w' hb' hO hD => by
      have d_20 : a'.eval (.tmp 79) = .agg (iws .u64 (dg (mS cl u K).2.2.1)).toArray := hD 0 79 (by kernel_rfl) rfl
      have d_21 : a'.eval (.tmp 80) = .agg (iws .u64 (dg (mS cl u K).2.2.2)).toArray := hD 1 80 (by kernel_rfl) rfl
      exact .inr ⟨_, #[.agg (iws .u64 (dg (mS cl u K).2.2.1)).toArray, .agg (iws .u64 (dg (mS cl u K).2.2.2)).toArray], (exec_call Try.func13 (by kernel_rfl) (by kernel_rfl) _ rfl _ _ (args2 d_20 d_21)), Calls.mono (AddNum_any _) (fun e w'' hR => by obtain ⟨rfl, hb_12⟩ := hR; exact ⟨_, rfl, rfl, hb_12⟩)⟩, (by intro e he; simp only [List.mem_cons, List.not_mem_nil, or_false] at he; rcases he with rfl | rfl <;> exact ⟨by dsimp only; omega, by dsimp only; omega⟩), rfl⟩⟩),
(by exact ⟨rfl, .inl ⟨fun a' w' hb' hO hD => by
      have d_22 := (hO 12 (by decide)).trans ((pm rfl).trans ta_5_12)
      exact .inl ⟨_, _, (o_loadI rfl d_22 (B12.nx hb') (by rw [dg_length]; exact ⟨by kernel_rfl, by kernel_rfl⟩)), rfl, Below.refl _ _⟩, (by intro e he; simp only [List.mem_cons, List.not_mem_nil, or_false] at he; rcases he with rfl | rfl <;> exact ⟨by dsimp only; omega, by dsimp only; omega⟩), rfl⟩⟩),
(by exact ⟨rfl, .inl ⟨fun a' w' hb' hO hD => by
      have d_23 := (hO 13 (by decide)).trans ((pm rfl).trans ta_5_13)
      exact .inl ⟨_, _, (o_loadI rfl d_23 (B13.nx hb') (by rw [dg_length]; exact ⟨by kernel_rfl, by kernel_rfl⟩)), rfl, Below.refl _ _⟩, (by intro e he; simp only [List.mem_cons, List.not_mem_nil, or_false] at he; rcases he with rfl | rfl <;> exact ⟨by dsimp only; omega, by dsimp only; omega⟩), rfl⟩⟩),
(by exact ⟨rfl, .inl ⟨fun a' w' hb' hO hD => by
      have d_24 : a'.eval (.tmp 82) = .agg (iws .u64 (dg (mS cl u K).2.2.1)).toArray := hD 3 82 (by kernel_rfl) rfl
      have d_25 : a'.eval (.tmp 83) = .agg (iws .u64 (dg (mS cl u K).2.2.2)).toArray := hD 4 83 (by kernel_rfl) rfl
      exact .inr ⟨_, #[.agg (iws .u64 (dg (mS cl u K).2.2.1)).toArray, .agg (iws .u64 (dg (mS cl u K).2.2.2)).toArray], (exec_call Try.func15 (by kernel_rfl) (by kernel_rfl) _ rfl _ _ (args2 d_24 d_25)), Calls.mono (SubNum_any _) (fun e w'' hR => by obtain ⟨rfl, hb_13⟩ := hR; exact ⟨_, rfl, rfl, hb_13⟩)⟩, (by intro e he; simp only [List.mem_cons, List.not_mem_nil, or_false] at he; rcases he with rfl | rfl <;> exact ⟨by dsimp only; omega, by dsimp only; omega⟩), rfl⟩⟩),
(by exact ⟨rfl, .inr (.inl ⟨_, (.head _), rfl, rfl, fun _ _ => trivial, (by intro e he; simp only [List.mem_cons, List.not_mem_nil, or_false] at he; rcases he with rfl | rfl <;> exact ⟨by dsimp only; omega, fun h => by first | (exfalso; dsimp only at h; omega) | rfl⟩), fun a' w' hb' => o_alloc (zs := (iws .u64 (List.replicate 16 0)).toArray) rfl (fun _ => by kernel_rfl)⟩)⟩),
(by exact ⟨rfl, .inr (.inl ⟨_, (.tail _ (.head _)), rfl, rfl, fun _ _ => trivial, (by intro e he; simp only [List.mem_cons, List.not_mem_nil, or_false] at he; rcases he with rfl | rfl <;> exact ⟨by dsimp only; omega, fun h => by first | (exfalso; dsimp only at h; omega) | rfl⟩), fun a' w' hb' => o_alloc (zs := (iws .u64 (List.replicate 16 0)).toArray) rfl (fun _ => by kernel_rfl)⟩)⟩), trivial⟩ (fun a_6 w_17 gf_3 hs_6 hd_6 hb_14 hO_4 hV_4 hN_3 hG_3 => ?_)
    have ta_6_4 := (hO_4 4 (by decide)).trans ((pm rfl).trans ta_5_4)
    have ta_6_5 := (hO_4 5 (by decide)).trans ((pm rfl).trans ta_5_5)
    have ta_6_8 := (hO_4 8 (by decide)).trans ((pm rfl).trans ta_5_8)
    have ta_6_10 := (hO_4 10 (by decide)).trans ((pm rfl).trans ta_5_10)
    have ta_6_11 := (hO_4 11 (by decide)).trans ((pm rfl).trans ta_5_11)
    have ta_6_12 := (hO_4 12 (by decide)).trans ((pm rfl).trans ta_5_12)
    have ta_6_13 := (hO_4 13 (by decide)).trans ((pm rfl).trans ta_5_13)
    have ta_6_16 := (hO_4 16 (by decide)).trans ((pm rfl).trans ta_5_16)
    have ta_6_0 := (hO_4 0 (by decide)).trans ((pm rfl).trans ta_5_0)
    have ta_6_1 := (hO_4 1 (by decide)).trans ((pm rfl).trans ta_5_1)
    have ta_6_32 := (hO_4 32 (by decide)).trans ((pm rfl).trans ta_5_32)
    have ta_6_33 := (hO_4 33 (by decide)).trans ((pm rfl).trans ta_5_33)
    have ta_6_31 := (hO_4 31 (by decide)).trans ((pm rfl).trans ta_5_31)
    have ta_6_34 := (hO_4 34 (by decide)).trans ((pm rfl).trans ta_5_34)
    have ta_6_35 := (hO_4 35 (by decide)).trans ((pm rfl).trans ta_5_35)
    have ta_6_6 := (hO_4 6 (by decide)).trans ((pm rfl).trans ta_5_6)
    have ta_6_7 := (hO_4 7 (by decide)).trans ((pm rfl).trans ta_5_7)
    have ta_6_37 := (hO_4 37 (by decide)).trans ((pm rfl).trans ta_5_37)
    have ta_6_38 := (hO_4 38 (by decide)).trans ((pm rfl).trans ta_5_38)
    have ta_6_36 := (hO_4 36 (by decide)).trans ((pm rfl).trans ta_5_36)
    have ta_6_39 := (hO_4 39 (by decide)).trans ((pm rfl).trans ta_5_39)
    have ta_6_40 := (hO_4 40 (by decide)).trans ((pm rfl).trans ta_5_40)
    have ta_6_9 := (hO_4 9 (by decide)).trans ((pm rfl).trans ta_5_9)
    have ta_6_41 := (hO_4 41 (by decide)).trans ((pm rfl).trans ta_5_41)
    have ta_6_42 := (hO_4 42 (by decide)).trans ((pm rfl).trans ta_5_42)
    have ta_6_43 := (hO_4 43 (by decide)).trans ((pm rfl).trans ta_5_43)
    have ta_6_44 := (hO_4 44 (by decide)).trans ((pm rfl).trans ta_5_44)
    have ta_6_45 := (hO_4 45 (by decide)).trans ((pm rfl).trans ta_5_45)
    have ta_6_46 := (hO_4 46 (by decide)).trans ((pm rfl).trans ta_5_46)
    have ta_6_47 := (hO_4 47 (by decide)).trans ((pm rfl).trans ta_5_47)
    have ta_6_48 := (hO_4 48 (by decide)).trans ((pm rfl).trans ta_5_48)
    have ta_6_49 := (hO_4 49 (by decide)).trans ((pm rfl).trans ta_5_49)
    have ta_6_50 := (hO_4 50 (by decide)).trans ((pm rfl).trans ta_5_50)
    have ta_6_14 := (hO_4 14 (by decide)).trans ((pm rfl).trans ta_5_14)
    have ta_6_15 := (hO_4 15 (by decide)).trans ((pm rfl).trans ta_5_15)
    have ta_6_72 := (hO_4 72 (by decide)).trans ((pm rfl).trans ta_5_72)
    have ta_6_17 := (hO_4 17 (by decide)).trans ((pm rfl).trans ta_5_17)
    have ta_6_18 := (hO_4 18 (by decide)).trans ((pm rfl).trans ta_5_18)
    have ta_6_73 := (hO_4 73 (by decide)).trans ((pm rfl).trans ta_5_73)
    have ta_6_74 := (hO_4 74 (by decide)).trans ((pm rfl).trans ta_5_74)
    have ta_6_75 := (hO_4 75 (by decide)).trans ((pm rfl).trans ta_5_75)
    have ta_6_76 := (hO_4 76 (by decide)).trans ((pm rfl).trans ta_5_76)
    have ta_6_77 := (hO_4 77 (by decide)).trans ((pm rfl).trans ta_5_77)
    have ta_6_78 := (hO_4 78 (by decide)).trans ((pm rfl).trans ta_5_78)
    clear ta_5_4 ta_5_5 ta_5_8 ta_5_10 ta_5_11 ta_5_12 ta_5_13 ta_5_16 ta_5_0 ta_5_1 ta_5_32 ta_5_33 ta_5_31 ta_5_34 ta_5_35 ta_5_6 ta_5_7 ta_5_37 ta_5_38 ta_5_36 ta_5_39 ta_5_40 ta_5_9 ta_5_41 ta_5_42 ta_5_43 ta_5_44 ta_5_45 ta_5_46 ta_5_47 ta_5_48 ta_5_49 ta_5_50 ta_5_14 ta_5_15 ta_5_72 ta_5_17 ta_5_18 ta_5_73 ta_5_74 ta_5_75 ta_5_76 ta_5_77 ta_5_78 hd_5
    obtain ⟨ta_6_19, hle_8, hB_18⟩ := hN_3 0 _ rfl _ rfl
    obtain ⟨ta_6_20, hle_9, hB_19⟩ := hN_3 1 _ rfl _ rfl
    have ne_22 : gf_3 6 ≠ gf_3 7 := hG_3 0 1 _ _ rfl rfl (by dsimp only; omega)
    clear hN_3 hG_3
    dsimp only at ta_6_19 hle_8 hB_18 ta_6_20 hle_9 hB_19
    generalize gf_3 6 = g_8 at *
    generalize gf_3 7 = g_9 at *
    have ne_23 : g_1 ≠ g_8 := Nat.ne_of_lt (Nat.lt_of_lt_of_le B8.lt hle_8)
    have ne_24 : g_2 ≠ g_8 := Nat.ne_of_lt (Nat.lt_of_lt_of_le B10.lt hle_8)
    have ne_25 : g_3 ≠ g_8 := Nat.ne_of_lt (Nat.lt_of_lt_of_le B11.lt hle_8)
    have ne_26 : g_4 ≠ g_8 := Nat.ne_of_lt (Nat.lt_of_lt_of_le B12.lt hle_8)
    have ne_27 : g_5 ≠ g_8 := Nat.ne_of_lt (Nat.lt_of_lt_of_le B13.lt hle_8)
    have ne_28 : g_6 ≠ g_8 := Nat.ne_of_lt (Nat.lt_of_lt_of_le hB_16.lt hle_8)
    have ne_29 : g_7 ≠ g_8 := Nat.ne_of_lt (Nat.lt_of_lt_of_le hB_17.lt hle_8)
    have ge_8 : w.heap.size ≤ g_8 := Nat.le_trans HB_13.size hle_8
    have ne_30 : g_1 ≠ g_9 := Nat.ne_of_lt (Nat.lt_of_lt_of_le B8.lt hle_9)
    have ne_31 : g_2 ≠ g_9 := Nat.ne_of_lt (Nat.lt_of_lt_of_le B10.lt hle_9)
    have ne_32 : g_3 ≠ g_9 := Nat.ne_of_lt (Nat.lt_of_lt_of_le B11.lt hle_9)
    have ne_33 : g_4 ≠ g_9 := Nat.ne_of_lt (Nat.lt_of_lt_of_le B12.lt hle_9)
    have ne_34 : g_5 ≠ g_9 := Nat.ne_of_lt (Nat.lt_of_lt_of_le B13.lt hle_9)
    have ne_35 : g_6 ≠ g_9 := Nat.ne_of_lt (Nat.lt_of_lt_of_le hB_16.lt hle_9)
    have ne_36 : g_7 ≠ g_9 := Nat.ne_of_lt (Nat.lt_of_lt_of_le hB_17.lt hle_9)
    have ge_9 : w.heap.size ≤ g_9 := Nat.le_trans HB_13.size hle_9
    replace hCl := hCl.nx hb_14
    replace B8 := B8.nx hb_14
    replace B10 := B10.nx hb_14
    replace B11 := B11.nx hb_14
    replace B12 := B12.nx hb_14
    replace B13 := B13.nx hb_14
    replace hB_16 := hB_16.nx hb_14
    replace hB_17 := hB_17.nx hb_14
    have HB_14 := below_from HB_13 hb_14
    have ta_6_79 : a_6.eval (.tmp 79) = .agg (iws .u64 (dg (mS cl u K).2.2.1)).toArray := hV_4 0 79 rfl rfl
    have ta_6_80 : a_6.eval (.tmp 80) = .agg (iws .u64 (dg (mS cl u K).2.2.2)).toArray := hV_4 1 80 rfl rfl
    have ta_6_81 : a_6.eval (.tmp 81) = .agg (iws .u64 (dg ((mS cl u K).2.2.1 + (mS cl u K).2.2.2))).toArray := hV_4 2 81 rfl rfl
    have ta_6_82 : a_6.eval (.tmp 82) = .agg (iws .u64 (dg (mS cl u K).2.2.1)).toArray := hV_4 3 82 rfl rfl
    have ta_6_83 : a_6.eval (.tmp 83) = .agg (iws .u64 (dg (mS cl u K).2.2.2)).toArray := hV_4 4 83 rfl rfl
    have ta_6_84 : a_6.eval (.tmp 84) = .agg (iws .u64 (dg ((mS cl u K).2.2.1 - (mS cl u K).2.2.2))).toArray := hV_4 5 84 rfl rfl
    clear hV_4 hO_4
    simp only [List.drop_succ_cons, List.drop_zero]
    refine op_do rfl rfl (o_storeI rfl ((pm rfl).trans ta_6_19) ((pm rfl).trans ta_6_81) hB_18 (by rw [dg_length]; exact ⟨by kernel_rfl, by kernel_rfl⟩) (by simp [iws, dg_length])) (fun w_18 hR_12 => ?_)
    obtain ⟨hB_20, hX_10⟩ := hR_12
    replace hCl := hCl.keepX hB_18 (by decide) hX_10
    replace B8 := hX_10.blk B8 ne_23
    replace B10 := hX_10.blk B10 ne_24
    replace B11 := hX_10.blk B11 ne_25
    replace B12 := hX_10.blk B12 ne_26
    replace B13 := hX_10.blk B13 ne_27
    replace hB_16 := hX_10.blk hB_16 ne_28
    replace hB_17 := hX_10.blk hB_17 ne_29
    replace hB_19 := hX_10.blk hB_19 (Ne.symm ne_22)
    have HB_15 := hX_10.below HB_14 HB_14.size (fun k hk => hk ▸ ge_8)
    clear hB_18
    refine op_do rfl rfl (o_storeI rfl ((pm rfl).trans ta_6_20) ((pm rfl).trans ta_6_84) hB_19 (by rw [dg_length]; exact ⟨by kernel_rfl, by kernel_rfl⟩) (by simp [iws, dg_length])) (fun w_19 hR_13 => ?_)
    obtain ⟨hB_21, hX_11⟩ := hR_13
    replace hCl := hCl.keepX hB_19 (by decide) hX_11
    replace B8 := hX_11.blk B8 ne_30
    replace B10 := hX_11.blk B10 ne_31
    replace B11 := hX_11.blk B11 ne_32
    replace B12 := hX_11.blk B12 ne_33
    replace B13 := hX_11.blk B13 ne_34
    replace hB_16 := hX_11.blk hB_16 ne_35
    replace hB_17 := hX_11.blk hB_17 ne_36
    replace hB_20 := hX_11.blk hB_20 ne_22
    have HB_16 := hX_11.below HB_15 HB_15.size (fun k hk => hk ▸ ge_9)
    clear hB_19
    refine x_nil (hK_21 _ _ ?_)
    refine w2_seq (fun K_22 hK_22 => ?_)
    refine x_drawnA 8 [fun _ v => v = .agg (iws .u64 (dg ((mS cl u K).1 + (mS cl u K).2.1))).toArray, fun _ v => v = .agg (iws .u64 (dg ((mS cl u K).1 + (mS cl u K).2.1))).toArray, fun _ v => v = .agg (iws .u64 (dg (((mS cl u K).1 + (mS cl u K).2.1) * ((mS cl u K).1 + (mS cl u K).2.1)))).toArray, fun _ v => v = .agg (iws .u64 (dg ((mS cl u K).1 - (mS cl u K).2.1))).toArray, fun _ v => v = .agg (iws .u64 (dg ((mS cl u K).1 - (mS cl u K).2.1))).toArray, fun _ v => v = .agg (iws .u64 (dg (((mS cl u K).1 - (mS cl u K).2.1) * ((mS cl u K).1 - (mS cl u K).2.1)))).toArray, fun _ _ => True, fun _ _ => True] [⟨6, 906, (iws .u64 (List.replicate 16 0)).toArray, (iws .u64 (List.replicate 16 0)).toArray, 32⟩, ⟨7, 907, (iws .u64 (List.replicate 16 0)).toArray, (iws .u64 (List.replicate 16 0)).toArray, 32⟩] [85, 86, 87, 88, 89, 90, 21, 22] hs_6 hd_6 (by kernel_rfl) (by kernel_rfl) (by kernel_rfl) (by kernel_rfl) (by kernel_rfl) (by intro e he; simp only [List.mem_cons, List.not_mem_nil, or_false] at he; rcases he with rfl | rfl <;> first | exact ⟨by dsimp only; omega, .inl (by dsimp only; omega)⟩ | exact ⟨by dsimp only; omega, .inr rfl⟩) (fun i w w' v h => AllLit.nth (l := [fun _ v => v = .agg (iws .u64 (dg ((mS cl u K).1 + (mS cl u K).2.1))).toArray, fun _ v => v = .agg (iws .u64 (dg ((mS cl u K).1 + (mS cl u K).2.1))).toArray, fun _ v => v = .agg (iws .u64 (dg (((mS cl u K).1 + (mS cl u K).2.1) * ((mS cl u K).1 + (mS cl u K).2.1)))).toArray, fun _ v => v = .agg (iws .u64 (dg ((mS cl u K).1 - (mS cl u K).2.1))).toArray, fun _ v => v = .agg (iws .u64 (dg ((mS cl u K).1 - (mS cl u K).2.1))).toArray, fun _ v => v = .agg (iws .u64 (dg (((mS cl u K).1 - (mS cl u K).2.1) * ((mS cl u K).1 - (mS cl u K).2.1)))).toArray, fun _ _ => True, fun _ _ => True]) ⟨litL, litL, litL, litL, litL, litL, litL, litL, trivial⟩ i w w' v h) ⟨(by exact ⟨rfl, .inl ⟨fun a' w' hb' hO hD => by
      have d_26 := (hO 17 (by decide)).trans ((pm rfl).trans ta_6_17)
      exact .inl ⟨_, _, (o_loadI rfl d_26 (hB_16.nx hb') (by rw [dg_length]; exact ⟨by kernel_rfl, by kernel_rfl⟩)), rfl, Below.refl _ _⟩, (by intro e he; simp only [List.mem_cons, List.not_mem_nil, or_false] at he; rcases he with rfl | rfl <;> exact ⟨by dsimp only; omega, by dsimp only; omega⟩), rfl⟩⟩),
(by exact ⟨rfl, .inl ⟨fun a' w' hb' hO hD => by
      have d_27 := (hO 17 (by decide)).trans ((pm rfl).trans ta_6_17)
      exact .inl ⟨_, _, (o_loadI rfl d_27 (hB_16.nx hb') (by rw [dg_length]; exact ⟨by kernel_rfl, by kernel_rfl⟩)), rfl, Below.refl _ _⟩, (by intro e he; simp only [List.mem_cons, List.not_mem_nil, or_false] at he; rcases he with rfl | rfl <;> exact ⟨by dsimp only; omega, by dsimp only; omega⟩), rfl⟩⟩),
(by exact ⟨rfl, .inl ⟨fun a' w' hb' hO hD => by
      have d_28 : a'.eval (.tmp 85) = .agg (iws .u64 (dg ((mS cl u K).1 + (mS cl u K).2.1))).toArray := hD 0 85 (by kernel_rfl) rfl
      have d_29 : a'.eval (.tmp 86) = .agg (iws .u64 (dg ((mS cl u K).1 + (mS cl u K).2.1))).toArray := hD 1 86 (by kernel_rfl) rfl
      exact .inr ⟨_, #[.agg (iws .u64 (dg ((mS cl u K).1 + (mS cl u K).2.1))).toArray, .agg (iws .u64 (dg ((mS cl u K).1 + (mS cl u K).2.1))).toArray], (exec_call Try.func17 (by kernel_rfl) (by kernel_rfl) _ rfl _ _ (args2 d_28 d_29)), Calls.mono (MulNum_any _) (fun e w'' hR => by obtain ⟨rfl, hb_15⟩ := hR; exact ⟨_, rfl, rfl, hb_15⟩)⟩, (by intro e he; simp only [List.mem_cons, List.not_mem_nil, or_false] at he; rcases he with rfl | rfl <;> exact ⟨by dsimp only; omega, by dsimp only; omega⟩), rfl⟩⟩),
(by exact ⟨rfl, .inl ⟨fun a' w' hb' hO hD => by
      have d_30 := (hO 18 (by decide)).trans ((pm rfl).trans ta_6_18)
      exact .inl ⟨_, _, (o_loadI rfl d_30 (hB_17.nx hb') (by rw [dg_length]; exact ⟨by kernel_rfl, by kernel_rfl⟩)), rfl, Below.refl _ _⟩, (by intro e he; simp only [List.mem_cons, List.not_mem_nil, or_false] at he; rcases he with rfl | rfl <;> exact ⟨by dsimp only; omega, by dsimp only; omega⟩), rfl⟩⟩),
(by exact ⟨rfl, .inl ⟨fun a' w' hb' hO hD => by
      have d_31 := (hO 18 (by decide)).trans ((pm rfl).trans ta_6_18)
      exact .inl ⟨_, _, (o_loadI rfl d_31 (hB_17.nx hb') (by rw [dg_length]; exact ⟨by kernel_rfl, by kernel_rfl⟩)), rfl, Below.refl _ _⟩, (by intro e he; simp only [List.mem_cons, List.not_mem_nil, or_false] at he; rcases he with rfl | rfl <;> exact ⟨by dsimp only; omega, by dsimp only; omega⟩), rfl⟩⟩),
(by exact ⟨rfl, .inl ⟨fun a' w' hb' hO hD => by
      have d_32 : a'.eval (.tmp 88) = .agg (iws .u64 (dg ((mS cl u K).1 - (mS cl u K).2.1))).toArray := hD 3 88 (by kernel_rfl) rfl
      have d_33 : a'.eval (.tmp 89) = .agg (iws .u64 (dg ((mS cl u K).1 - (mS cl u K).2.1))).toArray := hD 4 89 (by kernel_rfl) rfl
      exact .inr ⟨_, #[.agg (iws .u64 (dg ((mS cl u K).1 - (mS cl u K).2.1))).toArray, .agg (iws .u64 (dg ((mS cl u K).1 - (mS cl u K).2.1))).toArray], (exec_call Try.func17 (by kernel_rfl) (by kernel_rfl) _ rfl _ _ (args2 d_32 d_33)), Calls.mono (MulNum_any _) (fun e w'' hR => by obtain ⟨rfl, hb_16⟩ := hR; exact ⟨_, rfl, rfl, hb_16⟩)⟩, (by intro e he; simp only [List.mem_cons, List.not_mem_nil, or_false] at he; rcases he with rfl | rfl <;> exact ⟨by dsimp only; omega, by dsimp only; omega⟩), rfl⟩⟩),
(by exact ⟨rfl, .inr (.inl ⟨_, (.head _), rfl, rfl, fun _ _ => trivial, (by intro e he; simp only [List.mem_cons, List.not_mem_nil, or_false] at he; rcases he with rfl | rfl <;> exact ⟨by dsimp only; omega, fun h => by first | (exfalso; dsimp only at h; omega) | rfl⟩), fun a' w' hb' => o_alloc (zs := (iws .u64 (List.replicate 16 0)).toArray) rfl (fun _ => by kernel_rfl)⟩)⟩),
(by exact ⟨rfl, .inr (.inl ⟨_, (.tail _ (.head _)), rfl, rfl, fun _ _ => trivial, (by intro e he; simp only [List.mem_cons, List.not_mem_nil, or_false] at he; rcases he with rfl | rfl <;> exact ⟨by dsimp only; omega, fun h => by first | (exfalso; dsimp only at h; omega) | rfl⟩), fun a' w' hb' => o_alloc (zs := (iws .u64 (List.replicate 16 0)).toArray) rfl (fun _ => by kernel_rfl)⟩)⟩), trivial⟩ (fun a_7 w_20 gf_4 hs_7 hd_7 hb_17 hO_5 hV_5 hN_4 hG_4 => ?_)
    have ta_7_4 := (hO_5 4 (by decide)).trans ((pm rfl).trans ta_6_4)
    have ta_7_5 := (hO_5 5 (by decide)).trans ((pm rfl).trans ta_6_5)
    have ta_7_8 := (hO_5 8 (by decide)).trans ((pm rfl).trans ta_6_8)
    have ta_7_10 := (hO_5 10 (by decide)).trans ((pm rfl).trans ta_6_10)
    have ta_7_11 := (hO_5 11 (by decide)).trans ((pm rfl).trans ta_6_11)
    have ta_7_12 := (hO_5 12 (by decide)).trans ((pm rfl).trans ta_6_12)
    have ta_7_13 := (hO_5 13 (by decide)).trans ((pm rfl).trans ta_6_13)
    have ta_7_16 := (hO_5 16 (by decide)).trans ((pm rfl).trans ta_6_16)
    have ta_7_0 := (hO_5 0 (by decide)).trans ((pm rfl).trans ta_6_0)
    have ta_7_1 := (hO_5 1 (by decide)).trans ((pm rfl).trans ta_6_1)
    have ta_7_32 := (hO_5 32 (by decide)).trans ((pm rfl).trans ta_6_32)
    have ta_7_33 := (hO_5 33 (by decide)).trans ((pm rfl).trans ta_6_33)
    have ta_7_31 := (hO_5 31 (by decide)).trans ((pm rfl).trans ta_6_31)
    have ta_7_34 := (hO_5 34 (by decide)).trans ((pm rfl).trans ta_6_34)
    have ta_7_35 := (hO_5 35 (by decide)).trans ((pm rfl).trans ta_6_35)
    have ta_7_6 := (hO_5 6 (by decide)).trans ((pm rfl).trans ta_6_6)
    have ta_7_7 := (hO_5 7 (by decide)).trans ((pm rfl).trans ta_6_7)
    have ta_7_37 := (hO_5 37 (by decide)).trans ((pm rfl).trans ta_6_37)
    have ta_7_38 := (hO_5 38 (by decide)).trans ((pm rfl).trans ta_6_38)
    have ta_7_36 := (hO_5 36 (by decide)).trans ((pm rfl).trans ta_6_36)
    have ta_7_39 := (hO_5 39 (by decide)).trans ((pm rfl).trans ta_6_39)
    have ta_7_40 := (hO_5 40 (by decide)).trans ((pm rfl).trans ta_6_40)
    have ta_7_9 := (hO_5 9 (by decide)).trans ((pm rfl).trans ta_6_9)
    have ta_7_41 := (hO_5 41 (by decide)).trans ((pm rfl).trans ta_6_41)
    have ta_7_42 := (hO_5 42 (by decide)).trans ((pm rfl).trans ta_6_42)
    have ta_7_43 := (hO_5 43 (by decide)).trans ((pm rfl).trans ta_6_43)
    have ta_7_44 := (hO_5 44 (by decide)).trans ((pm rfl).trans ta_6_44)
    have ta_7_45 := (hO_5 45 (by decide)).trans ((pm rfl).trans ta_6_45)
    have ta_7_46 := (hO_5 46 (by decide)).trans ((pm rfl).trans ta_6_46)
    have ta_7_47 := (hO_5 47 (by decide)).trans ((pm rfl).trans ta_6_47)
    have ta_7_48 := (hO_5 48 (by decide)).trans ((pm rfl).trans ta_6_48)
    have ta_7_49 := (hO_5 49 (by decide)).trans ((pm rfl).trans ta_6_49)
    have ta_7_50 := (hO_5 50 (by decide)).trans ((pm rfl).trans ta_6_50)
    have ta_7_14 := (hO_5 14 (by decide)).trans ((pm rfl).trans ta_6_14)
    have ta_7_15 := (hO_5 15 (by decide)).trans ((pm rfl).trans ta_6_15)
    have ta_7_72 := (hO_5 72 (by decide)).trans ((pm rfl).trans ta_6_72)
    have ta_7_17 := (hO_5 17 (by decide)).trans ((pm rfl).trans ta_6_17)
    have ta_7_18 := (hO_5 18 (by decide)).trans ((pm rfl).trans ta_6_18)
    have ta_7_73 := (hO_5 73 (by decide)).trans ((pm rfl).trans ta_6_73)
    have ta_7_74 := (hO_5 74 (by decide)).trans ((pm rfl).trans ta_6_74)
    have ta_7_75 := (hO_5 75 (by decide)).trans ((pm rfl).trans ta_6_75)
    have ta_7_76 := (hO_5 76 (by decide)).trans ((pm rfl).trans ta_6_76)
    have ta_7_77 := (hO_5 77 (by decide)).trans ((pm rfl).trans ta_6_77)
    have ta_7_78 := (hO_5 78 (by decide)).trans ((pm rfl).trans ta_6_78)
    have ta_7_19 := (hO_5 19 (by decide)).trans ((pm rfl).trans ta_6_19)
    have ta_7_20 := (hO_5 20 (by decide)).trans ((pm rfl).trans ta_6_20)
    have ta_7_79 := (hO_5 79 (by decide)).trans ((pm rfl).trans ta_6_79)
    have ta_7_80 := (hO_5 80 (by decide)).trans ((pm rfl).trans ta_6_80)
    have ta_7_81 := (hO_5 81 (by decide)).trans ((pm rfl).trans ta_6_81)
    have ta_7_82 := (hO_5 82 (by decide)).trans ((pm rfl).trans ta_6_82)
    have ta_7_83 := (hO_5 83 (by decide)).trans ((pm rfl).trans ta_6_83)
    have ta_7_84 := (hO_5 84 (by decide)).trans ((pm rfl).trans ta_6_84)
    clear ta_6_4 ta_6_5 ta_6_8 ta_6_10 ta_6_11 ta_6_12 ta_6_13 ta_6_16 ta_6_0 ta_6_1 ta_6_32 ta_6_33 ta_6_31 ta_6_34 ta_6_35 ta_6_6 ta_6_7 ta_6_37 ta_6_38 ta_6_36 ta_6_39 ta_6_40 ta_6_9 ta_6_41 ta_6_42 ta_6_43 ta_6_44 ta_6_45 ta_6_46 ta_6_47 ta_6_48 ta_6_49 ta_6_50 ta_6_14 ta_6_15 ta_6_72 ta_6_17 ta_6_18 ta_6_73 ta_6_74 ta_6_75 ta_6_76 ta_6_77 ta_6_78 ta_6_19 ta_6_20 ta_6_79 ta_6_80 ta_6_81 ta_6_82 ta_6_83 ta_6_84 hd_6
    obtain ⟨ta_7_21, hle_10, hB_22⟩ := hN_4 0 _ rfl _ rfl
    obtain ⟨ta_7_22, hle_11, hB_23⟩ := hN_4 1 _ rfl _ rfl
    have ne_37 : gf_4 6 ≠ gf_4 7 := hG_4 0 1 _ _ rfl rfl (by dsimp only; omega)
    clear hN_4 hG_4
    dsimp only at ta_7_21 hle_10 hB_22 ta_7_22 hle_11 hB_23
    generalize gf_4 6 = g_10 at *
    generalize gf_4 7 = g_11 at *
    have ne_38 : g_1 ≠ g_10 := Nat.ne_of_lt (Nat.lt_of_lt_of_le B8.lt hle_10)
    have ne_39 : g_2 ≠ g_10 := Nat.ne_of_lt (Nat.lt_of_lt_of_le B10.lt hle_10)
    have ne_40 : g_3 ≠ g_10 := Nat.ne_of_lt (Nat.lt_of_lt_of_le B11.lt hle_10)
    have ne_41 : g_4 ≠ g_10 := Nat.ne_of_lt (Nat.lt_of_lt_of_le B12.lt hle_10)
    have ne_42 : g_5 ≠ g_10 := Nat.ne_of_lt (Nat.lt_of_lt_of_le B13.lt hle_10)
    have ne_43 : g_6 ≠ g_10 := Nat.ne_of_lt (Nat.lt_of_lt_of_le hB_16.lt hle_10)
    have ne_44 : g_7 ≠ g_10 := Nat.ne_of_lt (Nat.lt_of_lt_of_le hB_17.lt hle_10)
    have ne_45 : g_8 ≠ g_10 := Nat.ne_of_lt (Nat.lt_of_lt_of_le hB_20.lt hle_10)
    have ne_46 : g_9 ≠ g_10 := Nat.ne_of_lt (Nat.lt_of_lt_of_le hB_21.lt hle_10)
    have ge_10 : w.heap.size ≤ g_10 := Nat.le_trans HB_16.size hle_10
    have ne_47 : g_1 ≠ g_11 := Nat.ne_of_lt (Nat.lt_of_lt_of_le B8.lt hle_11)
    have ne_48 : g_2 ≠ g_11 := Nat.ne_of_lt (Nat.lt_of_lt_of_le B10.lt hle_11)
    have ne_49 : g_3 ≠ g_11 := Nat.ne_of_lt (Nat.lt_of_lt_of_le B11.lt hle_11)
    have ne_50 : g_4 ≠ g_11 := Nat.ne_of_lt (Nat.lt_of_lt_of_le B12.lt hle_11)
    have ne_51 : g_5 ≠ g_11 := Nat.ne_of_lt (Nat.lt_of_lt_of_le B13.lt hle_11)
    have ne_52 : g_6 ≠ g_11 := Nat.ne_of_lt (Nat.lt_of_lt_of_le hB_16.lt hle_11)
    have ne_53 : g_7 ≠ g_11 := Nat.ne_of_lt (Nat.lt_of_lt_of_le hB_17.lt hle_11)
    have ne_54 : g_8 ≠ g_11 := Nat.ne_of_lt (Nat.lt_of_lt_of_le hB_20.lt hle_11)
    have ne_55 : g_9 ≠ g_11 := Nat.ne_of_lt (Nat.lt_of_lt_of_le hB_21.lt hle_11)
    have ge_11 : w.heap.size ≤ g_11 := Nat.le_trans HB_16.size hle_11
    replace hCl := hCl.nx hb_17
    replace B8 := B8.nx hb_17
    replace B10 := B10.nx hb_17
    replace B11 := B11.nx hb_17
    replace B12 := B12.nx hb_17
    replace B13 := B13.nx hb_17
    replace hB_16 := hB_16.nx hb_17
    replace hB_17 := hB_17.nx hb_17
    replace hB_20 := hB_20.nx hb_17
    replace hB_21 := hB_21.nx hb_17
    have HB_17 := below_from HB_16 hb_17
    have ta_7_85 : a_7.eval (.tmp 85) = .agg (iws .u64 (dg ((mS cl u K).1 + (mS cl u K).2.1))).toArray := hV_5 0 85 rfl rfl
    have ta_7_86 : a_7.eval (.tmp 86) = .agg (iws .u64 (dg ((mS cl u K).1 + (mS cl u K).2.1))).toArray := hV_5 1 86 rfl rfl
    have ta_7_87 : a_7.eval (.tmp 87) = .agg (iws .u64 (dg (((mS cl u K).1 + (mS cl u K).2.1) * ((mS cl u K).1 + (mS cl u K).2.1)))).toArray := hV_5 2 87 rfl rfl
    have ta_7_88 : a_7.eval (.tmp 88) = .agg (iws .u64 (dg ((mS cl u K).1 - (mS cl u K).2.1))).toArray := hV_5 3 88 rfl rfl
    have ta_7_89 : a_7.eval (.tmp 89) = .agg (iws .u64 (dg ((mS cl u K).1 - (mS cl u K).2.1))).toArray := hV_5 4 89 rfl rfl
    have ta_7_90 : a_7.eval (.tmp 90) = .agg (iws .u64 (dg (((mS cl u K).1 - (mS cl u K).2.1) * ((mS cl u K).1 - (mS cl u K).2.1)))).toArray := hV_5 5 90 rfl rfl
    clear hV_5 hO_5
    simp only [List.drop_succ_cons, List.drop_zero]
    refine op_do rfl rfl (o_storeI rfl ((pm rfl).trans ta_7_21) ((pm rfl).trans ta_7_87) hB_22 (by rw [dg_length]; exact ⟨by kernel_rfl, by kernel_rfl⟩) (by simp [iws, dg_length])) (fun w_21 hR_14 => ?_)
    obtain ⟨hB_24, hX_12⟩ := hR_14
    replace hCl := hCl.keepX hB_22 (by decide) hX_12
    replace B8 := hX_12.blk B8 ne_38
    replace B10 := hX_12.blk B10 ne_39
    replace B11 := hX_12.blk B11 ne_40
    replace B12 := hX_12.blk B12 ne_41
    replace B13 := hX_12.blk B13 ne_42
    replace hB_16 := hX_12.blk hB_16 ne_43
    replace hB_17 := hX_12.blk hB_17 ne_44
    replace hB_20 := hX_12.blk hB_20 ne_45
    replace hB_21 := hX_12.blk hB_21 ne_46
    replace hB_23 := hX_12.blk hB_23 (Ne.symm ne_37)
    have HB_18 := hX_12.below HB_17 HB_17.size (fun k hk => hk ▸ ge_10)
    clear hB_22
    refine op_do rfl rfl (o_storeI rfl ((pm rfl).trans ta_7_22) ((pm rfl).trans ta_7_90) hB_23 (by rw [dg_length]; exact ⟨by kernel_rfl, by kernel_rfl⟩) (by simp [iws, dg_length])) (fun w_22 hR_15 => ?_)
    obtain ⟨hB_25, hX_13⟩ := hR_15
    replace hCl := hCl.keepX hB_23 (by decide) hX_13
    replace B8 := hX_13.blk B8 ne_47
    replace B10 := hX_13.blk B10 ne_48
    replace B11 := hX_13.blk B11 ne_49
    replace B12 := hX_13.blk B12 ne_50
    replace B13 := hX_13.blk B13 ne_51
    replace hB_16 := hX_13.blk hB_16 ne_52
    replace hB_17 := hX_13.blk hB_17 ne_53
    replace hB_20 := hX_13.blk hB_20 ne_54
    replace hB_21 := hX_13.blk hB_21 ne_55
    replace hB_24 := hX_13.blk hB_24 ne_37
    have HB_19 := hX_13.below HB_18 HB_18.size (fun k hk => hk ▸ ge_11)
    clear hB_23
    refine x_nil (hK_22 _ _ ?_)
    refine w2_sr (fun K_23 hK_23 => ?_)
    refine q_v 91 (.agg (iws .u64 (dg (((mS cl u K).1 + (mS cl u K).2.1) * ((mS cl u K).1 + (mS cl u K).2.1)))).toArray) (o_loadI rfl ((pm rfl).trans ta_7_21) hB_24 (by rw [dg_length]; exact ⟨by kernel_rfl, by kernel_rfl⟩)) ?_
    refine q_v 92 (.agg (iws .u64 (dg (((mS cl u K).1 - (mS cl u K).2.1) * ((mS cl u K).1 - (mS cl u K).2.1)))).toArray) (o_loadI rfl ((pm rfl).trans ta_7_22) hB_25 (by rw [dg_length]; exact ⟨by kernel_rfl, by kernel_rfl⟩)) ?_
    refine q_ca (vs := #[.agg (iws .u64 (dg (((mS cl u K).1 + (mS cl u K).2.1) * ((mS cl u K).1 + (mS cl u K).2.1)))).toArray, .agg (iws .u64 (dg (((mS cl u K).1 - (mS cl u K).2.1) * ((mS cl u K).1 - (mS cl u K).2.1)))).toArray]) Try.func15 (args2 (pe hs_7 rfl rfl) (pe hs_7 rfl rfl)) (SubNum_any _) (fun e_3 w_23 hR_16 => ?_)
    obtain ⟨rfl, hb_19⟩ := hR_16
    replace hCl := hCl.nx hb_19
    replace B8 := B8.nx hb_19
    replace B10 := B10.nx hb_19
    replace B11 := B11.nx hb_19
    replace B12 := B12.nx hb_19
    replace B13 := B13.nx hb_19
    replace hB_16 := hB_16.nx hb_19
    replace hB_17 := hB_17.nx hb_19
    replace hB_20 := hB_20.nx hb_19
    replace hB_21 := hB_21.nx hb_19
    replace hB_24 := hB_24.nx hb_19
    replace hB_25 := hB_25.nx hb_19
    have HB_20 := below_from HB_19 hb_19
    refine ⟨_, rfl, ?_⟩
    refine op_ex (d := 23) rfl rfl (o_alloc (zs := (iws .u64 (List.replicate 16 0)).toArray) rfl (fun _ => by kernel_rfl)) (fun v_2 w_24 hR_17 => ?_)
    obtain ⟨g_12, rfl, hle_12, hB_26, hb_20⟩ := hR_17
    have ne_56 : g_1 ≠ g_12 := Nat.ne_of_lt (Nat.lt_of_lt_of_le B8.lt hle_12)
    have ne_57 : g_2 ≠ g_12 := Nat.ne_of_lt (Nat.lt_of_lt_of_le B10.lt hle_12)
    have ne_58 : g_3 ≠ g_12 := Nat.ne_of_lt (Nat.lt_of_lt_of_le B11.lt hle_12)
    have ne_59 : g_4 ≠ g_12 := Nat.ne_of_lt (Nat.lt_of_lt_of_le B12.lt hle_12)
    have ne_60 : g_5 ≠ g_12 := Nat.ne_of_lt (Nat.lt_of_lt_of_le B13.lt hle_12)
    have ne_61 : g_6 ≠ g_12 := Nat.ne_of_lt (Nat.lt_of_lt_of_le hB_16.lt hle_12)
    have ne_62 : g_7 ≠ g_12 := Nat.ne_of_lt (Nat.lt_of_lt_of_le hB_17.lt hle_12)
    have ne_63 : g_8 ≠ g_12 := Nat.ne_of_lt (Nat.lt_of_lt_of_le hB_20.lt hle_12)
    have ne_64 : g_9 ≠ g_12 := Nat.ne_of_lt (Nat.lt_of_lt_of_le hB_21.lt hle_12)
    have ne_65 : g_10 ≠ g_12 := Nat.ne_of_lt (Nat.lt_of_lt_of_le hB_24.lt hle_12)
    have ne_66 : g_11 ≠ g_12 := Nat.ne_of_lt (Nat.lt_of_lt_of_le hB_25.lt hle_12)
    have ge_12 : w.heap.size ≤ g_12 := Nat.le_trans HB_20.size hle_12
    replace hCl := hCl.nx hb_20
    replace B8 := B8.nx hb_20
    replace B10 := B10.nx hb_20
    replace B11 := B11.nx hb_20
    replace B12 := B12.nx hb_20
    replace B13 := B13.nx hb_20
    replace hB_16 := hB_16.nx hb_20
    replace hB_17 := hB_17.nx hb_20
    replace hB_20 := hB_20.nx hb_20
    replace hB_21 := hB_21.nx hb_20
    replace hB_24 := hB_24.nx hb_20
    replace hB_25 := hB_25.nx hb_20
    have HB_21 := below_from HB_20 hb_20
    refine op_do rfl rfl (o_storeI rfl (pe hs_7 rfl rfl) (pe hs_7 rfl rfl) hB_26 (by rw [dg_length]; exact ⟨by kernel_rfl, by kernel_rfl⟩) (by simp [iws, dg_length])) (fun w_25 hR_18 => ?_)
    obtain ⟨hB_27, hX_14⟩ := hR_18
    replace hCl := hCl.keepX hB_26 (by decide) hX_14
    replace B8 := hX_14.blk B8 ne_56
    replace B10 := hX_14.blk B10 ne_57
    replace B11 := hX_14.blk B11 ne_58
    replace B12 := hX_14.blk B12 ne_59
    replace B13 := hX_14.blk B13 ne_60
    replace hB_16 := hX_14.blk hB_16 ne_61
    replace hB_17 := hX_14.blk hB_17 ne_62
    replace hB_20 := hX_14.blk hB_20 ne_63
    replace hB_21 := hX_14.blk hB_21 ne_64
    replace hB_24 := hX_14.blk hB_24 ne_65
    replace hB_25 := hX_14.blk hB_25 ne_66
    have HB_22 := hX_14.below HB_21 HB_21.size (fun k hk => hk ▸ ge_12)
    clear hB_26
    refine x_nil (hK_23 _ _ ?_)
    refine w2_seq (fun K_24 hK_24 => ?_)
    refine x_drawnA 8 [fun _ v => v = .agg (iws .u64 (dg ((mS cl u K).2.2.1 - (mS cl u K).2.2.2))).toArray, fun _ v => v = .agg (iws .u64 (dg ((mS cl u K).1 + (mS cl u K).2.1))).toArray, fun _ v => v = .agg (iws .u64 (dg (((mS cl u K).2.2.1 - (mS cl u K).2.2.2) * ((mS cl u K).1 + (mS cl u K).2.1)))).toArray, fun _ v => v = .agg (iws .u64 (dg ((mS cl u K).2.2.1 + (mS cl u K).2.2.2))).toArray, fun _ v => v = .agg (iws .u64 (dg ((mS cl u K).1 - (mS cl u K).2.1))).toArray, fun _ v => v = .agg (iws .u64 (dg (((mS cl u K).2.2.1 + (mS cl u K).2.2.2) * ((mS cl u K).1 - (mS cl u K).2.1)))).toArray, fun _ _ => True, fun _ _ => True] [⟨6, 906, (iws .u64 (List.replicate 16 0)).toArray, (iws .u64 (List.replicate 16 0)).toArray, 32⟩, ⟨7, 907, (iws .u64 (List.replicate 16 0)).toArray, (iws .u64 (List.replicate 16 0)).toArray, 32⟩] [94, 95, 96, 97, 98, 99, 24, 25] hs_7 hd_7 (by kernel_rfl) (by kernel_rfl) (by kernel_rfl) (by kernel_rfl) (by kernel_rfl) (by intro e he; simp only [List.mem_cons, List.not_mem_nil, or_false] at he; rcases he with rfl | rfl <;> first | exact ⟨by dsimp only; omega, .inl (by dsimp only; omega)⟩ | exact ⟨by dsimp only; omega, .inr rfl⟩) (fun i w w' v h => AllLit.nth (l := [fun _ v => v = .agg (iws .u64 (dg ((mS cl u K).2.2.1 - (mS cl u K).2.2.2))).toArray, fun _ v => v = .agg (iws .u64 (dg ((mS cl u K).1 + (mS cl u K).2.1))).toArray, fun _ v => v = .agg (iws .u64 (dg (((mS cl u K).2.2.1 - (mS cl u K).2.2.2) * ((mS cl u K).1 + (mS cl u K).2.1)))).toArray, fun _ v => v = .agg (iws .u64 (dg ((mS cl u K).2.2.1 + (mS cl u K).2.2.2))).toArray, fun _ v => v = .agg (iws .u64 (dg ((mS cl u K).1 - (mS cl u K).2.1))).toArray, fun _ v => v = .agg (iws .u64 (dg (((mS cl u K).2.2.1 + (mS cl u K).2.2.2) * ((mS cl u K).1 - (mS cl u K).2.1)))).toArray, fun _ _ => True, fun _ _ => True]) ⟨litL, litL, litL, litL, litL, litL, litL, litL, trivial⟩ i w w' v h) ⟨(by exact ⟨rfl, .inl ⟨fun a' w' hb' hO hD => by
      have d_34 := (hO 20 (by decide)).trans ((pm rfl).trans ta_7_20)
      exact .inl ⟨_, _, (o_loadI rfl d_34 (hB_21.nx hb') (by rw [dg_length]; exact ⟨by kernel_rfl, by kernel_rfl⟩)), rfl, Below.refl _ _⟩, (by intro e he; simp only [List.mem_cons, List.not_mem_nil, or_false] at he; rcases he with rfl | rfl <;> exact ⟨by dsimp only; omega, by dsimp only; omega⟩), rfl⟩⟩),
(by exact ⟨rfl, .inl ⟨fun a' w' hb' hO hD => by
      have d_35 := (hO 17 (by decide)).trans ((pm rfl).trans ta_7_17)
      exact .inl ⟨_, _, (o_loadI rfl d_35 (hB_16.nx hb') (by rw [dg_length]; exact ⟨by kernel_rfl, by kernel_rfl⟩)), rfl, Below.refl _ _⟩, (by intro e he; simp only [List.mem_cons, List.not_mem_nil, or_false] at he; rcases he with rfl | rfl <;> exact ⟨by dsimp only; omega, by dsimp only; omega⟩), rfl⟩⟩),
(by exact ⟨rfl, .inl ⟨fun a' w' hb' hO hD => by
      have d_36 : a'.eval (.tmp 94) = .agg (iws .u64 (dg ((mS cl u K).2.2.1 - (mS cl u K).2.2.2))).toArray := hD 0 94 (by kernel_rfl) rfl
      have d_37 : a'.eval (.tmp 95) = .agg (iws .u64 (dg ((mS cl u K).1 + (mS cl u K).2.1))).toArray := hD 1 95 (by kernel_rfl) rfl
      exact .inr ⟨_, #[.agg (iws .u64 (dg ((mS cl u K).2.2.1 - (mS cl u K).2.2.2))).toArray, .agg (iws .u64 (dg ((mS cl u K).1 + (mS cl u K).2.1))).toArray], (exec_call Try.func17 (by kernel_rfl) (by kernel_rfl) _ rfl _ _ (args2 d_36 d_37)), Calls.mono (MulNum_any _) (fun e w'' hR => by obtain ⟨rfl, hb_21⟩ := hR; exact ⟨_, rfl, rfl, hb_21⟩)⟩, (by intro e he; simp only [List.mem_cons, List.not_mem_nil, or_false] at he; rcases he with rfl | rfl <;> exact ⟨by dsimp only; omega, by dsimp only; omega⟩), rfl⟩⟩),
(by exact ⟨rfl, .inl ⟨fun a' w' hb' hO hD => by
      have d_38 := (hO 19 (by decide)).trans ((pm rfl).trans ta_7_19)
      exact .inl ⟨_, _, (o_loadI rfl d_38 (hB_20.nx hb') (by rw [dg_length]; exact ⟨by kernel_rfl, by kernel_rfl⟩)), rfl, Below.refl _ _⟩, (by intro e he; simp only [List.mem_cons, List.not_mem_nil, or_false] at he; rcases he with rfl | rfl <;> exact ⟨by dsimp only; omega, by dsimp only; omega⟩), rfl⟩⟩),
(by exact ⟨rfl, .inl ⟨fun a' w' hb' hO hD => by
      have d_39 := (hO 18 (by decide)).trans ((pm rfl).trans ta_7_18)
      exact .inl ⟨_, _, (o_loadI rfl d_39 (hB_17.nx hb') (by rw [dg_length]; exact ⟨by kernel_rfl, by kernel_rfl⟩)), rfl, Below.refl _ _⟩, (by intro e he; simp only [List.mem_cons, List.not_mem_nil, or_false] at he; rcases he with rfl | rfl <;> exact ⟨by dsimp only; omega, by dsimp only; omega⟩), rfl⟩⟩),
(by exact ⟨rfl, .inl ⟨fun a' w' hb' hO hD => by
      have d_40 : a'.eval (.tmp 97) = .agg (iws .u64 (dg ((mS cl u K).2.2.1 + (mS cl u K).2.2.2))).toArray := hD 3 97 (by kernel_rfl) rfl
      have d_41 : a'.eval (.tmp 98) = .agg (iws .u64 (dg ((mS cl u K).1 - (mS cl u K).2.1))).toArray := hD 4 98 (by kernel_rfl) rfl
      exact .inr ⟨_, #[.agg (iws .u64 (dg ((mS cl u K).2.2.1 + (mS cl u K).2.2.2))).toArray, .agg (iws .u64 (dg ((mS cl u K).1 - (mS cl u K).2.1))).toArray], (exec_call Try.func17 (by kernel_rfl) (by kernel_rfl) _ rfl _ _ (args2 d_40 d_41)), Calls.mono (MulNum_any _) (fun e w'' hR => by obtain ⟨rfl, hb_22⟩ := hR; exact ⟨_, rfl, rfl, hb_22⟩)⟩, (by intro e he; simp only [List.mem_cons, List.not_mem_nil, or_false] at he; rcases he with rfl | rfl <;> exact ⟨by dsimp only; omega, by dsimp only; omega⟩), rfl⟩⟩),
(by exact ⟨rfl, .inr (.inl ⟨_, (.head _), rfl, rfl, fun _ _ => trivial, (by intro e he; simp only [List.mem_cons, List.not_mem_nil, or_false] at he; rcases he with rfl | rfl <;> exact ⟨by dsimp only; omega, fun h => by first | (exfalso; dsimp only at h; omega) | rfl⟩), fun a' w' hb' => o_alloc (zs := (iws .u64 (List.replicate 16 0)).toArray) rfl (fun _ => by kernel_rfl)⟩)⟩),
(by exact ⟨rfl, .inr (.inl ⟨_, (.tail _ (.head _)), rfl, rfl, fun _ _ => trivial, (by intro e he; simp only [List.mem_cons, List.not_mem_nil, or_false] at he; rcases he with rfl | rfl <;> exact ⟨by dsimp only; omega, fun h => by first | (exfalso; dsimp only at h; omega) | rfl⟩), fun a' w' hb' => o_alloc (zs := (iws .u64 (List.replicate 16 0)).toArray) rfl (fun _ => by kernel_rfl)⟩)⟩), trivial⟩ (fun a_8 w_26 gf_5 hs_8 hd_8 hb_23 hO_6 hV_6 hN_5 hG_5 => ?_)
    have ta_8_4 := (hO_6 4 (by decide)).trans ((pm rfl).trans ta_7_4)
    have ta_8_5 := (hO_6 5 (by decide)).trans ((pm rfl).trans ta_7_5)
    have ta_8_8 := (hO_6 8 (by decide)).trans ((pm rfl).trans ta_7_8)
    have ta_8_10 := (hO_6 10 (by decide)).trans ((pm rfl).trans ta_7_10)
    have ta_8_11 := (hO_6 11 (by decide)).trans ((pm rfl).trans ta_7_11)
    have ta_8_12 := (hO_6 12 (by decide)).trans ((pm rfl).trans ta_7_12)
    have ta_8_13 := (hO_6 13 (by decide)).trans ((pm rfl).trans ta_7_13)
    have ta_8_16 := (hO_6 16 (by decide)).trans ((pm rfl).trans ta_7_16)
    have ta_8_0 := (hO_6 0 (by decide)).trans ((pm rfl).trans ta_7_0)
    have ta_8_1 := (hO_6 1 (by decide)).trans ((pm rfl).trans ta_7_1)
    have ta_8_32 := (hO_6 32 (by decide)).trans ((pm rfl).trans ta_7_32)
    have ta_8_33 := (hO_6 33 (by decide)).trans ((pm rfl).trans ta_7_33)
    have ta_8_31 := (hO_6 31 (by decide)).trans ((pm rfl).trans ta_7_31)
    have ta_8_34 := (hO_6 34 (by decide)).trans ((pm rfl).trans ta_7_34)
    have ta_8_35 := (hO_6 35 (by decide)).trans ((pm rfl).trans ta_7_35)
    have ta_8_6 := (hO_6 6 (by decide)).trans ((pm rfl).trans ta_7_6)
    have ta_8_7 := (hO_6 7 (by decide)).trans ((pm rfl).trans ta_7_7)
    have ta_8_37 := (hO_6 37 (by decide)).trans ((pm rfl).trans ta_7_37)
    have ta_8_38 := (hO_6 38 (by decide)).trans ((pm rfl).trans ta_7_38)
    have ta_8_36 := (hO_6 36 (by decide)).trans ((pm rfl).trans ta_7_36)
    have ta_8_39 := (hO_6 39 (by decide)).trans ((pm rfl).trans ta_7_39)
    have ta_8_40 := (hO_6 40 (by decide)).trans ((pm rfl).trans ta_7_40)
    have ta_8_9 := (hO_6 9 (by decide)).trans ((pm rfl).trans ta_7_9)
    have ta_8_41 := (hO_6 41 (by decide)).trans ((pm rfl).trans ta_7_41)
    have ta_8_42 := (hO_6 42 (by decide)).trans ((pm rfl).trans ta_7_42)
    have ta_8_43 := (hO_6 43 (by decide)).trans ((pm rfl).trans ta_7_43)
    have ta_8_44 := (hO_6 44 (by decide)).trans ((pm rfl).trans ta_7_44)
    have ta_8_45 := (hO_6 45 (by decide)).trans ((pm rfl).trans ta_7_45)
    have ta_8_46 := (hO_6 46 (by decide)).trans ((pm rfl).trans ta_7_46)
    have ta_8_47 := (hO_6 47 (by decide)).trans ((pm rfl).trans ta_7_47)
    have ta_8_48 := (hO_6 48 (by decide)).trans ((pm rfl).trans ta_7_48)
    have ta_8_49 := (hO_6 49 (by decide)).trans ((pm rfl).trans ta_7_49)
    have ta_8_50 := (hO_6 50 (by decide)).trans ((pm rfl).trans ta_7_50)
    have ta_8_14 := (hO_6 14 (by decide)).trans ((pm rfl).trans ta_7_14)
    have ta_8_15 := (hO_6 15 (by decide)).trans ((pm rfl).trans ta_7_15)
    have ta_8_72 := (hO_6 72 (by decide)).trans ((pm rfl).trans ta_7_72)
    have ta_8_17 := (hO_6 17 (by decide)).trans ((pm rfl).trans ta_7_17)
    have ta_8_18 := (hO_6 18 (by decide)).trans ((pm rfl).trans ta_7_18)
    have ta_8_73 := (hO_6 73 (by decide)).trans ((pm rfl).trans ta_7_73)
    have ta_8_74 := (hO_6 74 (by decide)).trans ((pm rfl).trans ta_7_74)
    have ta_8_75 := (hO_6 75 (by decide)).trans ((pm rfl).trans ta_7_75)
    have ta_8_76 := (hO_6 76 (by decide)).trans ((pm rfl).trans ta_7_76)
    have ta_8_77 := (hO_6 77 (by decide)).trans ((pm rfl).trans ta_7_77)
    have ta_8_78 := (hO_6 78 (by decide)).trans ((pm rfl).trans ta_7_78)
    have ta_8_19 := (hO_6 19 (by decide)).trans ((pm rfl).trans ta_7_19)
    have ta_8_20 := (hO_6 20 (by decide)).trans ((pm rfl).trans ta_7_20)
    have ta_8_79 := (hO_6 79 (by decide)).trans ((pm rfl).trans ta_7_79)
    have ta_8_80 := (hO_6 80 (by decide)).trans ((pm rfl).trans ta_7_80)
    have ta_8_81 := (hO_6 81 (by decide)).trans ((pm rfl).trans ta_7_81)
    have ta_8_82 := (hO_6 82 (by decide)).trans ((pm rfl).trans ta_7_82)
    have ta_8_83 := (hO_6 83 (by decide)).trans ((pm rfl).trans ta_7_83)
    have ta_8_84 := (hO_6 84 (by decide)).trans ((pm rfl).trans ta_7_84)
    have ta_8_21 := (hO_6 21 (by decide)).trans ((pm rfl).trans ta_7_21)
    have ta_8_22 := (hO_6 22 (by decide)).trans ((pm rfl).trans ta_7_22)
    have ta_8_85 := (hO_6 85 (by decide)).trans ((pm rfl).trans ta_7_85)
    have ta_8_86 := (hO_6 86 (by decide)).trans ((pm rfl).trans ta_7_86)
    have ta_8_87 := (hO_6 87 (by decide)).trans ((pm rfl).trans ta_7_87)
    have ta_8_88 := (hO_6 88 (by decide)).trans ((pm rfl).trans ta_7_88)
    have ta_8_89 := (hO_6 89 (by decide)).trans ((pm rfl).trans ta_7_89)
    have ta_8_90 := (hO_6 90 (by decide)).trans ((pm rfl).trans ta_7_90)
    have ta_8_91 : a_8.eval (.tmp 91) = .agg (iws .u64 (dg (((mS cl u K).1 + (mS cl u K).2.1) * ((mS cl u K).1 + (mS cl u K).2.1)))).toArray := (hO_6 91 (by decide)).trans (pe hs_7 rfl rfl)
    have ta_8_92 : a_8.eval (.tmp 92) = .agg (iws .u64 (dg (((mS cl u K).1 - (mS cl u K).2.1) * ((mS cl u K).1 - (mS cl u K).2.1)))).toArray := (hO_6 92 (by decide)).trans (pe hs_7 rfl rfl)
    have ta_8_93 : a_8.eval (.tmp 93) = .agg (iws .u64 (dg ((((mS cl u K).1 + (mS cl u K).2.1) * ((mS cl u K).1 + (mS cl u K).2.1)) - (((mS cl u K).1 - (mS cl u K).2.1) * ((mS cl u K).1 - (mS cl u K).2.1))))).toArray := (hO_6 93 (by decide)).trans (pe hs_7 rfl rfl)
    have ta_8_23 : a_8.eval (.tmp 23) = .pointer (some ⟨g_12, 0, none⟩) := (hO_6 23 (by decide)).trans (pe hs_7 rfl rfl)
    clear ta_7_4 ta_7_5 ta_7_8 ta_7_10 ta_7_11 ta_7_12 ta_7_13 ta_7_16 ta_7_0 ta_7_1 ta_7_32 ta_7_33 ta_7_31 ta_7_34 ta_7_35 ta_7_6 ta_7_7 ta_7_37 ta_7_38 ta_7_36 ta_7_39 ta_7_40 ta_7_9 ta_7_41 ta_7_42 ta_7_43 ta_7_44 ta_7_45 ta_7_46 ta_7_47 ta_7_48 ta_7_49 ta_7_50 ta_7_14 ta_7_15 ta_7_72 ta_7_17 ta_7_18 ta_7_73 ta_7_74 ta_7_75 ta_7_76 ta_7_77 ta_7_78 ta_7_19 ta_7_20 ta_7_79 ta_7_80 ta_7_81 ta_7_82 ta_7_83 ta_7_84 ta_7_21 ta_7_22 ta_7_85 ta_7_86 ta_7_87 ta_7_88 ta_7_89 ta_7_90 hd_7
    obtain ⟨ta_8_24, hle_13, hB_28⟩ := hN_5 0 _ rfl _ rfl
    obtain ⟨ta_8_25, hle_14, hB_29⟩ := hN_5 1 _ rfl _ rfl
    have ne_67 : gf_5 6 ≠ gf_5 7 := hG_5 0 1 _ _ rfl rfl (by dsimp only; omega)
    clear hN_5 hG_5
    dsimp only at ta_8_24 hle_13 hB_28 ta_8_25 hle_14 hB_29
    generalize gf_5 6 = g_13 at *
    generalize gf_5 7 = g_14 at *
    have ne_68 : g_1 ≠ g_13 := Nat.ne_of_lt (Nat.lt_of_lt_of_le B8.lt hle_13)
    have ne_69 : g_2 ≠ g_13 := Nat.ne_of_lt (Nat.lt_of_lt_of_le B10.lt hle_13)
    have ne_70 : g_3 ≠ g_13 := Nat.ne_of_lt (Nat.lt_of_lt_of_le B11.lt hle_13)
    have ne_71 : g_4 ≠ g_13 := Nat.ne_of_lt (Nat.lt_of_lt_of_le B12.lt hle_13)
    have ne_72 : g_5 ≠ g_13 := Nat.ne_of_lt (Nat.lt_of_lt_of_le B13.lt hle_13)
    have ne_77 : g_10 ≠ g_13 := Nat.ne_of_lt (Nat.lt_of_lt_of_le hB_24.lt hle_13)
    have ne_78 : g_11 ≠ g_13 := Nat.ne_of_lt (Nat.lt_of_lt_of_le hB_25.lt hle_13)
    have ne_79 : g_12 ≠ g_13 := Nat.ne_of_lt (Nat.lt_of_lt_of_le hB_27.lt hle_13)
    have ge_13 : w.heap.size ≤ g_13 := Nat.le_trans HB_22.size hle_13
    have ne_80 : g_1 ≠ g_14 := Nat.ne_of_lt (Nat.lt_of_lt_of_le B8.lt hle_14)
    have ne_81 : g_2 ≠ g_14 := Nat.ne_of_lt (Nat.lt_of_lt_of_le B10.lt hle_14)
    have ne_82 : g_3 ≠ g_14 := Nat.ne_of_lt (Nat.lt_of_lt_of_le B11.lt hle_14)
    have ne_83 : g_4 ≠ g_14 := Nat.ne_of_lt (Nat.lt_of_lt_of_le B12.lt hle_14)
    have ne_84 : g_5 ≠ g_14 := Nat.ne_of_lt (Nat.lt_of_lt_of_le B13.lt hle_14)
    have ne_89 : g_10 ≠ g_14 := Nat.ne_of_lt (Nat.lt_of_lt_of_le hB_24.lt hle_14)
    have ne_90 : g_11 ≠ g_14 := Nat.ne_of_lt (Nat.lt_of_lt_of_le hB_25.lt hle_14)
    have ne_91 : g_12 ≠ g_14 := Nat.ne_of_lt (Nat.lt_of_lt_of_le hB_27.lt hle_14)
    have ge_14 : w.heap.size ≤ g_14 := Nat.le_trans HB_22.size hle_14
    replace hCl := hCl.nx hb_23
    replace B8 := B8.nx hb_23
    replace B10 := B10.nx hb_23
    replace B11 := B11.nx hb_23
    replace B12 := B12.nx hb_23
    replace B13 := B13.nx hb_23
    replace hB_24 := hB_24.nx hb_23
    replace hB_25 := hB_25.nx hb_23
    replace hB_27 := hB_27.nx hb_23
    have HB_23 := below_from HB_22 hb_23
    have ta_8_94 : a_8.eval (.tmp 94) = .agg (iws .u64 (dg ((mS cl u K).2.2.1 - (mS cl u K).2.2.2))).toArray := hV_6 0 94 rfl rfl
    have ta_8_95 : a_8.eval (.tmp 95) = .agg (iws .u64 (dg ((mS cl u K).1 + (mS cl u K).2.1))).toArray := hV_6 1 95 rfl rfl
    have ta_8_96 : a_8.eval (.tmp 96) = .agg (iws .u64 (dg (((mS cl u K).2.2.1 - (mS cl u K).2.2.2) * ((mS cl u K).1 + (mS cl u K).2.1)))).toArray := hV_6 2 96 rfl rfl
    have ta_8_97 : a_8.eval (.tmp 97) = .agg (iws .u64 (dg ((mS cl u K).2.2.1 + (mS cl u K).2.2.2))).toArray := hV_6 3 97 rfl rfl
    have ta_8_98 : a_8.eval (.tmp 98) = .agg (iws .u64 (dg ((mS cl u K).1 - (mS cl u K).2.1))).toArray := hV_6 4 98 rfl rfl
    have ta_8_99 : a_8.eval (.tmp 99) = .agg (iws .u64 (dg (((mS cl u K).2.2.1 + (mS cl u K).2.2.2) * ((mS cl u K).1 - (mS cl u K).2.1)))).toArray := hV_6 5 99 rfl rfl
    clear hV_6 hO_6
    simp only [List.drop_succ_cons, List.drop_zero]
    refine op_do rfl rfl (o_storeI rfl ((pm rfl).trans ta_8_24) ((pm rfl).trans ta_8_96) hB_28 (by rw [dg_length]; exact ⟨by kernel_rfl, by kernel_rfl⟩) (by simp [iws, dg_length])) (fun w_27 hR_19 => ?_)
    obtain ⟨hB_30, hX_15⟩ := hR_19
    replace hCl := hCl.keepX hB_28 (by decide) hX_15
    replace B8 := hX_15.blk B8 ne_68
    replace B10 := hX_15.blk B10 ne_69
    replace B11 := hX_15.blk B11 ne_70
    replace B12 := hX_15.blk B12 ne_71
    replace B13 := hX_15.blk B13 ne_72
    replace hB_24 := hX_15.blk hB_24 ne_77
    replace hB_25 := hX_15.blk hB_25 ne_78
    replace hB_27 := hX_15.blk hB_27 ne_79
    replace hB_29 := hX_15.blk hB_29 (Ne.symm ne_67)
    have HB_24 := hX_15.below HB_23 HB_23.size (fun k hk => hk ▸ ge_13)
    clear hB_28
    refine op_do rfl rfl (o_storeI rfl ((pm rfl).trans ta_8_25) ((pm rfl).trans ta_8_99) hB_29 (by rw [dg_length]; exact ⟨by kernel_rfl, by kernel_rfl⟩) (by simp [iws, dg_length])) (fun w_28 hR_20 => ?_)
    obtain ⟨hB_31, hX_16⟩ := hR_20
    replace hCl := hCl.keepX hB_29 (by decide) hX_16
    replace B8 := hX_16.blk B8 ne_80
    replace B10 := hX_16.blk B10 ne_81
    replace B11 := hX_16.blk B11 ne_82
    replace B12 := hX_16.blk B12 ne_83
    replace B13 := hX_16.blk B13 ne_84
    replace hB_24 := hX_16.blk hB_24 ne_89
    replace hB_25 := hX_16.blk hB_25 ne_90
    replace hB_27 := hX_16.blk hB_27 ne_91
    replace hB_30 := hX_16.blk hB_30 ne_67
    have HB_25 := hX_16.below HB_24 HB_24.size (fun k hk => hk ▸ ge_14)
    clear hB_29
    refine x_nil (hK_24 _ _ ?_)
    refine w2_seq (fun K_25 hK_25 => ?_)
    refine x_drawnA 8 [fun _ v => v = .agg (iws .u64 (dg (((mS cl u K).2.2.1 - (mS cl u K).2.2.2) * ((mS cl u K).1 + (mS cl u K).2.1)))).toArray, fun _ v => v = .agg (iws .u64 (dg (((mS cl u K).2.2.1 + (mS cl u K).2.2.2) * ((mS cl u K).1 - (mS cl u K).2.1)))).toArray, fun _ v => v = .agg (iws .u64 (dg ((((mS cl u K).2.2.1 - (mS cl u K).2.2.2) * ((mS cl u K).1 + (mS cl u K).2.1)) + (((mS cl u K).2.2.1 + (mS cl u K).2.2.2) * ((mS cl u K).1 - (mS cl u K).2.1))))).toArray, fun _ v => v = .agg (iws .u64 (dg (((mS cl u K).2.2.1 - (mS cl u K).2.2.2) * ((mS cl u K).1 + (mS cl u K).2.1)))).toArray, fun _ v => v = .agg (iws .u64 (dg (((mS cl u K).2.2.1 + (mS cl u K).2.2.2) * ((mS cl u K).1 - (mS cl u K).2.1)))).toArray, fun _ v => v = .agg (iws .u64 (dg ((((mS cl u K).2.2.1 - (mS cl u K).2.2.2) * ((mS cl u K).1 + (mS cl u K).2.1)) - (((mS cl u K).2.2.1 + (mS cl u K).2.2.2) * ((mS cl u K).1 - (mS cl u K).2.1))))).toArray, fun _ _ => True, fun _ _ => True] [⟨6, 906, (iws .u64 (List.replicate 16 0)).toArray, (iws .u64 (List.replicate 16 0)).toArray, 32⟩, ⟨7, 907, (iws .u64 (List.replicate 16 0)).toArray, (iws .u64 (List.replicate 16 0)).toArray, 32⟩] [100, 101, 102, 103, 104, 105, 26, 27] hs_8 hd_8 (by kernel_rfl) (by kernel_rfl) (by kernel_rfl) (by kernel_rfl) (by kernel_rfl) (by intro e he; simp only [List.mem_cons, List.not_mem_nil, or_false] at he; rcases he with rfl | rfl <;> first | exact ⟨by dsimp only; omega, .inl (by dsimp only; omega)⟩ | exact ⟨by dsimp only; omega, .inr rfl⟩) (fun i w w' v h => AllLit.nth (l := [fun _ v => v = .agg (iws .u64 (dg (((mS cl u K).2.2.1 - (mS cl u K).2.2.2) * ((mS cl u K).1 + (mS cl u K).2.1)))).toArray, fun _ v => v = .agg (iws .u64 (dg (((mS cl u K).2.2.1 + (mS cl u K).2.2.2) * ((mS cl u K).1 - (mS cl u K).2.1)))).toArray, fun _ v => v = .agg (iws .u64 (dg ((((mS cl u K).2.2.1 - (mS cl u K).2.2.2) * ((mS cl u K).1 + (mS cl u K).2.1)) + (((mS cl u K).2.2.1 + (mS cl u K).2.2.2) * ((mS cl u K).1 - (mS cl u K).2.1))))).toArray, fun _ v => v = .agg (iws .u64 (dg (((mS cl u K).2.2.1 - (mS cl u K).2.2.2) * ((mS cl u K).1 + (mS cl u K).2.1)))).toArray, fun _ v => v = .agg (iws .u64 (dg (((mS cl u K).2.2.1 + (mS cl u K).2.2.2) * ((mS cl u K).1 - (mS cl u K).2.1)))).toArray, fun _ v => v = .agg (iws .u64 (dg ((((mS cl u K).2.2.1 - (mS cl u K).2.2.2) * ((mS cl u K).1 + (mS cl u K).2.1)) - (((mS cl u K).2.2.1 + (mS cl u K).2.2.2) * ((mS cl u K).1 - (mS cl u K).2.1))))).toArray, fun _ _ => True, fun _ _ => True]) ⟨litL, litL, litL, litL, litL, litL, litL, litL, trivial⟩ i w w' v h) ⟨(by exact ⟨rfl, .inl ⟨fun a' w' hb' hO hD => by
      have d_42 := (hO 24 (by decide)).trans ((pm rfl).trans ta_8_24)
      exact .inl ⟨_, _, (o_loadI rfl d_42 (hB_30.nx hb') (by rw [dg_length]; exact ⟨by kernel_rfl, by kernel_rfl⟩)), rfl, Below.refl _ _⟩, (by intro e he; simp only [List.mem_cons, List.not_mem_nil, or_false] at he; rcases he with rfl | rfl <;> exact ⟨by dsimp only; omega, by dsimp only; omega⟩), rfl⟩⟩),
(by exact ⟨rfl, .inl ⟨fun a' w' hb' hO hD => by
      have d_43 := (hO 25 (by decide)).trans ((pm rfl).trans ta_8_25)
      exact .inl ⟨_, _, (o_loadI rfl d_43 (hB_31.nx hb') (by rw [dg_length]; exact ⟨by kernel_rfl, by kernel_rfl⟩)), rfl, Below.refl _ _⟩, (by intro e he; simp only [List.mem_cons, List.not_mem_nil, or_false] at he; rcases he with rfl | rfl <;> exact ⟨by dsimp only; omega, by dsimp only; omega⟩), rfl⟩⟩),
(by exact ⟨rfl, .inl ⟨fun a' w' hb' hO hD => by
      have d_44 : a'.eval (.tmp 100) = .agg (iws .u64 (dg (((mS cl u K).2.2.1 - (mS cl u K).2.2.2) * ((mS cl u K).1 + (mS cl u K).2.1)))).toArray := hD 0 100 (by kernel_rfl) rfl
      have d_45 : a'.eval (.tmp 101) = .agg (iws .u64 (dg (((mS cl u K).2.2.1 + (mS cl u K).2.2.2) * ((mS cl u K).1 - (mS cl u K).2.1)))).toArray := hD 1 101 (by kernel_rfl) rfl
      exact .inr ⟨_, #[.agg (iws .u64 (dg (((mS cl u K).2.2.1 - (mS cl u K).2.2.2) * ((mS cl u K).1 + (mS cl u K).2.1)))).toArray, .agg (iws .u64 (dg (((mS cl u K).2.2.1 + (mS cl u K).2.2.2) * ((mS cl u K).1 - (mS cl u K).2.1)))).toArray], (exec_call Try.func13 (by kernel_rfl) (by kernel_rfl) _ rfl _ _ (args2 d_44 d_45)), Calls.mono (AddNum_any _) (fun e w'' hR => by obtain ⟨rfl, hb_24⟩ := hR; exact ⟨_, rfl, rfl, hb_24⟩)⟩, (by intro e he; simp only [List.mem_cons, List.not_mem_nil, or_false] at he; rcases he with rfl | rfl <;> exact ⟨by dsimp only; omega, by dsimp only; omega⟩), rfl⟩⟩),
(by exact ⟨rfl, .inl ⟨fun a' w' hb' hO hD => by
      have d_46 := (hO 24 (by decide)).trans ((pm rfl).trans ta_8_24)
      exact .inl ⟨_, _, (o_loadI rfl d_46 (hB_30.nx hb') (by rw [dg_length]; exact ⟨by kernel_rfl, by kernel_rfl⟩)), rfl, Below.refl _ _⟩, (by intro e he; simp only [List.mem_cons, List.not_mem_nil, or_false] at he; rcases he with rfl | rfl <;> exact ⟨by dsimp only; omega, by dsimp only; omega⟩), rfl⟩⟩),
(by exact ⟨rfl, .inl ⟨fun a' w' hb' hO hD => by
      have d_47 := (hO 25 (by decide)).trans ((pm rfl).trans ta_8_25)
      exact .inl ⟨_, _, (o_loadI rfl d_47 (hB_31.nx hb') (by rw [dg_length]; exact ⟨by kernel_rfl, by kernel_rfl⟩)), rfl, Below.refl _ _⟩, (by intro e he; simp only [List.mem_cons, List.not_mem_nil, or_false] at he; rcases he with rfl | rfl <;> exact ⟨by dsimp only; omega, by dsimp only; omega⟩), rfl⟩⟩),
(by exact ⟨rfl, .inl ⟨fun a' w' hb' hO hD => by
      have d_48 : a'.eval (.tmp 103) = .agg (iws .u64 (dg (((mS cl u K).2.2.1 - (mS cl u K).2.2.2) * ((mS cl u K).1 + (mS cl u K).2.1)))).toArray := hD 3 103 (by kernel_rfl) rfl
      have d_49 : a'.eval (.tmp 104) = .agg (iws .u64 (dg (((mS cl u K).2.2.1 + (mS cl u K).2.2.2) * ((mS cl u K).1 - (mS cl u K).2.1)))).toArray := hD 4 104 (by kernel_rfl) rfl
      exact .inr ⟨_, #[.agg (iws .u64 (dg (((mS cl u K).2.2.1 - (mS cl u K).2.2.2) * ((mS cl u K).1 + (mS cl u K).2.1)))).toArray, .agg (iws .u64 (dg (((mS cl u K).2.2.1 + (mS cl u K).2.2.2) * ((mS cl u K).1 - (mS cl u K).2.1)))).toArray], (exec_call Try.func15 (by kernel_rfl) (by kernel_rfl) _ rfl _ _ (args2 d_48 d_49)), Calls.mono (SubNum_any _) (fun e w'' hR => by obtain ⟨rfl, hb_25⟩ := hR; exact ⟨_, rfl, rfl, hb_25⟩)⟩, (by intro e he; simp only [List.mem_cons, List.not_mem_nil, or_false] at he; rcases he with rfl | rfl <;> exact ⟨by dsimp only; omega, by dsimp only; omega⟩), rfl⟩⟩),
(by exact ⟨rfl, .inr (.inl ⟨_, (.head _), rfl, rfl, fun _ _ => trivial, (by intro e he; simp only [List.mem_cons, List.not_mem_nil, or_false] at he; rcases he with rfl | rfl <;> exact ⟨by dsimp only; omega, fun h => by first | (exfalso; dsimp only at h; omega) | rfl⟩), fun a' w' hb' => o_alloc (zs := (iws .u64 (List.replicate 16 0)).toArray) rfl (fun _ => by kernel_rfl)⟩)⟩),
(by exact ⟨rfl, .inr (.inl ⟨_, (.tail _ (.head _)), rfl, rfl, fun _ _ => trivial, (by intro e he; simp only [List.mem_cons, List.not_mem_nil, or_false] at he; rcases he with rfl | rfl <;> exact ⟨by dsimp only; omega, fun h => by first | (exfalso; dsimp only at h; omega) | rfl⟩), fun a' w' hb' => o_alloc (zs := (iws .u64 (List.replicate 16 0)).toArray) rfl (fun _ => by kernel_rfl)⟩)⟩), trivial⟩ (fun a_9 w_29 gf_6 hs_9 hd_9 hb_26 hO_7 hV_7 hN_6 hG_6 => ?_)
    have ta_9_4 := (hO_7 4 (by decide)).trans ((pm rfl).trans ta_8_4)
    have ta_9_5 := (hO_7 5 (by decide)).trans ((pm rfl).trans ta_8_5)
    have ta_9_8 := (hO_7 8 (by decide)).trans ((pm rfl).trans ta_8_8)
    have ta_9_10 := (hO_7 10 (by decide)).trans ((pm rfl).trans ta_8_10)
    have ta_9_11 := (hO_7 11 (by decide)).trans ((pm rfl).trans ta_8_11)
    have ta_9_12 := (hO_7 12 (by decide)).trans ((pm rfl).trans ta_8_12)
    have ta_9_13 := (hO_7 13 (by decide)).trans ((pm rfl).trans ta_8_13)
    have ta_9_16 := (hO_7 16 (by decide)).trans ((pm rfl).trans ta_8_16)
    have ta_9_0 := (hO_7 0 (by decide)).trans ((pm rfl).trans ta_8_0)
    have ta_9_1 := (hO_7 1 (by decide)).trans ((pm rfl).trans ta_8_1)
    have ta_9_32 := (hO_7 32 (by decide)).trans ((pm rfl).trans ta_8_32)
    have ta_9_33 := (hO_7 33 (by decide)).trans ((pm rfl).trans ta_8_33)
    have ta_9_31 := (hO_7 31 (by decide)).trans ((pm rfl).trans ta_8_31)
    have ta_9_34 := (hO_7 34 (by decide)).trans ((pm rfl).trans ta_8_34)
    have ta_9_35 := (hO_7 35 (by decide)).trans ((pm rfl).trans ta_8_35)
    have ta_9_6 := (hO_7 6 (by decide)).trans ((pm rfl).trans ta_8_6)
    have ta_9_7 := (hO_7 7 (by decide)).trans ((pm rfl).trans ta_8_7)
    have ta_9_37 := (hO_7 37 (by decide)).trans ((pm rfl).trans ta_8_37)
    have ta_9_38 := (hO_7 38 (by decide)).trans ((pm rfl).trans ta_8_38)
    have ta_9_36 := (hO_7 36 (by decide)).trans ((pm rfl).trans ta_8_36)
    have ta_9_39 := (hO_7 39 (by decide)).trans ((pm rfl).trans ta_8_39)
    have ta_9_40 := (hO_7 40 (by decide)).trans ((pm rfl).trans ta_8_40)
    have ta_9_9 := (hO_7 9 (by decide)).trans ((pm rfl).trans ta_8_9)
    have ta_9_41 := (hO_7 41 (by decide)).trans ((pm rfl).trans ta_8_41)
    have ta_9_42 := (hO_7 42 (by decide)).trans ((pm rfl).trans ta_8_42)
    have ta_9_43 := (hO_7 43 (by decide)).trans ((pm rfl).trans ta_8_43)
    have ta_9_44 := (hO_7 44 (by decide)).trans ((pm rfl).trans ta_8_44)
    have ta_9_45 := (hO_7 45 (by decide)).trans ((pm rfl).trans ta_8_45)
    have ta_9_46 := (hO_7 46 (by decide)).trans ((pm rfl).trans ta_8_46)
    have ta_9_47 := (hO_7 47 (by decide)).trans ((pm rfl).trans ta_8_47)
    have ta_9_48 := (hO_7 48 (by decide)).trans ((pm rfl).trans ta_8_48)
    have ta_9_49 := (hO_7 49 (by decide)).trans ((pm rfl).trans ta_8_49)
    have ta_9_50 := (hO_7 50 (by decide)).trans ((pm rfl).trans ta_8_50)
    have ta_9_14 := (hO_7 14 (by decide)).trans ((pm rfl).trans ta_8_14)
    have ta_9_15 := (hO_7 15 (by decide)).trans ((pm rfl).trans ta_8_15)
    have ta_9_72 := (hO_7 72 (by decide)).trans ((pm rfl).trans ta_8_72)
    have ta_9_17 := (hO_7 17 (by decide)).trans ((pm rfl).trans ta_8_17)
    have ta_9_18 := (hO_7 18 (by decide)).trans ((pm rfl).trans ta_8_18)
    have ta_9_73 := (hO_7 73 (by decide)).trans ((pm rfl).trans ta_8_73)
    have ta_9_74 := (hO_7 74 (by decide)).trans ((pm rfl).trans ta_8_74)
    have ta_9_75 := (hO_7 75 (by decide)).trans ((pm rfl).trans ta_8_75)
    have ta_9_76 := (hO_7 76 (by decide)).trans ((pm rfl).trans ta_8_76)
    have ta_9_77 := (hO_7 77 (by decide)).trans ((pm rfl).trans ta_8_77)
    have ta_9_78 := (hO_7 78 (by decide)).trans ((pm rfl).trans ta_8_78)
    have ta_9_19 := (hO_7 19 (by decide)).trans ((pm rfl).trans ta_8_19)
    have ta_9_20 := (hO_7 20 (by decide)).trans ((pm rfl).trans ta_8_20)
    have ta_9_79 := (hO_7 79 (by decide)).trans ((pm rfl).trans ta_8_79)
    have ta_9_80 := (hO_7 80 (by decide)).trans ((pm rfl).trans ta_8_80)
    have ta_9_81 := (hO_7 81 (by decide)).trans ((pm rfl).trans ta_8_81)
    have ta_9_82 := (hO_7 82 (by decide)).trans ((pm rfl).trans ta_8_82)
    have ta_9_83 := (hO_7 83 (by decide)).trans ((pm rfl).trans ta_8_83)
    have ta_9_84 := (hO_7 84 (by decide)).trans ((pm rfl).trans ta_8_84)
    have ta_9_21 := (hO_7 21 (by decide)).trans ((pm rfl).trans ta_8_21)
    have ta_9_22 := (hO_7 22 (by decide)).trans ((pm rfl).trans ta_8_22)
    have ta_9_85 := (hO_7 85 (by decide)).trans ((pm rfl).trans ta_8_85)
    have ta_9_86 := (hO_7 86 (by decide)).trans ((pm rfl).trans ta_8_86)
    have ta_9_87 := (hO_7 87 (by decide)).trans ((pm rfl).trans ta_8_87)
    have ta_9_88 := (hO_7 88 (by decide)).trans ((pm rfl).trans ta_8_88)
    have ta_9_89 := (hO_7 89 (by decide)).trans ((pm rfl).trans ta_8_89)
    have ta_9_90 := (hO_7 90 (by decide)).trans ((pm rfl).trans ta_8_90)
    have ta_9_91 := (hO_7 91 (by decide)).trans ((pm rfl).trans ta_8_91)
    have ta_9_92 := (hO_7 92 (by decide)).trans ((pm rfl).trans ta_8_92)
    have ta_9_93 := (hO_7 93 (by decide)).trans ((pm rfl).trans ta_8_93)
    have ta_9_23 := (hO_7 23 (by decide)).trans ((pm rfl).trans ta_8_23)
    have ta_9_24 := (hO_7 24 (by decide)).trans ((pm rfl).trans ta_8_24)
    have ta_9_25 := (hO_7 25 (by decide)).trans ((pm rfl).trans ta_8_25)
    have ta_9_94 := (hO_7 94 (by decide)).trans ((pm rfl).trans ta_8_94)
    have ta_9_95 := (hO_7 95 (by decide)).trans ((pm rfl).trans ta_8_95)
    have ta_9_96 := (hO_7 96 (by decide)).trans ((pm rfl).trans ta_8_96)
    have ta_9_97 := (hO_7 97 (by decide)).trans ((pm rfl).trans ta_8_97)
    have ta_9_98 := (hO_7 98 (by decide)).trans ((pm rfl).trans ta_8_98)
    have ta_9_99 := (hO_7 99 (by decide)).trans ((pm rfl).trans ta_8_99)
    clear ta_8_4 ta_8_5 ta_8_8 ta_8_10 ta_8_11 ta_8_12 ta_8_13 ta_8_16 ta_8_0 ta_8_1 ta_8_32 ta_8_33 ta_8_31 ta_8_34 ta_8_35 ta_8_6 ta_8_7 ta_8_37 ta_8_38 ta_8_36 ta_8_39 ta_8_40 ta_8_9 ta_8_41 ta_8_42 ta_8_43 ta_8_44 ta_8_45 ta_8_46 ta_8_47 ta_8_48 ta_8_49 ta_8_50 ta_8_14 ta_8_15 ta_8_72 ta_8_17 ta_8_18 ta_8_73 ta_8_74 ta_8_75 ta_8_76 ta_8_77 ta_8_78 ta_8_19 ta_8_20 ta_8_79 ta_8_80 ta_8_81 ta_8_82 ta_8_83 ta_8_84 ta_8_21 ta_8_22 ta_8_85 ta_8_86 ta_8_87 ta_8_88 ta_8_89 ta_8_90 ta_8_91 ta_8_92 ta_8_93 ta_8_23 ta_8_24 ta_8_25 ta_8_94 ta_8_95 ta_8_96 ta_8_97 ta_8_98 ta_8_99 hd_8
    obtain ⟨ta_9_26, hle_15, hB_32⟩ := hN_6 0 _ rfl _ rfl
    obtain ⟨ta_9_27, hle_16, hB_33⟩ := hN_6 1 _ rfl _ rfl
    have ne_92 : gf_6 6 ≠ gf_6 7 := hG_6 0 1 _ _ rfl rfl (by dsimp only; omega)
    clear hN_6 hG_6
    dsimp only at ta_9_26 hle_15 hB_32 ta_9_27 hle_16 hB_33
    generalize gf_6 6 = g_15 at *
    generalize gf_6 7 = g_16 at *
    have ne_93 : g_1 ≠ g_15 := Nat.ne_of_lt (Nat.lt_of_lt_of_le B8.lt hle_15)
    have ne_94 : g_2 ≠ g_15 := Nat.ne_of_lt (Nat.lt_of_lt_of_le B10.lt hle_15)
    have ne_95 : g_3 ≠ g_15 := Nat.ne_of_lt (Nat.lt_of_lt_of_le B11.lt hle_15)
    have ne_96 : g_4 ≠ g_15 := Nat.ne_of_lt (Nat.lt_of_lt_of_le B12.lt hle_15)
    have ne_97 : g_5 ≠ g_15 := Nat.ne_of_lt (Nat.lt_of_lt_of_le B13.lt hle_15)
    have ne_102 : g_10 ≠ g_15 := Nat.ne_of_lt (Nat.lt_of_lt_of_le hB_24.lt hle_15)
    have ne_103 : g_11 ≠ g_15 := Nat.ne_of_lt (Nat.lt_of_lt_of_le hB_25.lt hle_15)
    have ne_104 : g_12 ≠ g_15 := Nat.ne_of_lt (Nat.lt_of_lt_of_le hB_27.lt hle_15)
    have ge_15 : w.heap.size ≤ g_15 := Nat.le_trans HB_25.size hle_15
    have ne_107 : g_1 ≠ g_16 := Nat.ne_of_lt (Nat.lt_of_lt_of_le B8.lt hle_16)
    have ne_108 : g_2 ≠ g_16 := Nat.ne_of_lt (Nat.lt_of_lt_of_le B10.lt hle_16)
    have ne_109 : g_3 ≠ g_16 := Nat.ne_of_lt (Nat.lt_of_lt_of_le B11.lt hle_16)
    have ne_110 : g_4 ≠ g_16 := Nat.ne_of_lt (Nat.lt_of_lt_of_le B12.lt hle_16)
    have ne_111 : g_5 ≠ g_16 := Nat.ne_of_lt (Nat.lt_of_lt_of_le B13.lt hle_16)
    have ne_116 : g_10 ≠ g_16 := Nat.ne_of_lt (Nat.lt_of_lt_of_le hB_24.lt hle_16)
    have ne_117 : g_11 ≠ g_16 := Nat.ne_of_lt (Nat.lt_of_lt_of_le hB_25.lt hle_16)
    have ne_118 : g_12 ≠ g_16 := Nat.ne_of_lt (Nat.lt_of_lt_of_le hB_27.lt hle_16)
    have ge_16 : w.heap.size ≤ g_16 := Nat.le_trans HB_25.size hle_16
    replace hCl := hCl.nx hb_26
    replace B8 := B8.nx hb_26
    replace B10 := B10.nx hb_26
    replace B11 := B11.nx hb_26
    replace B12 := B12.nx hb_26
    replace B13 := B13.nx hb_26
    replace hB_24 := hB_24.nx hb_26
    replace hB_25 := hB_25.nx hb_26
    replace hB_27 := hB_27.nx hb_26
    have HB_26 := below_from HB_25 hb_26
    have ta_9_100 : a_9.eval (.tmp 100) = .agg (iws .u64 (dg (((mS cl u K).2.2.1 - (mS cl u K).2.2.2) * ((mS cl u K).1 + (mS cl u K).2.1)))).toArray := hV_7 0 100 rfl rfl
    have ta_9_101 : a_9.eval (.tmp 101) = .agg (iws .u64 (dg (((mS cl u K).2.2.1 + (mS cl u K).2.2.2) * ((mS cl u K).1 - (mS cl u K).2.1)))).toArray := hV_7 1 101 rfl rfl
    have ta_9_102 : a_9.eval (.tmp 102) = .agg (iws .u64 (dg ((((mS cl u K).2.2.1 - (mS cl u K).2.2.2) * ((mS cl u K).1 + (mS cl u K).2.1)) + (((mS cl u K).2.2.1 + (mS cl u K).2.2.2) * ((mS cl u K).1 - (mS cl u K).2.1))))).toArray := hV_7 2 102 rfl rfl
    have ta_9_103 : a_9.eval (.tmp 103) = .agg (iws .u64 (dg (((mS cl u K).2.2.1 - (mS cl u K).2.2.2) * ((mS cl u K).1 + (mS cl u K).2.1)))).toArray := hV_7 3 103 rfl rfl
    have ta_9_104 : a_9.eval (.tmp 104) = .agg (iws .u64 (dg (((mS cl u K).2.2.1 + (mS cl u K).2.2.2) * ((mS cl u K).1 - (mS cl u K).2.1)))).toArray := hV_7 4 104 rfl rfl
    have ta_9_105 : a_9.eval (.tmp 105) = .agg (iws .u64 (dg ((((mS cl u K).2.2.1 - (mS cl u K).2.2.2) * ((mS cl u K).1 + (mS cl u K).2.1)) - (((mS cl u K).2.2.1 + (mS cl u K).2.2.2) * ((mS cl u K).1 - (mS cl u K).2.1))))).toArray := hV_7 5 105 rfl rfl
    clear hV_7 hO_7
    simp only [List.drop_succ_cons, List.drop_zero]
    refine op_do rfl rfl (o_storeI rfl ((pm rfl).trans ta_9_26) ((pm rfl).trans ta_9_102) hB_32 (by rw [dg_length]; exact ⟨by kernel_rfl, by kernel_rfl⟩) (by simp [iws, dg_length])) (fun w_30 hR_21 => ?_)
    obtain ⟨hB_34, hX_17⟩ := hR_21
    replace hCl := hCl.keepX hB_32 (by decide) hX_17
    replace B8 := hX_17.blk B8 ne_93
    replace B10 := hX_17.blk B10 ne_94
    replace B11 := hX_17.blk B11 ne_95
    replace B12 := hX_17.blk B12 ne_96
    replace B13 := hX_17.blk B13 ne_97
    replace hB_24 := hX_17.blk hB_24 ne_102
    replace hB_25 := hX_17.blk hB_25 ne_103
    replace hB_27 := hX_17.blk hB_27 ne_104
    replace hB_33 := hX_17.blk hB_33 (Ne.symm ne_92)
    have HB_27 := hX_17.below HB_26 HB_26.size (fun k hk => hk ▸ ge_15)
    clear hB_32
    refine op_do rfl rfl (o_storeI rfl ((pm rfl).trans ta_9_27) ((pm rfl).trans ta_9_105) hB_33 (by rw [dg_length]; exact ⟨by kernel_rfl, by kernel_rfl⟩) (by simp [iws, dg_length])) (fun w_31 hR_22 => ?_)
    obtain ⟨hB_35, hX_18⟩ := hR_22
    replace hCl := hCl.keepX hB_33 (by decide) hX_18
    replace B8 := hX_18.blk B8 ne_107
    replace B10 := hX_18.blk B10 ne_108
    replace B11 := hX_18.blk B11 ne_109
    replace B12 := hX_18.blk B12 ne_110
    replace B13 := hX_18.blk B13 ne_111
    replace hB_24 := hX_18.blk hB_24 ne_116
    replace hB_25 := hX_18.blk hB_25 ne_117
    replace hB_27 := hX_18.blk hB_27 ne_118
    replace hB_34 := hX_18.blk hB_34 ne_92
    have HB_28 := hX_18.below HB_27 HB_27.size (fun k hk => hk ▸ ge_16)
    clear hB_33
    refine x_nil (hK_25 _ _ ?_)
    refine w2_seq (fun K_26 hK_26 => ?_)
    refine x_drawn 7 [fun _ v => v = .agg (iws .u64 (dg ((((mS cl u K).2.2.1 - (mS cl u K).2.2.2) * ((mS cl u K).1 + (mS cl u K).2.1)) + (((mS cl u K).2.2.1 + (mS cl u K).2.2.2) * ((mS cl u K).1 - (mS cl u K).2.1))))).toArray, fun _ v => v = .agg (iws .u64 (dg ((((mS cl u K).2.2.1 - (mS cl u K).2.2.2) * ((mS cl u K).1 + (mS cl u K).2.1)) + (((mS cl u K).2.2.1 + (mS cl u K).2.2.2) * ((mS cl u K).1 - (mS cl u K).2.1))))).toArray, fun ww vv => vv = .agg (iws .u64 (dg (((((mS cl u K).2.2.1 - (mS cl u K).2.2.2) * ((mS cl u K).1 + (mS cl u K).2.1)) + (((mS cl u K).2.2.1 + (mS cl u K).2.2.2) * ((mS cl u K).1 - (mS cl u K).2.1))) * ((((mS cl u K).2.2.1 - (mS cl u K).2.2.2) * ((mS cl u K).1 + (mS cl u K).2.1)) + (((mS cl u K).2.2.1 + (mS cl u K).2.2.2) * ((mS cl u K).1 - (mS cl u K).2.1)))))).toArray, fun _ v => v = .agg (iws .u64 (dg u)).toArray, fun _ v => v = .agg (iws .u64 (dg ((((mS cl u K).2.2.1 - (mS cl u K).2.2.2) * ((mS cl u K).1 + (mS cl u K).2.1)) - (((mS cl u K).2.2.1 + (mS cl u K).2.2.2) * ((mS cl u K).1 - (mS cl u K).2.1))))).toArray, fun _ v => v = .agg (iws .u64 (dg ((((mS cl u K).2.2.1 - (mS cl u K).2.2.2) * ((mS cl u K).1 + (mS cl u K).2.1)) - (((mS cl u K).2.2.1 + (mS cl u K).2.2.2) * ((mS cl u K).1 - (mS cl u K).2.1))))).toArray, fun ww vv => vv = .agg (iws .u64 (dg (((((mS cl u K).2.2.1 - (mS cl u K).2.2.2) * ((mS cl u K).1 + (mS cl u K).2.1)) - (((mS cl u K).2.2.1 + (mS cl u K).2.2.2) * ((mS cl u K).1 - (mS cl u K).2.1))) * ((((mS cl u K).2.2.1 - (mS cl u K).2.2.2) * ((mS cl u K).1 + (mS cl u K).2.1)) - (((mS cl u K).2.2.1 + (mS cl u K).2.2.2) * ((mS cl u K).1 - (mS cl u K).2.1)))))).toArray] [106, 107, 108, 109, 110, 111, 112] hs_9 hd_9 (by kernel_rfl) (by kernel_rfl) (by kernel_rfl) (by kernel_rfl) (by kernel_rfl) ⟨stLit, stLit, stLit, stLit, stLit, stLit, stLit, trivial⟩ ⟨(step_ok rfl (fun a' w' hb' hO hD => by
      have d_50 := (hO 26 (by decide)).trans ((pm rfl).trans ta_9_26)
      exact .inl ⟨_, _, (o_loadI rfl d_50 (hB_34.nx hb') (by rw [dg_length]; exact ⟨by kernel_rfl, by kernel_rfl⟩)), rfl, Below.refl _ _⟩)),
(step_ok rfl (fun a' w' hb' hO hD => by
      have d_51 := (hO 26 (by decide)).trans ((pm rfl).trans ta_9_26)
      exact .inl ⟨_, _, (o_loadI rfl d_51 (hB_34.nx hb') (by rw [dg_length]; exact ⟨by kernel_rfl, by kernel_rfl⟩)), rfl, Below.refl _ _⟩)),
(step_ok rfl (fun a' w' hb' hO hD => by
      have d_52 : a'.eval (.tmp 106) = .agg (iws .u64 (dg ((((mS cl u K).2.2.1 - (mS cl u K).2.2.2) * ((mS cl u K).1 + (mS cl u K).2.1)) + (((mS cl u K).2.2.1 + (mS cl u K).2.2.2) * ((mS cl u K).1 - (mS cl u K).2.1))))).toArray := hD 0 106 (by kernel_rfl) rfl
      have d_53 : a'.eval (.tmp 107) = .agg (iws .u64 (dg ((((mS cl u K).2.2.1 - (mS cl u K).2.2.2) * ((mS cl u K).1 + (mS cl u K).2.1)) + (((mS cl u K).2.2.1 + (mS cl u K).2.2.2) * ((mS cl u K).1 - (mS cl u K).2.1))))).toArray := hD 1 107 (by kernel_rfl) rfl
      exact .inr ⟨_, #[.agg (iws .u64 (dg ((((mS cl u K).2.2.1 - (mS cl u K).2.2.2) * ((mS cl u K).1 + (mS cl u K).2.1)) + (((mS cl u K).2.2.1 + (mS cl u K).2.2.2) * ((mS cl u K).1 - (mS cl u K).2.1))))).toArray, .agg (iws .u64 (dg ((((mS cl u K).2.2.1 - (mS cl u K).2.2.2) * ((mS cl u K).1 + (mS cl u K).2.1)) + (((mS cl u K).2.2.1 + (mS cl u K).2.2.2) * ((mS cl u K).1 - (mS cl u K).2.1))))).toArray], (exec_call Try.func17 (by kernel_rfl) (by kernel_rfl) _ rfl _ _ (args2 d_52 d_53)), Calls.mono (MulNum_any _) (fun e w'' hR => by obtain ⟨rfl, hb_27⟩ := hR; exact ⟨_, rfl, rfl, hb_27⟩)⟩)),
(step_ok rfl (fun a' w' hb' hO hD => by
      have d_54 := (hO 8 (by decide)).trans ((pm rfl).trans ta_9_8)
      exact .inl ⟨_, _, (o_loadI rfl d_54 (B8.nx hb') (by rw [dg_length]; exact ⟨by kernel_rfl, by kernel_rfl⟩)), rfl, Below.refl _ _⟩)),
(step_ok rfl (fun a' w' hb' hO hD => by
      have d_55 := (hO 27 (by decide)).trans ((pm rfl).trans ta_9_27)
      exact .inl ⟨_, _, (o_loadI rfl d_55 (hB_35.nx hb') (by rw [dg_length]; exact ⟨by kernel_rfl, by kernel_rfl⟩)), rfl, Below.refl _ _⟩)),
(step_ok rfl (fun a' w' hb' hO hD => by
      have d_56 := (hO 27 (by decide)).trans ((pm rfl).trans ta_9_27)
      exact .inl ⟨_, _, (o_loadI rfl d_56 (hB_35.nx hb') (by rw [dg_length]; exact ⟨by kernel_rfl, by kernel_rfl⟩)), rfl, Below.refl _ _⟩)),
(step_ok rfl (fun a' w' hb' hO hD => by
      have d_57 : a'.eval (.tmp 110) = .agg (iws .u64 (dg ((((mS cl u K).2.2.1 - (mS cl u K).2.2.2) * ((mS cl u K).1 + (mS cl u K).2.1)) - (((mS cl u K).2.2.1 + (mS cl u K).2.2.2) * ((mS cl u K).1 - (mS cl u K).2.1))))).toArray := hD 4 110 (by kernel_rfl) rfl
      have d_58 : a'.eval (.tmp 111) = .agg (iws .u64 (dg ((((mS cl u K).2.2.1 - (mS cl u K).2.2.2) * ((mS cl u K).1 + (mS cl u K).2.1)) - (((mS cl u K).2.2.1 + (mS cl u K).2.2.2) * ((mS cl u K).1 - (mS cl u K).2.1))))).toArray := hD 5 111 (by kernel_rfl) rfl
      exact .inr ⟨_, #[.agg (iws .u64 (dg ((((mS cl u K).2.2.1 - (mS cl u K).2.2.2) * ((mS cl u K).1 + (mS cl u K).2.1)) - (((mS cl u K).2.2.1 + (mS cl u K).2.2.2) * ((mS cl u K).1 - (mS cl u K).2.1))))).toArray, .agg (iws .u64 (dg ((((mS cl u K).2.2.1 - (mS cl u K).2.2.2) * ((mS cl u K).1 + (mS cl u K).2.1)) - (((mS cl u K).2.2.1 + (mS cl u K).2.2.2) * ((mS cl u K).1 - (mS cl u K).2.1))))).toArray], (exec_call Try.func17 (by kernel_rfl) (by kernel_rfl) _ rfl _ _ (args2 d_57 d_58)), Calls.mono (MulNum_any _) (fun e w'' hR => by obtain ⟨rfl, hb_28⟩ := hR; exact ⟨_, rfl, rfl, hb_28⟩)⟩)), trivial⟩ (fun a_10 w_32 hs_10 hd_10 hb_29 hO_8 hV_8 => ?_)
    have ta_10_4 := (hO_8 4 (by decide)).trans ((pm rfl).trans ta_9_4)
    have ta_10_5 := (hO_8 5 (by decide)).trans ((pm rfl).trans ta_9_5)
    have ta_10_8 := (hO_8 8 (by decide)).trans ((pm rfl).trans ta_9_8)
    have ta_10_10 := (hO_8 10 (by decide)).trans ((pm rfl).trans ta_9_10)
    have ta_10_11 := (hO_8 11 (by decide)).trans ((pm rfl).trans ta_9_11)
    have ta_10_12 := (hO_8 12 (by decide)).trans ((pm rfl).trans ta_9_12)
    have ta_10_13 := (hO_8 13 (by decide)).trans ((pm rfl).trans ta_9_13)
    have ta_10_16 := (hO_8 16 (by decide)).trans ((pm rfl).trans ta_9_16)
    have ta_10_0 := (hO_8 0 (by decide)).trans ((pm rfl).trans ta_9_0)
    have ta_10_1 := (hO_8 1 (by decide)).trans ((pm rfl).trans ta_9_1)
    have ta_10_32 := (hO_8 32 (by decide)).trans ((pm rfl).trans ta_9_32)
    have ta_10_33 := (hO_8 33 (by decide)).trans ((pm rfl).trans ta_9_33)
    have ta_10_31 := (hO_8 31 (by decide)).trans ((pm rfl).trans ta_9_31)
    have ta_10_34 := (hO_8 34 (by decide)).trans ((pm rfl).trans ta_9_34)
    have ta_10_35 := (hO_8 35 (by decide)).trans ((pm rfl).trans ta_9_35)
    have ta_10_6 := (hO_8 6 (by decide)).trans ((pm rfl).trans ta_9_6)
    have ta_10_7 := (hO_8 7 (by decide)).trans ((pm rfl).trans ta_9_7)
    have ta_10_37 := (hO_8 37 (by decide)).trans ((pm rfl).trans ta_9_37)
    have ta_10_38 := (hO_8 38 (by decide)).trans ((pm rfl).trans ta_9_38)
    have ta_10_36 := (hO_8 36 (by decide)).trans ((pm rfl).trans ta_9_36)
    have ta_10_39 := (hO_8 39 (by decide)).trans ((pm rfl).trans ta_9_39)
    have ta_10_40 := (hO_8 40 (by decide)).trans ((pm rfl).trans ta_9_40)
    have ta_10_9 := (hO_8 9 (by decide)).trans ((pm rfl).trans ta_9_9)
    have ta_10_41 := (hO_8 41 (by decide)).trans ((pm rfl).trans ta_9_41)
    have ta_10_42 := (hO_8 42 (by decide)).trans ((pm rfl).trans ta_9_42)
    have ta_10_43 := (hO_8 43 (by decide)).trans ((pm rfl).trans ta_9_43)
    have ta_10_44 := (hO_8 44 (by decide)).trans ((pm rfl).trans ta_9_44)
    have ta_10_45 := (hO_8 45 (by decide)).trans ((pm rfl).trans ta_9_45)
    have ta_10_46 := (hO_8 46 (by decide)).trans ((pm rfl).trans ta_9_46)
    have ta_10_47 := (hO_8 47 (by decide)).trans ((pm rfl).trans ta_9_47)
    have ta_10_48 := (hO_8 48 (by decide)).trans ((pm rfl).trans ta_9_48)
    have ta_10_49 := (hO_8 49 (by decide)).trans ((pm rfl).trans ta_9_49)
    have ta_10_50 := (hO_8 50 (by decide)).trans ((pm rfl).trans ta_9_50)
    have ta_10_14 := (hO_8 14 (by decide)).trans ((pm rfl).trans ta_9_14)
    have ta_10_15 := (hO_8 15 (by decide)).trans ((pm rfl).trans ta_9_15)
    have ta_10_72 := (hO_8 72 (by decide)).trans ((pm rfl).trans ta_9_72)
    have ta_10_17 := (hO_8 17 (by decide)).trans ((pm rfl).trans ta_9_17)
    have ta_10_18 := (hO_8 18 (by decide)).trans ((pm rfl).trans ta_9_18)
    have ta_10_73 := (hO_8 73 (by decide)).trans ((pm rfl).trans ta_9_73)
    have ta_10_74 := (hO_8 74 (by decide)).trans ((pm rfl).trans ta_9_74)
    have ta_10_75 := (hO_8 75 (by decide)).trans ((pm rfl).trans ta_9_75)
    have ta_10_76 := (hO_8 76 (by decide)).trans ((pm rfl).trans ta_9_76)
    have ta_10_77 := (hO_8 77 (by decide)).trans ((pm rfl).trans ta_9_77)
    have ta_10_78 := (hO_8 78 (by decide)).trans ((pm rfl).trans ta_9_78)
    have ta_10_19 := (hO_8 19 (by decide)).trans ((pm rfl).trans ta_9_19)
    have ta_10_20 := (hO_8 20 (by decide)).trans ((pm rfl).trans ta_9_20)
    have ta_10_79 := (hO_8 79 (by decide)).trans ((pm rfl).trans ta_9_79)
    have ta_10_80 := (hO_8 80 (by decide)).trans ((pm rfl).trans ta_9_80)
    have ta_10_81 := (hO_8 81 (by decide)).trans ((pm rfl).trans ta_9_81)
    have ta_10_82 := (hO_8 82 (by decide)).trans ((pm rfl).trans ta_9_82)
    have ta_10_83 := (hO_8 83 (by decide)).trans ((pm rfl).trans ta_9_83)
    have ta_10_84 := (hO_8 84 (by decide)).trans ((pm rfl).trans ta_9_84)
    have ta_10_21 := (hO_8 21 (by decide)).trans ((pm rfl).trans ta_9_21)
    have ta_10_22 := (hO_8 22 (by decide)).trans ((pm rfl).trans ta_9_22)
    have ta_10_85 := (hO_8 85 (by decide)).trans ((pm rfl).trans ta_9_85)
    have ta_10_86 := (hO_8 86 (by decide)).trans ((pm rfl).trans ta_9_86)
    have ta_10_87 := (hO_8 87 (by decide)).trans ((pm rfl).trans ta_9_87)
    have ta_10_88 := (hO_8 88 (by decide)).trans ((pm rfl).trans ta_9_88)
    have ta_10_89 := (hO_8 89 (by decide)).trans ((pm rfl).trans ta_9_89)
    have ta_10_90 := (hO_8 90 (by decide)).trans ((pm rfl).trans ta_9_90)
    have ta_10_91 := (hO_8 91 (by decide)).trans ((pm rfl).trans ta_9_91)
    have ta_10_92 := (hO_8 92 (by decide)).trans ((pm rfl).trans ta_9_92)
    have ta_10_93 := (hO_8 93 (by decide)).trans ((pm rfl).trans ta_9_93)
    have ta_10_23 := (hO_8 23 (by decide)).trans ((pm rfl).trans ta_9_23)
    have ta_10_24 := (hO_8 24 (by decide)).trans ((pm rfl).trans ta_9_24)
    have ta_10_25 := (hO_8 25 (by decide)).trans ((pm rfl).trans ta_9_25)
    have ta_10_94 := (hO_8 94 (by decide)).trans ((pm rfl).trans ta_9_94)
    have ta_10_95 := (hO_8 95 (by decide)).trans ((pm rfl).trans ta_9_95)
    have ta_10_96 := (hO_8 96 (by decide)).trans ((pm rfl).trans ta_9_96)
    have ta_10_97 := (hO_8 97 (by decide)).trans ((pm rfl).trans ta_9_97)
    have ta_10_98 := (hO_8 98 (by decide)).trans ((pm rfl).trans ta_9_98)
    have ta_10_99 := (hO_8 99 (by decide)).trans ((pm rfl).trans ta_9_99)
    have ta_10_26 := (hO_8 26 (by decide)).trans ((pm rfl).trans ta_9_26)
    have ta_10_27 := (hO_8 27 (by decide)).trans ((pm rfl).trans ta_9_27)
    have ta_10_100 := (hO_8 100 (by decide)).trans ((pm rfl).trans ta_9_100)
    have ta_10_101 := (hO_8 101 (by decide)).trans ((pm rfl).trans ta_9_101)
    have ta_10_102 := (hO_8 102 (by decide)).trans ((pm rfl).trans ta_9_102)
    have ta_10_103 := (hO_8 103 (by decide)).trans ((pm rfl).trans ta_9_103)
    have ta_10_104 := (hO_8 104 (by decide)).trans ((pm rfl).trans ta_9_104)
    have ta_10_105 := (hO_8 105 (by decide)).trans ((pm rfl).trans ta_9_105)
    clear ta_9_4 ta_9_5 ta_9_8 ta_9_10 ta_9_11 ta_9_12 ta_9_13 ta_9_16 ta_9_0 ta_9_1 ta_9_32 ta_9_33 ta_9_31 ta_9_34 ta_9_35 ta_9_6 ta_9_7 ta_9_37 ta_9_38 ta_9_36 ta_9_39 ta_9_40 ta_9_9 ta_9_41 ta_9_42 ta_9_43 ta_9_44 ta_9_45 ta_9_46 ta_9_47 ta_9_48 ta_9_49 ta_9_50 ta_9_14 ta_9_15 ta_9_72 ta_9_17 ta_9_18 ta_9_73 ta_9_74 ta_9_75 ta_9_76 ta_9_77 ta_9_78 ta_9_19 ta_9_20 ta_9_79 ta_9_80 ta_9_81 ta_9_82 ta_9_83 ta_9_84 ta_9_21 ta_9_22 ta_9_85 ta_9_86 ta_9_87 ta_9_88 ta_9_89 ta_9_90 ta_9_91 ta_9_92 ta_9_93 ta_9_23 ta_9_24 ta_9_25 ta_9_94 ta_9_95 ta_9_96 ta_9_97 ta_9_98 ta_9_99 ta_9_26 ta_9_27 ta_9_100 ta_9_101 ta_9_102 ta_9_103 ta_9_104 ta_9_105 hd_9
    replace hCl := hCl.nx hb_29
    replace B8 := B8.nx hb_29
    replace B10 := B10.nx hb_29
    replace B11 := B11.nx hb_29
    replace B12 := B12.nx hb_29
    replace B13 := B13.nx hb_29
    replace hB_24 := hB_24.nx hb_29
    replace hB_25 := hB_25.nx hb_29
    replace hB_27 := hB_27.nx hb_29
    have HB_29 := below_from HB_28 hb_29
    have ta_10_106 : a_10.eval (.tmp 106) = .agg (iws .u64 (dg ((((mS cl u K).2.2.1 - (mS cl u K).2.2.2) * ((mS cl u K).1 + (mS cl u K).2.1)) + (((mS cl u K).2.2.1 + (mS cl u K).2.2.2) * ((mS cl u K).1 - (mS cl u K).2.1))))).toArray := hV_8 0 106 rfl rfl
    have ta_10_107 : a_10.eval (.tmp 107) = .agg (iws .u64 (dg ((((mS cl u K).2.2.1 - (mS cl u K).2.2.2) * ((mS cl u K).1 + (mS cl u K).2.1)) + (((mS cl u K).2.2.1 + (mS cl u K).2.2.2) * ((mS cl u K).1 - (mS cl u K).2.1))))).toArray := hV_8 1 107 rfl rfl
    have ta_10_108 : a_10.eval (.tmp 108) = .agg (iws .u64 (dg (((((mS cl u K).2.2.1 - (mS cl u K).2.2.2) * ((mS cl u K).1 + (mS cl u K).2.1)) + (((mS cl u K).2.2.1 + (mS cl u K).2.2.2) * ((mS cl u K).1 - (mS cl u K).2.1))) * ((((mS cl u K).2.2.1 - (mS cl u K).2.2.2) * ((mS cl u K).1 + (mS cl u K).2.1)) + (((mS cl u K).2.2.1 + (mS cl u K).2.2.2) * ((mS cl u K).1 - (mS cl u K).2.1)))))).toArray := hV_8 2 108 rfl rfl
    have ta_10_109 : a_10.eval (.tmp 109) = .agg (iws .u64 (dg u)).toArray := hV_8 3 109 rfl rfl
    have ta_10_110 : a_10.eval (.tmp 110) = .agg (iws .u64 (dg ((((mS cl u K).2.2.1 - (mS cl u K).2.2.2) * ((mS cl u K).1 + (mS cl u K).2.1)) - (((mS cl u K).2.2.1 + (mS cl u K).2.2.2) * ((mS cl u K).1 - (mS cl u K).2.1))))).toArray := hV_8 4 110 rfl rfl
    have ta_10_111 : a_10.eval (.tmp 111) = .agg (iws .u64 (dg ((((mS cl u K).2.2.1 - (mS cl u K).2.2.2) * ((mS cl u K).1 + (mS cl u K).2.1)) - (((mS cl u K).2.2.1 + (mS cl u K).2.2.2) * ((mS cl u K).1 - (mS cl u K).2.1))))).toArray := hV_8 5 111 rfl rfl
    have ta_10_112 : a_10.eval (.tmp 112) = .agg (iws .u64 (dg (((((mS cl u K).2.2.1 - (mS cl u K).2.2.2) * ((mS cl u K).1 + (mS cl u K).2.1)) - (((mS cl u K).2.2.1 + (mS cl u K).2.2.2) * ((mS cl u K).1 - (mS cl u K).2.1))) * ((((mS cl u K).2.2.1 - (mS cl u K).2.2.2) * ((mS cl u K).1 + (mS cl u K).2.1)) - (((mS cl u K).2.2.1 + (mS cl u K).2.2.2) * ((mS cl u K).1 - (mS cl u K).2.1)))))).toArray := hV_8 6 112 rfl rfl
    clear hV_8 hO_8
    simp only [List.drop_succ_cons, List.drop_zero]
    refine q_ca (vs := #[.agg (iws .u64 (dg u)).toArray, .agg (iws .u64 (dg (((((mS cl u K).2.2.1 - (mS cl u K).2.2.2) * ((mS cl u K).1 + (mS cl u K).2.1)) - (((mS cl u K).2.2.1 + (mS cl u K).2.2.2) * ((mS cl u K).1 - (mS cl u K).2.1))) * ((((mS cl u K).2.2.1 - (mS cl u K).2.2.2) * ((mS cl u K).1 + (mS cl u K).2.1)) - (((mS cl u K).2.2.1 + (mS cl u K).2.2.2) * ((mS cl u K).1 - (mS cl u K).2.1)))))).toArray]) Try.func17 (args2 ((pm rfl).trans ta_10_109) ((pm rfl).trans ta_10_112)) (MulNum_any _) (fun e_4 w_33 hR_23 => ?_)
    obtain ⟨rfl, hb_31⟩ := hR_23
    replace hCl := hCl.nx hb_31
    replace B8 := B8.nx hb_31
    replace B10 := B10.nx hb_31
    replace B11 := B11.nx hb_31
    replace B12 := B12.nx hb_31
    replace B13 := B13.nx hb_31
    replace hB_24 := hB_24.nx hb_31
    replace hB_25 := hB_25.nx hb_31
    replace hB_27 := hB_27.nx hb_31
    have HB_30 := below_from HB_29 hb_31
    refine ⟨_, rfl, ?_⟩
    refine op_do rfl rfl (o_storeI rfl ((pm rfl).trans ta_10_12) ((pm rfl).trans ta_10_108) B12 (by rw [dg_length]; exact ⟨by kernel_rfl, by kernel_rfl⟩) (by simp [iws, dg_length])) (fun w_34 hR_24 => ?_)
    obtain ⟨hB_36, hX_19⟩ := hR_24
    replace hCl := hCl.keepX B12 (by decide) hX_19
    replace B8 := hX_19.blk B8 ne_9
    replace B10 := hX_19.blk B10 ne_2
    replace B11 := hX_19.blk B11 ne_3
    replace B13 := hX_19.blk B13 (Ne.symm ne_6)
    replace hB_24 := hX_19.blk hB_24 (Ne.symm ne_41)
    replace hB_25 := hX_19.blk hB_25 (Ne.symm ne_50)
    replace hB_27 := hX_19.blk hB_27 (Ne.symm ne_59)
    have HB_31 := hX_19.below HB_30 HB_30.size (fun k hk => hk ▸ ge_4)
    clear B12
    refine op_do rfl rfl (o_storeI rfl ((pm rfl).trans ta_10_13) (pe hs_10 rfl rfl) B13 (by rw [dg_length]; exact ⟨by kernel_rfl, by kernel_rfl⟩) (by simp [iws, dg_length])) (fun w_35 hR_25 => ?_)
    obtain ⟨hB_37, hX_20⟩ := hR_25
    replace hCl := hCl.keepX B13 (by decide) hX_20
    replace B8 := hX_20.blk B8 ne_10
    replace B10 := hX_20.blk B10 ne_4
    replace B11 := hX_20.blk B11 ne_5
    replace hB_24 := hX_20.blk hB_24 (Ne.symm ne_42)
    replace hB_25 := hX_20.blk hB_25 (Ne.symm ne_51)
    replace hB_27 := hX_20.blk hB_27 (Ne.symm ne_60)
    replace hB_36 := hX_20.blk hB_36 ne_6
    have HB_32 := hX_20.below HB_31 HB_31.size (fun k hk => hk ▸ ge_5)
    clear B13
    refine x_nil (hK_26 _ _ ?_)
    refine x_drawn 9 [fun _ v => v = .agg (iws .u64 (dg (((mS cl u K).1 + (mS cl u K).2.1) * ((mS cl u K).1 + (mS cl u K).2.1)))).toArray, fun _ v => v = .agg (iws .u64 (dg (((mS cl u K).1 - (mS cl u K).2.1) * ((mS cl u K).1 - (mS cl u K).2.1)))).toArray, fun ww vv => vv = .agg (iws .u64 (dg ((((mS cl u K).1 + (mS cl u K).2.1) * ((mS cl u K).1 + (mS cl u K).2.1)) * (((mS cl u K).1 - (mS cl u K).2.1) * ((mS cl u K).1 - (mS cl u K).2.1))))).toArray, fun _ v => v = .agg (iws .u64 (dg ((((mS cl u K).1 + (mS cl u K).2.1) * ((mS cl u K).1 + (mS cl u K).2.1)) - (((mS cl u K).1 - (mS cl u K).2.1) * ((mS cl u K).1 - (mS cl u K).2.1))))).toArray, fun _ v => v = .agg (iws .u64 (dg (((mS cl u K).1 + (mS cl u K).2.1) * ((mS cl u K).1 + (mS cl u K).2.1)))).toArray, fun ww vv => vv = .agg (iws .u64 (dg (toF ((121665 : Nat) : Int)))).toArray, fun _ v => v = .agg (iws .u64 (dg ((((mS cl u K).1 + (mS cl u K).2.1) * ((mS cl u K).1 + (mS cl u K).2.1)) - (((mS cl u K).1 - (mS cl u K).2.1) * ((mS cl u K).1 - (mS cl u K).2.1))))).toArray, fun ww vv => vv = .agg (iws .u64 (dg ((toF ((121665 : Nat) : Int)) * ((((mS cl u K).1 + (mS cl u K).2.1) * ((mS cl u K).1 + (mS cl u K).2.1)) - (((mS cl u K).1 - (mS cl u K).2.1) * ((mS cl u K).1 - (mS cl u K).2.1)))))).toArray, fun ww vv => vv = .agg (iws .u64 (dg ((((mS cl u K).1 + (mS cl u K).2.1) * ((mS cl u K).1 + (mS cl u K).2.1)) + ((toF ((121665 : Nat) : Int)) * ((((mS cl u K).1 + (mS cl u K).2.1) * ((mS cl u K).1 + (mS cl u K).2.1)) - (((mS cl u K).1 - (mS cl u K).2.1) * ((mS cl u K).1 - (mS cl u K).2.1))))))).toArray] [114, 115, 116, 117, 118, 119, 120, 121, 122] hs_10 hd_10 (by kernel_rfl) (by kernel_rfl) (by kernel_rfl) (by kernel_rfl) (by kernel_rfl) ⟨stLit, stLit, stLit, stLit, stLit, stLit, stLit, stLit, stLit, trivial⟩ ⟨(step_ok rfl (fun a' w' hb' hO hD => by
      have d_59 := (hO 21 (by decide)).trans ((pm rfl).trans ta_10_21)
      exact .inl ⟨_, _, (o_loadI rfl d_59 (hB_24.nx hb') (by rw [dg_length]; exact ⟨by kernel_rfl, by kernel_rfl⟩)), rfl, Below.refl _ _⟩)),
(step_ok rfl (fun a' w' hb' hO hD => by
      have d_60 := (hO 22 (by decide)).trans ((pm rfl).trans ta_10_22)
      exact .inl ⟨_, _, (o_loadI rfl d_60 (hB_25.nx hb') (by rw [dg_length]; exact ⟨by kernel_rfl, by kernel_rfl⟩)), rfl, Below.refl _ _⟩)),
(step_ok rfl (fun a' w' hb' hO hD => by
      have d_61 : a'.eval (.tmp 114) = .agg (iws .u64 (dg (((mS cl u K).1 + (mS cl u K).2.1) * ((mS cl u K).1 + (mS cl u K).2.1)))).toArray := hD 0 114 (by kernel_rfl) rfl
      have d_62 : a'.eval (.tmp 115) = .agg (iws .u64 (dg (((mS cl u K).1 - (mS cl u K).2.1) * ((mS cl u K).1 - (mS cl u K).2.1)))).toArray := hD 1 115 (by kernel_rfl) rfl
      exact .inr ⟨_, #[.agg (iws .u64 (dg (((mS cl u K).1 + (mS cl u K).2.1) * ((mS cl u K).1 + (mS cl u K).2.1)))).toArray, .agg (iws .u64 (dg (((mS cl u K).1 - (mS cl u K).2.1) * ((mS cl u K).1 - (mS cl u K).2.1)))).toArray], (exec_call Try.func17 (by kernel_rfl) (by kernel_rfl) _ rfl _ _ (args2 d_61 d_62)), Calls.mono (MulNum_any _) (fun e w'' hR => by obtain ⟨rfl, hb_32⟩ := hR; exact ⟨_, rfl, rfl, hb_32⟩)⟩)),
(step_ok rfl (fun a' w' hb' hO hD => by
      have d_63 := (hO 23 (by decide)).trans ((pm rfl).trans ta_10_23)
      exact .inl ⟨_, _, (o_loadI rfl d_63 (hB_27.nx hb') (by rw [dg_length]; exact ⟨by kernel_rfl, by kernel_rfl⟩)), rfl, Below.refl _ _⟩)),
(step_ok rfl (fun a' w' hb' hO hD => by
      have d_64 := (hO 21 (by decide)).trans ((pm rfl).trans ta_10_21)
      exact .inl ⟨_, _, (o_loadI rfl d_64 (hB_24.nx hb') (by rw [dg_length]; exact ⟨by kernel_rfl, by kernel_rfl⟩)), rfl, Below.refl _ _⟩)),
(step_ok rfl (fun a' w' hb' hO hD => by
      exact .inr ⟨_, #[.int .u64 ((121665 : Nat) : Int)], (exec_call Try.func10 (by kernel_rfl) (by kernel_rfl) _ rfl _ _ (args1 rfl)), Calls.mono (NumOf_F _ _ (by omega)) (fun e w'' hR => by obtain ⟨rfl, hb_33⟩ := hR; exact ⟨_, rfl, rfl, hb_33⟩)⟩)),
(step_ok rfl (fun a' w' hb' hO hD => by
      have d_65 := (hO 23 (by decide)).trans ((pm rfl).trans ta_10_23)
      exact .inl ⟨_, _, (o_loadI rfl d_65 (hB_27.nx hb') (by rw [dg_length]; exact ⟨by kernel_rfl, by kernel_rfl⟩)), rfl, Below.refl _ _⟩)),
(step_ok rfl (fun a' w' hb' hO hD => by
      have d_66 : a'.eval (.tmp 119) = .agg (iws .u64 (dg (toF ((121665 : Nat) : Int)))).toArray := hD 5 119 (by kernel_rfl) rfl
      have d_67 : a'.eval (.tmp 120) = .agg (iws .u64 (dg ((((mS cl u K).1 + (mS cl u K).2.1) * ((mS cl u K).1 + (mS cl u K).2.1)) - (((mS cl u K).1 - (mS cl u K).2.1) * ((mS cl u K).1 - (mS cl u K).2.1))))).toArray := hD 6 120 (by kernel_rfl) rfl
      exact .inr ⟨_, #[.agg (iws .u64 (dg (toF ((121665 : Nat) : Int)))).toArray, .agg (iws .u64 (dg ((((mS cl u K).1 + (mS cl u K).2.1) * ((mS cl u K).1 + (mS cl u K).2.1)) - (((mS cl u K).1 - (mS cl u K).2.1) * ((mS cl u K).1 - (mS cl u K).2.1))))).toArray], (exec_call Try.func17 (by kernel_rfl) (by kernel_rfl) _ rfl _ _ (args2 d_66 d_67)), Calls.mono (MulNum_any _) (fun e w'' hR => by obtain ⟨rfl, hb_34⟩ := hR; exact ⟨_, rfl, rfl, hb_34⟩)⟩)),
(step_ok rfl (fun a' w' hb' hO hD => by
      have d_68 : a'.eval (.tmp 118) = .agg (iws .u64 (dg (((mS cl u K).1 + (mS cl u K).2.1) * ((mS cl u K).1 + (mS cl u K).2.1)))).toArray := hD 4 118 (by kernel_rfl) rfl
      have d_69 : a'.eval (.tmp 121) = .agg (iws .u64 (dg ((toF ((121665 : Nat) : Int)) * ((((mS cl u K).1 + (mS cl u K).2.1) * ((mS cl u K).1 + (mS cl u K).2.1)) - (((mS cl u K).1 - (mS cl u K).2.1) * ((mS cl u K).1 - (mS cl u K).2.1)))))).toArray := hD 7 121 (by kernel_rfl) rfl
      exact .inr ⟨_, #[.agg (iws .u64 (dg (((mS cl u K).1 + (mS cl u K).2.1) * ((mS cl u K).1 + (mS cl u K).2.1)))).toArray, .agg (iws .u64 (dg ((toF ((121665 : Nat) : Int)) * ((((mS cl u K).1 + (mS cl u K).2.1) * ((mS cl u K).1 + (mS cl u K).2.1)) - (((mS cl u K).1 - (mS cl u K).2.1) * ((mS cl u K).1 - (mS cl u K).2.1)))))).toArray], (exec_call Try.func13 (by kernel_rfl) (by kernel_rfl) _ rfl _ _ (args2 d_68 d_69)), Calls.mono (AddNum_any _) (fun e w'' hR => by obtain ⟨rfl, hb_35⟩ := hR; exact ⟨_, rfl, rfl, hb_35⟩)⟩)), trivial⟩ (fun a_11 w_36 hs_11 hd_11 hb_36 hO_9 hV_9 => ?_)
    have ta_11_4 := (hO_9 4 (by decide)).trans ((pm rfl).trans ta_10_4)
    have ta_11_5 := (hO_9 5 (by decide)).trans ((pm rfl).trans ta_10_5)
    have ta_11_8 := (hO_9 8 (by decide)).trans ((pm rfl).trans ta_10_8)
    have ta_11_10 := (hO_9 10 (by decide)).trans ((pm rfl).trans ta_10_10)
    have ta_11_11 := (hO_9 11 (by decide)).trans ((pm rfl).trans ta_10_11)
    have ta_11_12 := (hO_9 12 (by decide)).trans ((pm rfl).trans ta_10_12)
    have ta_11_13 := (hO_9 13 (by decide)).trans ((pm rfl).trans ta_10_13)
    have ta_11_0 := (hO_9 0 (by decide)).trans ((pm rfl).trans ta_10_0)
    have ta_11_1 := (hO_9 1 (by decide)).trans ((pm rfl).trans ta_10_1)
    have ta_11_32 := (hO_9 32 (by decide)).trans ((pm rfl).trans ta_10_32)
    have ta_11_33 := (hO_9 33 (by decide)).trans ((pm rfl).trans ta_10_33)
    have ta_11_31 := (hO_9 31 (by decide)).trans ((pm rfl).trans ta_10_31)
    have ta_11_34 := (hO_9 34 (by decide)).trans ((pm rfl).trans ta_10_34)
    have ta_11_35 := (hO_9 35 (by decide)).trans ((pm rfl).trans ta_10_35)
    have ta_11_6 := (hO_9 6 (by decide)).trans ((pm rfl).trans ta_10_6)
    have ta_11_7 := (hO_9 7 (by decide)).trans ((pm rfl).trans ta_10_7)
    have ta_11_37 := (hO_9 37 (by decide)).trans ((pm rfl).trans ta_10_37)
    have ta_11_38 := (hO_9 38 (by decide)).trans ((pm rfl).trans ta_10_38)
    have ta_11_36 := (hO_9 36 (by decide)).trans ((pm rfl).trans ta_10_36)
    have ta_11_39 := (hO_9 39 (by decide)).trans ((pm rfl).trans ta_10_39)
    have ta_11_40 := (hO_9 40 (by decide)).trans ((pm rfl).trans ta_10_40)
    have ta_11_9 := (hO_9 9 (by decide)).trans ((pm rfl).trans ta_10_9)
    have ta_11_41 := (hO_9 41 (by decide)).trans ((pm rfl).trans ta_10_41)
    have ta_11_42 := (hO_9 42 (by decide)).trans ((pm rfl).trans ta_10_42)
    have ta_11_43 := (hO_9 43 (by decide)).trans ((pm rfl).trans ta_10_43)
    have ta_11_44 := (hO_9 44 (by decide)).trans ((pm rfl).trans ta_10_44)
    have ta_11_45 := (hO_9 45 (by decide)).trans ((pm rfl).trans ta_10_45)
    have ta_11_46 := (hO_9 46 (by decide)).trans ((pm rfl).trans ta_10_46)
    have ta_11_47 := (hO_9 47 (by decide)).trans ((pm rfl).trans ta_10_47)
    have ta_11_48 := (hO_9 48 (by decide)).trans ((pm rfl).trans ta_10_48)
    have ta_11_49 := (hO_9 49 (by decide)).trans ((pm rfl).trans ta_10_49)
    have ta_11_50 := (hO_9 50 (by decide)).trans ((pm rfl).trans ta_10_50)
    have ta_11_14 := (hO_9 14 (by decide)).trans ((pm rfl).trans ta_10_14)
    have ta_11_15 := (hO_9 15 (by decide)).trans ((pm rfl).trans ta_10_15)
    clear ta_10_4 ta_10_5 ta_10_8 ta_10_10 ta_10_11 ta_10_12 ta_10_13 ta_10_16 ta_10_0 ta_10_1 ta_10_32 ta_10_33 ta_10_31 ta_10_34 ta_10_35 ta_10_6 ta_10_7 ta_10_37 ta_10_38 ta_10_36 ta_10_39 ta_10_40 ta_10_9 ta_10_41 ta_10_42 ta_10_43 ta_10_44 ta_10_45 ta_10_46 ta_10_47 ta_10_48 ta_10_49 ta_10_50 ta_10_14 ta_10_15 ta_10_72 ta_10_17 ta_10_18 ta_10_73 ta_10_74 ta_10_75 ta_10_76 ta_10_77 ta_10_78 ta_10_19 ta_10_20 ta_10_79 ta_10_80 ta_10_81 ta_10_82 ta_10_83 ta_10_84 ta_10_21 ta_10_22 ta_10_85 ta_10_86 ta_10_87 ta_10_88 ta_10_89 ta_10_90 ta_10_91 ta_10_92 ta_10_93 ta_10_23 ta_10_24 ta_10_25 ta_10_94 ta_10_95 ta_10_96 ta_10_97 ta_10_98 ta_10_99 ta_10_26 ta_10_27 ta_10_100 ta_10_101 ta_10_102 ta_10_103 ta_10_104 ta_10_105 ta_10_106 ta_10_107 ta_10_108 ta_10_109 ta_10_110 ta_10_111 ta_10_112 hd_10
    replace hCl := hCl.nx hb_36
    replace B8 := B8.nx hb_36
    replace B10 := B10.nx hb_36
    replace B11 := B11.nx hb_36
    replace hB_36 := hB_36.nx hb_36
    replace hB_37 := hB_37.nx hb_36
    have HB_33 := below_from HB_32 hb_36
    have ta_11_116 : a_11.eval (.tmp 116) = .agg (iws .u64 (dg ((((mS cl u K).1 + (mS cl u K).2.1) * ((mS cl u K).1 + (mS cl u K).2.1)) * (((mS cl u K).1 - (mS cl u K).2.1) * ((mS cl u K).1 - (mS cl u K).2.1))))).toArray := hV_9 2 116 rfl rfl
    have ta_11_117 : a_11.eval (.tmp 117) = .agg (iws .u64 (dg ((((mS cl u K).1 + (mS cl u K).2.1) * ((mS cl u K).1 + (mS cl u K).2.1)) - (((mS cl u K).1 - (mS cl u K).2.1) * ((mS cl u K).1 - (mS cl u K).2.1))))).toArray := hV_9 3 117 rfl rfl
    have ta_11_122 : a_11.eval (.tmp 122) = .agg (iws .u64 (dg ((((mS cl u K).1 + (mS cl u K).2.1) * ((mS cl u K).1 + (mS cl u K).2.1)) + ((toF ((121665 : Nat) : Int)) * ((((mS cl u K).1 + (mS cl u K).2.1) * ((mS cl u K).1 + (mS cl u K).2.1)) - (((mS cl u K).1 - (mS cl u K).2.1) * ((mS cl u K).1 - (mS cl u K).2.1))))))).toArray := hV_9 8 122 rfl rfl
    clear hV_9 hO_9
    simp only [List.drop_succ_cons, List.drop_zero]
    refine q_ca (vs := #[.agg (iws .u64 (dg ((((mS cl u K).1 + (mS cl u K).2.1) * ((mS cl u K).1 + (mS cl u K).2.1)) - (((mS cl u K).1 - (mS cl u K).2.1) * ((mS cl u K).1 - (mS cl u K).2.1))))).toArray, .agg (iws .u64 (dg ((((mS cl u K).1 + (mS cl u K).2.1) * ((mS cl u K).1 + (mS cl u K).2.1)) + ((toF ((121665 : Nat) : Int)) * ((((mS cl u K).1 + (mS cl u K).2.1) * ((mS cl u K).1 + (mS cl u K).2.1)) - (((mS cl u K).1 - (mS cl u K).2.1) * ((mS cl u K).1 - (mS cl u K).2.1))))))).toArray]) Try.func17 (args2 ((pm rfl).trans ta_11_117) ((pm rfl).trans ta_11_122)) (MulNum_any _) (fun e_5 w_37 hR_26 => ?_)
    obtain ⟨rfl, hb_38⟩ := hR_26
    replace hCl := hCl.nx hb_38
    replace B8 := B8.nx hb_38
    replace B10 := B10.nx hb_38
    replace B11 := B11.nx hb_38
    replace hB_36 := hB_36.nx hb_38
    replace hB_37 := hB_37.nx hb_38
    have HB_34 := below_from HB_33 hb_38
    refine ⟨_, rfl, ?_⟩
    refine op_do rfl rfl (o_storeI rfl ((pm rfl).trans ta_11_10) ((pm rfl).trans ta_11_116) B10 (by rw [dg_length]; exact ⟨by kernel_rfl, by kernel_rfl⟩) (by simp [iws, dg_length])) (fun w_38 hR_27 => ?_)
    obtain ⟨hB_38, hX_21⟩ := hR_27
    replace hCl := hCl.keepX B10 (by decide) hX_21
    replace B8 := hX_21.blk B8 ne_7
    replace B11 := hX_21.blk B11 (Ne.symm ne_1)
    replace hB_36 := hX_21.blk hB_36 (Ne.symm ne_2)
    replace hB_37 := hX_21.blk hB_37 (Ne.symm ne_4)
    have HB_35 := hX_21.below HB_34 HB_34.size (fun k hk => hk ▸ ge_2)
    clear B10
    refine op_do rfl rfl (o_storeI rfl ((pm rfl).trans ta_11_11) (pe hs_11 rfl rfl) B11 (by rw [dg_length]; exact ⟨by kernel_rfl, by kernel_rfl⟩) (by simp [iws, dg_length])) (fun w_39 hR_28 => ?_)
    obtain ⟨hB_39, hX_22⟩ := hR_28
    replace hCl := hCl.keepX B11 (by decide) hX_22
    replace B8 := hX_22.blk B8 ne_8
    replace hB_36 := hX_22.blk hB_36 (Ne.symm ne_3)
    replace hB_37 := hX_22.blk hB_37 (Ne.symm ne_5)
    replace hB_38 := hX_22.blk hB_38 ne_1
    have HB_36 := hX_22.below HB_35 HB_35.size (fun k hk => hk ▸ ge_3)
    clear B11
    refine x_nil (hK_15 _ _ ?_)
    refine hK_14 _ _ ?_
    refine x_region (by kernel_rfl) ?_
    refine q_mv ((pm rfl).trans ta_11_15) ?_
    refine q_v 54 (.int .i64 (254 - ((K + 1 : Nat) : Int))) (o_eq (o_subZZ (m := 254 - (K : Int)) (n := ((1 : Nat) : Int)) rfl (pe hs_11 rfl rfl) rfl (by omega)) (congrArg (Value.int .i64) (by omega))) ?_
    refine q_at (pe hs_11 rfl rfl) ?_
    refine x_nil ?_
    refine hK_11 _ _ _ ⟨K + 1, rfl, (by rw [putsR_size]; exact hs_11), (by rw [putsR_defers]; exact hd_11), ((pm rfl).trans ta_11_0), ((pm rfl).trans ta_11_1), ((pm rfl).trans ta_11_4), ((pm rfl).trans ta_11_5), ((pm rfl).trans ta_11_6), ((pm rfl).trans ta_11_7), ((pm rfl).trans ta_11_8), ((pm rfl).trans ta_11_9), ((pm rfl).trans ta_11_10), ((pm rfl).trans ta_11_11), ((pm rfl).trans ta_11_12), ((pm rfl).trans ta_11_13), ((pm rfl).trans ta_11_14), (pe hs_11 rfl rfl), ((pm rfl).trans ta_11_31), ((pm rfl).trans ta_11_32), ((pm rfl).trans ta_11_33), ((pm rfl).trans ta_11_34), ((pm rfl).trans ta_11_35), ((pm rfl).trans ta_11_36), ((pm rfl).trans ta_11_37), ((pm rfl).trans ta_11_38), ((pm rfl).trans ta_11_39), ((pm rfl).trans ta_11_40), ((pm rfl).trans ta_11_41), ((pm rfl).trans ta_11_42), ((pm rfl).trans ta_11_43), ((pm rfl).trans ta_11_44), ((pm rfl).trans ta_11_45), ((pm rfl).trans ta_11_46), ((pm rfl).trans ta_11_47), ((pm rfl).trans ta_11_48), ((pm rfl).trans ta_11_49), ((pm rfl).trans ta_11_50), (by omega), hCl, B8, (by rw [rS_step]; exact hB_38), (by rw [rS_step]; exact hB_39), (by rw [rS_step]; exact hB_36), (by rw [rS_step]; exact hB_37), HB_36⟩ ?_
    omega
  ·simp only [DD9] at h_1
   obtain rfl : K = 255 := by have h9 := h_1; omega
   refine w2_exit ?_
   refine thn_exit ?_
   refine thn_exit ?_
   refine exb_hit ?_
   refine hK_10 _ _ ?_
   refine hK_8 _ _ ?_
   refine x_cut (fun aa ww => aa.tmps.size = 143 ∧ aa.defers = [] ∧ aa.eval (.tmp 0) = .slice A (q) (c) ∧ aa.eval (.tmp 1) = .slice B (m) (d) ∧ aa.eval (.tmp 4) = .slice none (0) (0) ∧ aa.eval (.tmp 5) = .int .i64 ((0 : Nat) : Int) ∧ aa.eval (.tmp 6) = .slice A_1 (32) (c_1) ∧ aa.eval (.tmp 7) = .int .i64 ((0 : Nat) : Int) ∧ aa.eval (.tmp 8) = .pointer (some ⟨g_1, 0, none⟩) ∧ aa.eval (.tmp 9) = .int .i64 ((0 : Nat) : Int) ∧ aa.eval (.tmp 10) = .pointer (some ⟨g_2, 0, none⟩) ∧ aa.eval (.tmp 11) = .pointer (some ⟨g_3, 0, none⟩) ∧ aa.eval (.tmp 12) = .pointer (some ⟨g_4, 0, none⟩) ∧ aa.eval (.tmp 13) = .pointer (some ⟨g_5, 0, none⟩) ∧ aa.eval (.tmp 14) = .int .u8 ((lastb cl 255 : Nat) : Int) ∧ aa.eval (.tmp 15) = .int .i64 (254 - (255 : Int)) ∧ aa.eval (.tmp 31) = .tuple #[.slice A_1 (32) (c_1), .int .i64 ((0 : Nat) : Int)] ∧ aa.eval (.tmp 32) = .slice A (q) (c) ∧ aa.eval (.tmp 33) = .tuple #[.slice A_1 (32) (c_1), .int .i64 ((0 : Nat) : Int)] ∧ aa.eval (.tmp 34) = .slice A_1 (32) (c_1) ∧ aa.eval (.tmp 35) = .int .i64 ((0 : Nat) : Int) ∧ aa.eval (.tmp 36) = .tuple #[.agg (iws .u64 (dg (numL us))).toArray, .int .i64 ((0 : Nat) : Int)] ∧ aa.eval (.tmp 37) = .slice B (m) (d) ∧ aa.eval (.tmp 38) = .tuple #[.agg (iws .u64 (dg (numL us))).toArray, .int .i64 ((0 : Nat) : Int)] ∧ aa.eval (.tmp 39) = .agg (iws .u64 (dg (numL us))).toArray ∧ aa.eval (.tmp 40) = .int .i64 ((0 : Nat) : Int) ∧ aa.eval (.tmp 41) = .int .i64 ((0 : Nat) : Int) ∧ aa.eval (.tmp 42) = .bool (false) ∧ aa.eval (.tmp 43) = .bool (false) ∧ aa.eval (.tmp 44) = .int .i64 ((0 : Nat) : Int) ∧ aa.eval (.tmp 45) = .bool (false) ∧ aa.eval (.tmp 46) = .bool (false) ∧ aa.eval (.tmp 47) = .agg (iws .u64 (dg (1 : F))).toArray ∧ aa.eval (.tmp 48) = .agg (iws .u64 (dg (0 : F))).toArray ∧ aa.eval (.tmp 49) = .agg (iws .u64 (dg u)).toArray ∧ aa.eval (.tmp 50) = .agg (iws .u64 (dg (1 : F))).toArray ∧ Blk ww g_2 (iws .u64 (dg (lad cl u 255).1)).toArray 32 ∧ Blk ww g_3 (iws .u64 (dg (lad cl u 255).2.1)).toArray 32 ∧ Below w.heap.size w ww) (fun K_27 hK_27 => ?_) ?_
   ·skip
    refine w2_sr (fun K_28 hK_28 => ?_)
    refine q_mv ((pm rfl).trans ta_2_14) ?_
    refine q_v 125 (.bool (decide ((lastb cl 255) = 1))) (o_eql (m := (lastb cl 255)) (n := 1) rfl (pe hs_2 rfl rfl) rfl) ?_
    refine x_nil (hK_28 _ _ ?_)
    refine w2_split (pe hs_2 rfl rfl) (fun h_3 => ?_) (fun h_3 => ?_)
    ·simp only [DD9] at h_3
     have hlast : lastb cl 255 = 1 := h_3
     refine x_drawnH 3 2 g_2 _ (iws .u64 (dg (rS cl u 255).2.2.1)).toArray _ [fun _ v => v = .agg (iws .u64 (dg (rS cl u 255).2.2.1)).toArray, fun _ v => v = .agg (iws .u64 (dg (rS cl u 255).2.2.2)).toArray, fun _ _ => True] [126, 127] hs_2 hd_2 (by kernel_rfl) (by kernel_rfl) (by kernel_rfl) (by kernel_rfl) (by kernel_rfl) rfl (by kernel_rfl) ⟨litL, litL, litL, trivial⟩ B10 ⟨(stepH_val rfl rfl (fun a' w' hb' hO hD hBl => by
       have d_70 := (hO 12 (by decide)).trans ((pm rfl).trans ta_2_12)
       exact .inl ⟨_, _, (o_loadI rfl d_70 (hb'.blk B12 (Ne.symm ne_2)) (by rw [dg_length]; exact ⟨by kernel_rfl, by kernel_rfl⟩)), rfl, Below.refl _ _⟩)),
(stepH_val rfl rfl (fun a' w' hb' hO hD hBl => by
       have d_71 := (hO 13 (by decide)).trans ((pm rfl).trans ta_2_13)
       exact .inl ⟨_, _, (o_loadI rfl d_71 (hb'.blk B13 (Ne.symm ne_4)) (by rw [dg_length]; exact ⟨by kernel_rfl, by kernel_rfl⟩)), rfl, Below.refl _ _⟩)),
(stepH_hot rfl (fun a' w' hb' hO hD c hc hBc => by
       have d_72 := (hO 10 (by decide)).trans ((pm rfl).trans ta_2_10)
       have d_73 : a'.eval (.tmp 126) = .agg (iws .u64 (dg (rS cl u 255).2.2.1)).toArray := hD 0 126 (by kernel_rfl) rfl
       rcases hc with rfl | rfl
       ·exact o_storeI rfl d_72 d_73 hBc (by rw [dg_length]; exact ⟨by kernel_rfl, by kernel_rfl⟩) (by simp [iws, dg_length])
       ·exact o_storeI rfl d_72 d_73 hBc (by rw [dg_length]; exact ⟨by kernel_rfl, by kernel_rfl⟩) (by simp [iws, dg_length]))), trivial⟩ (fun a_12 w_40 hs_12 hd_12 hX_23 hB_40 hO_10 hV_10 => ?_)
     have ta_12_0 := (hO_10 0 (by decide)).trans ((pm rfl).trans ta_2_0)
     have ta_12_1 := (hO_10 1 (by decide)).trans ((pm rfl).trans ta_2_1)
     have ta_12_4 := (hO_10 4 (by decide)).trans ((pm rfl).trans ta_2_4)
     have ta_12_5 := (hO_10 5 (by decide)).trans ((pm rfl).trans ta_2_5)
     have ta_12_32 := (hO_10 32 (by decide)).trans ((pm rfl).trans ta_2_32)
     have ta_12_33 := (hO_10 33 (by decide)).trans ((pm rfl).trans ta_2_33)
     have ta_12_31 := (hO_10 31 (by decide)).trans ((pm rfl).trans ta_2_31)
     have ta_12_34 := (hO_10 34 (by decide)).trans ((pm rfl).trans ta_2_34)
     have ta_12_35 := (hO_10 35 (by decide)).trans ((pm rfl).trans ta_2_35)
     have ta_12_6 := (hO_10 6 (by decide)).trans ((pm rfl).trans ta_2_6)
     have ta_12_7 := (hO_10 7 (by decide)).trans ((pm rfl).trans ta_2_7)
     have ta_12_37 := (hO_10 37 (by decide)).trans ((pm rfl).trans ta_2_37)
     have ta_12_38 := (hO_10 38 (by decide)).trans ((pm rfl).trans ta_2_38)
     have ta_12_36 := (hO_10 36 (by decide)).trans ((pm rfl).trans ta_2_36)
     have ta_12_39 := (hO_10 39 (by decide)).trans ((pm rfl).trans ta_2_39)
     have ta_12_40 := (hO_10 40 (by decide)).trans ((pm rfl).trans ta_2_40)
     have ta_12_8 := (hO_10 8 (by decide)).trans ((pm rfl).trans ta_2_8)
     have ta_12_9 := (hO_10 9 (by decide)).trans ((pm rfl).trans ta_2_9)
     have ta_12_41 := (hO_10 41 (by decide)).trans ((pm rfl).trans ta_2_41)
     have ta_12_42 := (hO_10 42 (by decide)).trans ((pm rfl).trans ta_2_42)
     have ta_12_43 := (hO_10 43 (by decide)).trans ((pm rfl).trans ta_2_43)
     have ta_12_44 := (hO_10 44 (by decide)).trans ((pm rfl).trans ta_2_44)
     have ta_12_45 := (hO_10 45 (by decide)).trans ((pm rfl).trans ta_2_45)
     have ta_12_46 := (hO_10 46 (by decide)).trans ((pm rfl).trans ta_2_46)
     have ta_12_10 := (hO_10 10 (by decide)).trans ((pm rfl).trans ta_2_10)
     have ta_12_11 := (hO_10 11 (by decide)).trans ((pm rfl).trans ta_2_11)
     have ta_12_12 := (hO_10 12 (by decide)).trans ((pm rfl).trans ta_2_12)
     have ta_12_13 := (hO_10 13 (by decide)).trans ((pm rfl).trans ta_2_13)
     have ta_12_47 := (hO_10 47 (by decide)).trans ((pm rfl).trans ta_2_47)
     have ta_12_48 := (hO_10 48 (by decide)).trans ((pm rfl).trans ta_2_48)
     have ta_12_49 := (hO_10 49 (by decide)).trans ((pm rfl).trans ta_2_49)
     have ta_12_50 := (hO_10 50 (by decide)).trans ((pm rfl).trans ta_2_50)
     have ta_12_14 := (hO_10 14 (by decide)).trans ((pm rfl).trans ta_2_14)
     have ta_12_15 := (hO_10 15 (by decide)).trans ((pm rfl).trans ta_2_15)
     clear ta_2_0 ta_2_1 ta_2_4 ta_2_5 ta_2_32 ta_2_33 ta_2_31 ta_2_34 ta_2_35 ta_2_6 ta_2_7 ta_2_37 ta_2_38 ta_2_36 ta_2_39 ta_2_40 ta_2_8 ta_2_9 ta_2_41 ta_2_42 ta_2_43 ta_2_44 ta_2_45 ta_2_46 ta_2_10 ta_2_11 ta_2_12 ta_2_13 ta_2_47 ta_2_48 ta_2_49 ta_2_50 ta_2_14 ta_2_15 hd_2
     replace hCl := hCl.keepX B10 (by decide) hX_23
     replace B8 := hX_23.blk B8 ne_7
     replace B11 := hX_23.blk B11 (Ne.symm ne_1)
     replace B12 := hX_23.blk B12 (Ne.symm ne_2)
     replace B13 := hX_23.blk B13 (Ne.symm ne_4)
     have HB_37 := hX_23.below HBL HBL.size (fun k hk => hk ▸ ge_2)
     clear B10
     have ta_12_127 : a_12.eval (.tmp 127) = .agg (iws .u64 (dg (rS cl u 255).2.2.2)).toArray := hV_10 1 127 rfl rfl
     clear hV_10 hO_10
     simp only [List.drop_succ_cons, List.drop_zero]
     refine op_do rfl rfl (o_storeI rfl ((pm rfl).trans ta_12_11) ((pm rfl).trans ta_12_127) B11 (by rw [dg_length]; exact ⟨by kernel_rfl, by kernel_rfl⟩) (by simp [iws, dg_length])) (fun w_41 hR_29 => ?_)
     obtain ⟨hB_41, hX_24⟩ := hR_29
     replace hCl := hCl.keepX B11 (by decide) hX_24
     replace B8 := hX_24.blk B8 ne_8
     replace B12 := hX_24.blk B12 (Ne.symm ne_3)
     replace B13 := hX_24.blk B13 (Ne.symm ne_5)
     replace hB_40 := hX_24.blk hB_40 ne_1
     have HB_38 := hX_24.below HB_37 HB_37.size (fun k hk => hk ▸ ge_3)
     clear B11
     refine x_nil ?_
     exact hK_27 _ _ ⟨(by rw [putsR_size]; exact hs_12), (by rw [putsR_defers]; exact hd_12), ((pm rfl).trans ta_12_0), ((pm rfl).trans ta_12_1), ((pm rfl).trans ta_12_4), ((pm rfl).trans ta_12_5), ((pm rfl).trans ta_12_6), ((pm rfl).trans ta_12_7), ((pm rfl).trans ta_12_8), ((pm rfl).trans ta_12_9), ((pm rfl).trans ta_12_10), ((pm rfl).trans ta_12_11), ((pm rfl).trans ta_12_12), ((pm rfl).trans ta_12_13), ((pm rfl).trans ta_12_14), ((pm rfl).trans ta_12_15), ((pm rfl).trans ta_12_31), ((pm rfl).trans ta_12_32), ((pm rfl).trans ta_12_33), ((pm rfl).trans ta_12_34), ((pm rfl).trans ta_12_35), ((pm rfl).trans ta_12_36), ((pm rfl).trans ta_12_37), ((pm rfl).trans ta_12_38), ((pm rfl).trans ta_12_39), ((pm rfl).trans ta_12_40), ((pm rfl).trans ta_12_41), ((pm rfl).trans ta_12_42), ((pm rfl).trans ta_12_43), ((pm rfl).trans ta_12_44), ((pm rfl).trans ta_12_45), ((pm rfl).trans ta_12_46), ((pm rfl).trans ta_12_47), ((pm rfl).trans ta_12_48), ((pm rfl).trans ta_12_49), ((pm rfl).trans ta_12_50), (by rw [← (rS_1 hlast).1]; exact hB_40), (by rw [← (rS_1 hlast).2]; exact hB_41), HB_38⟩
    ·simp only [DD9] at h_3
     have hlast : ¬ lastb cl 255 = 1 := h_3
     refine w2_skip ?_
     exact hK_27 _ _ ⟨(by rw [putsR_size]; exact hs_2), (by rw [putsR_defers]; exact hd_2), ((pm rfl).trans ta_2_0), ((pm rfl).trans ta_2_1), ((pm rfl).trans ta_2_4), ((pm rfl).trans ta_2_5), ((pm rfl).trans ta_2_6), ((pm rfl).trans ta_2_7), ((pm rfl).trans ta_2_8), ((pm rfl).trans ta_2_9), ((pm rfl).trans ta_2_10), ((pm rfl).trans ta_2_11), ((pm rfl).trans ta_2_12), ((pm rfl).trans ta_2_13), ((pm rfl).trans ta_2_14), ((pm rfl).trans ta_2_15), ((pm rfl).trans ta_2_31), ((pm rfl).trans ta_2_32), ((pm rfl).trans ta_2_33), ((pm rfl).trans ta_2_34), ((pm rfl).trans ta_2_35), ((pm rfl).trans ta_2_36), ((pm rfl).trans ta_2_37), ((pm rfl).trans ta_2_38), ((pm rfl).trans ta_2_39), ((pm rfl).trans ta_2_40), ((pm rfl).trans ta_2_41), ((pm rfl).trans ta_2_42), ((pm rfl).trans ta_2_43), ((pm rfl).trans ta_2_44), ((pm rfl).trans ta_2_45), ((pm rfl).trans ta_2_46), ((pm rfl).trans ta_2_47), ((pm rfl).trans ta_2_48), ((pm rfl).trans ta_2_49), ((pm rfl).trans ta_2_50), (by rw [← rS_0 hlast]; exact B10), (by rw [← rS_0 hlast]; exact B11), HBL⟩
   ·skip
    clear ta_2_0 ta_2_1 ta_2_4 ta_2_5 ta_2_32 ta_2_33 ta_2_31 ta_2_34 ta_2_35 ta_2_6 ta_2_7 ta_2_37 ta_2_38 ta_2_36 ta_2_39 ta_2_40 ta_2_8 ta_2_9 ta_2_41 ta_2_42 ta_2_43 ta_2_44 ta_2_45 ta_2_46 ta_2_10 ta_2_11 ta_2_12 ta_2_13 ta_2_47 ta_2_48 ta_2_49 ta_2_50 ta_2_14 ta_2_15 hd_2 hCl B8 B10 B11 B12 B13 HBL
    rintro a_13 w_42 ⟨hs_13, hd_13, ta_13_0, ta_13_1, ta_13_4, ta_13_5, ta_13_6, ta_13_7, ta_13_8, ta_13_9, ta_13_10, ta_13_11, ta_13_12, ta_13_13, ta_13_14, ta_13_15, ta_13_31, ta_13_32, ta_13_33, ta_13_34, ta_13_35, ta_13_36, ta_13_37, ta_13_38, ta_13_39, ta_13_40, ta_13_41, ta_13_42, ta_13_43, ta_13_44, ta_13_45, ta_13_46, ta_13_47, ta_13_48, ta_13_49, ta_13_50, B10, B11, HBL⟩
    refine w2_seq (fun K_29 hK_29 => ?_)
    refine x_drawn 3 [fun _ v => v = .agg (iws .u64 (dg (lad cl u 255).1)).toArray, fun _ v => v = .agg (iws .u64 (dg (lad cl u 255).2.1)).toArray, fun ww vv => vv = .agg (iws .u64 (dg (finv (lad cl u 255).2.1))).toArray] [128, 129, 130] hs_13 hd_13 (by kernel_rfl) (by kernel_rfl) (by kernel_rfl) (by kernel_rfl) (by kernel_rfl) ⟨stLit, stLit, stLit, trivial⟩ ⟨(step_ok rfl (fun a' w' hb' hO hD => by
      have d_74 := (hO 10 (by decide)).trans ((pm rfl).trans ta_13_10)
      exact .inl ⟨_, _, (o_loadI rfl d_74 (B10.nx hb') (by rw [dg_length]; exact ⟨by kernel_rfl, by kernel_rfl⟩)), rfl, Below.refl _ _⟩)),
(step_ok rfl (fun a' w' hb' hO hD => by
      have d_75 := (hO 11 (by decide)).trans ((pm rfl).trans ta_13_11)
      exact .inl ⟨_, _, (o_loadI rfl d_75 (B11.nx hb') (by rw [dg_length]; exact ⟨by kernel_rfl, by kernel_rfl⟩)), rfl, Below.refl _ _⟩)),
(step_ok rfl (fun a' w' hb' hO hD => by
      have d_76 : a'.eval (.tmp 129) = .agg (iws .u64 (dg (lad cl u 255).2.1)).toArray := hD 1 129 (by kernel_rfl) rfl
      exact .inr ⟨_, #[.agg (iws .u64 (dg (lad cl u 255).2.1)).toArray], (exec_call Try.func19 (by kernel_rfl) (by kernel_rfl) _ rfl _ _ (args1 d_76)), Calls.mono (InvNum_any _) (fun e w'' hR => by obtain ⟨rfl, hb_39⟩ := hR; exact ⟨_, rfl, rfl, hb_39⟩)⟩)), trivial⟩ (fun a_14 w_43 hs_14 hd_14 hb_40 hO_11 hV_11 => ?_)
    have ta_14_4 := (hO_11 4 (by decide)).trans ((pm rfl).trans ta_13_4)
    have ta_14_5 := (hO_11 5 (by decide)).trans ((pm rfl).trans ta_13_5)
    have ta_14_10 := (hO_11 10 (by decide)).trans ((pm rfl).trans ta_13_10)
    have ta_14_11 := (hO_11 11 (by decide)).trans ((pm rfl).trans ta_13_11)
    have ta_14_0 := (hO_11 0 (by decide)).trans ((pm rfl).trans ta_13_0)
    have ta_14_1 := (hO_11 1 (by decide)).trans ((pm rfl).trans ta_13_1)
    have ta_14_32 := (hO_11 32 (by decide)).trans ((pm rfl).trans ta_13_32)
    have ta_14_33 := (hO_11 33 (by decide)).trans ((pm rfl).trans ta_13_33)
    have ta_14_31 := (hO_11 31 (by decide)).trans ((pm rfl).trans ta_13_31)
    have ta_14_34 := (hO_11 34 (by decide)).trans ((pm rfl).trans ta_13_34)
    have ta_14_35 := (hO_11 35 (by decide)).trans ((pm rfl).trans ta_13_35)
    have ta_14_6 := (hO_11 6 (by decide)).trans ((pm rfl).trans ta_13_6)
    have ta_14_7 := (hO_11 7 (by decide)).trans ((pm rfl).trans ta_13_7)
    have ta_14_37 := (hO_11 37 (by decide)).trans ((pm rfl).trans ta_13_37)
    have ta_14_38 := (hO_11 38 (by decide)).trans ((pm rfl).trans ta_13_38)
    have ta_14_36 := (hO_11 36 (by decide)).trans ((pm rfl).trans ta_13_36)
    have ta_14_39 := (hO_11 39 (by decide)).trans ((pm rfl).trans ta_13_39)
    have ta_14_40 := (hO_11 40 (by decide)).trans ((pm rfl).trans ta_13_40)
    have ta_14_8 := (hO_11 8 (by decide)).trans ((pm rfl).trans ta_13_8)
    have ta_14_9 := (hO_11 9 (by decide)).trans ((pm rfl).trans ta_13_9)
    have ta_14_41 := (hO_11 41 (by decide)).trans ((pm rfl).trans ta_13_41)
    have ta_14_42 := (hO_11 42 (by decide)).trans ((pm rfl).trans ta_13_42)
    have ta_14_43 := (hO_11 43 (by decide)).trans ((pm rfl).trans ta_13_43)
    have ta_14_44 := (hO_11 44 (by decide)).trans ((pm rfl).trans ta_13_44)
    have ta_14_45 := (hO_11 45 (by decide)).trans ((pm rfl).trans ta_13_45)
    have ta_14_46 := (hO_11 46 (by decide)).trans ((pm rfl).trans ta_13_46)
    have ta_14_12 := (hO_11 12 (by decide)).trans ((pm rfl).trans ta_13_12)
    have ta_14_13 := (hO_11 13 (by decide)).trans ((pm rfl).trans ta_13_13)
    have ta_14_47 := (hO_11 47 (by decide)).trans ((pm rfl).trans ta_13_47)
    have ta_14_48 := (hO_11 48 (by decide)).trans ((pm rfl).trans ta_13_48)
    have ta_14_49 := (hO_11 49 (by decide)).trans ((pm rfl).trans ta_13_49)
    have ta_14_50 := (hO_11 50 (by decide)).trans ((pm rfl).trans ta_13_50)
    have ta_14_14 := (hO_11 14 (by decide)).trans ((pm rfl).trans ta_13_14)
    have ta_14_15 := (hO_11 15 (by decide)).trans ((pm rfl).trans ta_13_15)
    clear ta_13_4 ta_13_5 ta_13_10 ta_13_11 ta_13_0 ta_13_1 ta_13_32 ta_13_33 ta_13_31 ta_13_34 ta_13_35 ta_13_6 ta_13_7 ta_13_37 ta_13_38 ta_13_36 ta_13_39 ta_13_40 ta_13_8 ta_13_9 ta_13_41 ta_13_42 ta_13_43 ta_13_44 ta_13_45 ta_13_46 ta_13_12 ta_13_13 ta_13_47 ta_13_48 ta_13_49 ta_13_50 ta_13_14 ta_13_15 hd_13
    replace B10 := B10.nx hb_40
    replace B11 := B11.nx hb_40
    have HB_39 := below_from HBL hb_40
    have ta_14_128 : a_14.eval (.tmp 128) = .agg (iws .u64 (dg (lad cl u 255).1)).toArray := hV_11 0 128 rfl rfl
    have ta_14_129 : a_14.eval (.tmp 129) = .agg (iws .u64 (dg (lad cl u 255).2.1)).toArray := hV_11 1 129 rfl rfl
    have ta_14_130 : a_14.eval (.tmp 130) = .agg (iws .u64 (dg (finv (lad cl u 255).2.1))).toArray := hV_11 2 130 rfl rfl
    clear hV_11 hO_11
    simp only [List.drop_succ_cons, List.drop_zero]
    refine q_ca (vs := #[.agg (iws .u64 (dg (lad cl u 255).1)).toArray, .agg (iws .u64 (dg (finv (lad cl u 255).2.1))).toArray]) Try.func17 (args2 ((pm rfl).trans ta_14_128) ((pm rfl).trans ta_14_130)) (MulNum_any _) (fun e_6 w_44 hR_30 => ?_)
    obtain ⟨rfl, hb_42⟩ := hR_30
    replace B10 := B10.nx hb_42
    replace B11 := B11.nx hb_42
    have HB_40 := below_from HB_39 hb_42
    refine ⟨_, rfl, ?_⟩
    refine q_ca (vs := #[.agg (iws .u64 (dg ((lad cl u 255).1 * (finv (lad cl u 255).2.1)))).toArray]) Try.func21 (args1 (pe hs_14 rfl rfl)) (NumBytesR_any _) (fun e_7 w_45 hR_31 => ?_)
    obtain ⟨A_2, c_2, rfl, ho_2, hb_43⟩ := hR_31
    replace ho_2 := ho_2.mono HB_40.size
    replace B10 := B10.nx hb_43
    replace B11 := B11.nx hb_43
    have HB_41 := below_from HB_40 hb_43
    refine ⟨_, rfl, ?_⟩
    refine q_at (pe hs_14 rfl rfl) ?_
    refine x_nil (hK_29 _ _ ?_)
    refine w2_seq (fun K_30 hK_30 => ?_)
    refine w2_seq (fun K_31 hK_31 => ?_)
    obtain ⟨r9, hr9⟩ : ∃ q, q = xmul ks us := ⟨_, rfl⟩
    rw [← hr9] at hz
    have hx9 : (lad cl u 255).1 * finv (lad cl u 255).2.1 = r9 := by rw [hcl, hu, hr9]; exact xmul_lad ks us
    rw [hx9] at ho_2
    refine x_region (by kernel_rfl) ?_
    refine q_mv (pe hs_14 rfl rfl) ?_
    refine q_v 134 (.int .i64 ((32 : Nat) : Int)) (o_len rfl (pe hs_14 rfl rfl)) ?_
    refine q_v 135 (.int .i64 ((0 : Nat) : Int)) (o_move rfl rfl) ?_
    refine x_nil (hK_31 _ _ ?_)
    refine w2_block (fun K_32 hK_32 => ?_)
    refine x_loop (fun nn aa ww => ∃ (J : Nat), nn = 32 - J ∧ aa.tmps.size = 143 ∧ aa.defers = [] ∧ aa.eval (.tmp 0) = .slice A (q) (c) ∧ aa.eval (.tmp 1) = .slice B (m) (d) ∧ aa.eval (.tmp 6) = .slice A_1 (32) (c_1) ∧ aa.eval (.tmp 7) = .int .i64 ((0 : Nat) : Int) ∧ aa.eval (.tmp 8) = .pointer (some ⟨g_1, 0, none⟩) ∧ aa.eval (.tmp 9) = .int .i64 ((0 : Nat) : Int) ∧ aa.eval (.tmp 10) = .pointer (some ⟨g_2, 0, none⟩) ∧ aa.eval (.tmp 11) = .pointer (some ⟨g_3, 0, none⟩) ∧ aa.eval (.tmp 12) = .pointer (some ⟨g_4, 0, none⟩) ∧ aa.eval (.tmp 13) = .pointer (some ⟨g_5, 0, none⟩) ∧ aa.eval (.tmp 14) = .int .u8 ((lastb cl 255 : Nat) : Int) ∧ aa.eval (.tmp 15) = .int .i64 (254 - (255 : Int)) ∧ aa.eval (.tmp 28) = .slice A_2 (32) (c_2) ∧ aa.eval (.tmp 31) = .tuple #[.slice A_1 (32) (c_1), .int .i64 ((0 : Nat) : Int)] ∧ aa.eval (.tmp 32) = .slice A (q) (c) ∧ aa.eval (.tmp 33) = .tuple #[.slice A_1 (32) (c_1), .int .i64 ((0 : Nat) : Int)] ∧ aa.eval (.tmp 34) = .slice A_1 (32) (c_1) ∧ aa.eval (.tmp 35) = .int .i64 ((0 : Nat) : Int) ∧ aa.eval (.tmp 36) = .tuple #[.agg (iws .u64 (dg (numL us))).toArray, .int .i64 ((0 : Nat) : Int)] ∧ aa.eval (.tmp 37) = .slice B (m) (d) ∧ aa.eval (.tmp 38) = .tuple #[.agg (iws .u64 (dg (numL us))).toArray, .int .i64 ((0 : Nat) : Int)] ∧ aa.eval (.tmp 39) = .agg (iws .u64 (dg (numL us))).toArray ∧ aa.eval (.tmp 40) = .int .i64 ((0 : Nat) : Int) ∧ aa.eval (.tmp 41) = .int .i64 ((0 : Nat) : Int) ∧ aa.eval (.tmp 42) = .bool (false) ∧ aa.eval (.tmp 43) = .bool (false) ∧ aa.eval (.tmp 44) = .int .i64 ((0 : Nat) : Int) ∧ aa.eval (.tmp 45) = .bool (false) ∧ aa.eval (.tmp 46) = .bool (false) ∧ aa.eval (.tmp 47) = .agg (iws .u64 (dg (1 : F))).toArray ∧ aa.eval (.tmp 48) = .agg (iws .u64 (dg (0 : F))).toArray ∧ aa.eval (.tmp 49) = .agg (iws .u64 (dg u)).toArray ∧ aa.eval (.tmp 50) = .agg (iws .u64 (dg (1 : F))).toArray ∧ aa.eval (.tmp 128) = .agg (iws .u64 (dg (lad cl u 255).1)).toArray ∧ aa.eval (.tmp 129) = .agg (iws .u64 (dg (lad cl u 255).2.1)).toArray ∧ aa.eval (.tmp 130) = .agg (iws .u64 (dg (finv (lad cl u 255).2.1))).toArray ∧ aa.eval (.tmp 131) = .agg (iws .u64 (dg ((lad cl u 255).1 * (finv (lad cl u 255).2.1)))).toArray ∧ aa.eval (.tmp 132) = .slice A_2 (32) (c_2) ∧ aa.eval (.tmp 133) = .slice A_2 (32) (c_2) ∧ aa.eval (.tmp 134) = .int .i64 ((32 : Nat) : Int) ∧ aa.eval (.tmp 135) = .int .i64 ((J : Nat) : Int) ∧ J ≤ 32 ∧ (∀ j, j < J → (nbL r9).getD j 0 = 0) ∧ Own ww w.heap.size A_2 c_2 (nbL r9) ∧ Below w.heap.size w ww) (32) ?_ ?_
    ·exact ⟨0, rfl, (by rw [putsR_size]; exact hs_14), (by rw [putsR_defers]; exact hd_14), ((pm rfl).trans ta_14_0), ((pm rfl).trans ta_14_1), ((pm rfl).trans ta_14_6), ((pm rfl).trans ta_14_7), ((pm rfl).trans ta_14_8), ((pm rfl).trans ta_14_9), ((pm rfl).trans ta_14_10), ((pm rfl).trans ta_14_11), ((pm rfl).trans ta_14_12), ((pm rfl).trans ta_14_13), ((pm rfl).trans ta_14_14), ((pm rfl).trans ta_14_15), (pe hs_14 rfl rfl), ((pm rfl).trans ta_14_31), ((pm rfl).trans ta_14_32), ((pm rfl).trans ta_14_33), ((pm rfl).trans ta_14_34), ((pm rfl).trans ta_14_35), ((pm rfl).trans ta_14_36), ((pm rfl).trans ta_14_37), ((pm rfl).trans ta_14_38), ((pm rfl).trans ta_14_39), ((pm rfl).trans ta_14_40), ((pm rfl).trans ta_14_41), ((pm rfl).trans ta_14_42), ((pm rfl).trans ta_14_43), ((pm rfl).trans ta_14_44), ((pm rfl).trans ta_14_45), ((pm rfl).trans ta_14_46), ((pm rfl).trans ta_14_47), ((pm rfl).trans ta_14_48), ((pm rfl).trans ta_14_49), ((pm rfl).trans ta_14_50), ((pm rfl).trans ta_14_128), ((pm rfl).trans ta_14_129), ((pm rfl).trans ta_14_130), (pe hs_14 rfl rfl), (pe hs_14 rfl rfl), (pe hs_14 rfl rfl), (pe hs_14 rfl rfl), (pe hs_14 rfl rfl), by omega, (fun j h => absurd h (by omega)), ho_2, HB_41⟩
    ·skip
     clear ta_14_4 ta_14_5 ta_14_10 ta_14_11 ta_14_0 ta_14_1 ta_14_32 ta_14_33 ta_14_31 ta_14_34 ta_14_35 ta_14_6 ta_14_7 ta_14_37 ta_14_38 ta_14_36 ta_14_39 ta_14_40 ta_14_8 ta_14_9 ta_14_41 ta_14_42 ta_14_43 ta_14_44 ta_14_45 ta_14_46 ta_14_12 ta_14_13 ta_14_47 ta_14_48 ta_14_49 ta_14_50 ta_14_14 ta_14_15 ta_14_128 ta_14_129 ta_14_130 hd_14 B10 B11 ho_2 HB_41
     rintro nna_15 a_15 w_46 ⟨J, hm_2, hs_15, hd_15, ta_15_0, ta_15_1, ta_15_6, ta_15_7, ta_15_8, ta_15_9, ta_15_10, ta_15_11, ta_15_12, ta_15_13, ta_15_14, ta_15_15, ta_15_28, ta_15_31, ta_15_32, ta_15_33, ta_15_34, ta_15_35, ta_15_36, ta_15_37, ta_15_38, ta_15_39, ta_15_40, ta_15_41, ta_15_42, ta_15_43, ta_15_44, ta_15_45, ta_15_46, ta_15_47, ta_15_48, ta_15_49, ta_15_50, ta_15_128, ta_15_129, ta_15_130, ta_15_131, ta_15_132, ta_15_133, ta_15_134, ta_15_135, hJ, hall, hO9, HBL⟩ K_33 hK_33
     subst hm_2
     refine w2_sr (fun K_34 hK_34 => ?_)
     refine q_v 136 (.bool (decide (J < 32))) (o_lss (m := J) (n := 32) rfl ((pm rfl).trans ta_15_135) ((pm rfl).trans ta_15_134)) ?_
     refine x_nil (hK_34 _ _ ?_)
     refine w2_seq (fun K_35 hK_35 => ?_)
     refine w2_split (pe hs_15 rfl rfl) (fun h_4 => ?_) (fun h_4 => ?_)
     ·simp only [DD9] at h_4
      refine w2_skip ?_
      refine hK_35 _ _ ?_
      refine w2_seq (fun K_36 hK_36 => ?_)
      refine w2_block (fun K_37 hK_37 => ?_)
      refine w2_sr (fun K_38 hK_38 => ?_)
      refine q_v 137 (.pointer (atA A_2 (J))) (o_ix (k := J) rfl ((pm rfl).trans ta_15_133) ((pm rfl).trans ta_15_135) (by omega) ((hO9).bs.some (by have h9 : (nbL r9).length = 32 := (nbL_length _); omega))) ?_
      refine q_v 138 (.int .u8 (((nbL r9).getD (J) 0 : Nat) : Int)) (o_ld8 rfl (pe hs_15 rfl rfl) (hO9).bs (by rw [(nbL_length _)]; omega) rfl) ?_
      refine q_at (pe hs_15 rfl rfl) ?_
      refine x_nil (hK_38 _ _ ?_)
      refine w2_sr (fun K_39 hK_39 => ?_)
      refine q_mv (pe hs_15 rfl rfl) ?_
      refine q_v 140 (.bool (false)) (o_eq (o_neq (m := ((nbL r9).getD (J) 0)) (n := 0) rfl (pe hs_15 rfl rfl) rfl) (by rw [decide_eq_true (nb_zero hz J)]; rfl)) ?_
      refine x_nil (hK_39 _ _ ?_)
      refine w2_condF (pe hs_15 rfl rfl) ?_
      refine w2_skip ?_
      refine hK_37 _ _ ?_
      refine hK_36 _ _ ?_
      have hzj := nb_zero hz J
      refine x_region (by kernel_rfl) ?_
      refine q_v 142 (.int .i64 ((J + 1 : Nat) : Int)) (o_add64 (m := J) (n := 1) rfl ((pm rfl).trans ta_15_135) rfl (by omega)) ?_
      refine q_mv (pe hs_15 rfl rfl) ?_
      refine x_nil ?_
      refine hK_33 _ _ _ ⟨J + 1, rfl, (by rw [putsR_size]; exact hs_15), (by rw [putsR_defers]; exact hd_15), ((pm rfl).trans ta_15_0), ((pm rfl).trans ta_15_1), ((pm rfl).trans ta_15_6), ((pm rfl).trans ta_15_7), ((pm rfl).trans ta_15_8), ((pm rfl).trans ta_15_9), ((pm rfl).trans ta_15_10), ((pm rfl).trans ta_15_11), ((pm rfl).trans ta_15_12), ((pm rfl).trans ta_15_13), ((pm rfl).trans ta_15_14), ((pm rfl).trans ta_15_15), ((pm rfl).trans ta_15_28), ((pm rfl).trans ta_15_31), ((pm rfl).trans ta_15_32), ((pm rfl).trans ta_15_33), ((pm rfl).trans ta_15_34), ((pm rfl).trans ta_15_35), ((pm rfl).trans ta_15_36), ((pm rfl).trans ta_15_37), ((pm rfl).trans ta_15_38), ((pm rfl).trans ta_15_39), ((pm rfl).trans ta_15_40), ((pm rfl).trans ta_15_41), ((pm rfl).trans ta_15_42), ((pm rfl).trans ta_15_43), ((pm rfl).trans ta_15_44), ((pm rfl).trans ta_15_45), ((pm rfl).trans ta_15_46), ((pm rfl).trans ta_15_47), ((pm rfl).trans ta_15_48), ((pm rfl).trans ta_15_49), ((pm rfl).trans ta_15_50), ((pm rfl).trans ta_15_128), ((pm rfl).trans ta_15_129), ((pm rfl).trans ta_15_130), ((pm rfl).trans ta_15_131), ((pm rfl).trans ta_15_132), ((pm rfl).trans ta_15_133), ((pm rfl).trans ta_15_134), (pe hs_15 rfl rfl), (by omega), (fun j h => by rcases Nat.lt_succ_iff_lt_or_eq.1 h with h | rfl; exact hall j h; exact hzj), hO9, HBL⟩ ?_
      omega
     ·simp only [DD9] at h_4
      refine w2_exit ?_
      refine thn_exit ?_
      refine thn_exit ?_
      refine exb_hit ?_
      refine hK_32 _ _ ?_
      refine hK_30 _ _ ?_
      refine w2_sr (fun K_40 hK_40 => ?_)
      refine q_as (.slice none (0) (0)) rfl ?_
      refine q_as (.int .i64 ((5 : Nat) : Int)) rfl ?_
      refine x_nil (hK_40 _ _ ?_)
      refine w2_ret ?_
      refine ret2 rfl hd_15 (pe hs_15 rfl rfl) (pe hs_15 rfl rfl) ?_
      exact ⟨rfl, HBL⟩
end Go.Proofs.Ytikjcikedbcfmaa
