/-
 WALKS: sapperlaw10.NoiseBroken.
-/
import Derived.Test.YtbgonhmaeekkaaaAwake10
namespace Go.Proofs.Ytbgonhmaeekkaaa
open Go.RowKit
set_option linter.unusedVariables false
set_option linter.unusedSimpArgs false
set_option maxRecDepth 100000
attribute [local irreducible] wpList wpListIn putsR

theorem openL_tag (ks ns ad bs : List Nat) (j x : Nat) (hj : j < 16) (hx : x ≠ 0) :
  openL ks ns ad ((sealL ks ns ad bs).set (bs.length + j) ((sealL ks ns ad bs).getD (bs.length + j) 0 ^^^ x)) = ([], 4) := by
 have hxl := xorS_length ks ns 1 bs
 have hml := macL_length ks ns ad (xorS ks ns 1 bs)
 have h1 : ((sealL ks ns ad bs).set (bs.length + j) ((sealL ks ns ad bs).getD (bs.length + j) 0 ^^^ x)).length - 16 = bs.length := by
  rw [List.length_set, sealL_length]; omega
 have h2 : (sealL ks ns ad bs).getD (bs.length + j) 0 = (macL ks ns ad (xorS ks ns 1 bs)).getD j 0 := by
  rw [sealL, List.getD_eq_getElem?_getD, List.getElem?_append_right (by omega), ← List.getD_eq_getElem?_getD, hxl, Nat.add_sub_cancel_left]
 unfold openL
 rw [if_neg (by rw [List.length_set, sealL_length]; omega), h1, h2]
 have h3 : ((sealL ks ns ad bs).set (bs.length + j) ((macL ks ns ad (xorS ks ns 1 bs)).getD j 0 ^^^ x)) = xorS ks ns 1 bs ++ (macL ks ns ad (xorS ks ns 1 bs)).set j ((macL ks ns ad (xorS ks ns 1 bs)).getD j 0 ^^^ x) := by
  rw [sealL, List.set_append_right _ _ (by omega), hxl, Nat.add_sub_cancel_left]
 rw [h3]
 have h4 : (xorS ks ns 1 bs ++ (macL ks ns ad (xorS ks ns 1 bs)).set j ((macL ks ns ad (xorS ks ns 1 bs)).getD j 0 ^^^ x)).take bs.length = xorS ks ns 1 bs := by
  rw [← hxl, List.take_left]
 have h5 : (xorS ks ns 1 bs ++ (macL ks ns ad (xorS ks ns 1 bs)).set j ((macL ks ns ad (xorS ks ns 1 bs)).getD j 0 ^^^ x)).drop bs.length = (macL ks ns ad (xorS ks ns 1 bs)).set j ((macL ks ns ad (xorS ks ns 1 bs)).getD j 0 ^^^ x) := by
  rw [← hxl, List.drop_left]
 rw [h4, h5, if_neg]
 intro h
 generalize macL ks ns ad (xorS ks ns 1 bs) = ms at h hml
 have h6 := congrArg (fun l : List Nat => l.getD j 0) h
 simp only [List.getD_eq_getElem?_getD] at h6
 rw [List.getElem?_set_self (by omega)] at h6
 simp only [Option.getD_some] at h6
 generalize ms[j]?.getD 0 = v at h6
 have h7 : v ^^^ v = v ^^^ (v ^^^ x) := by rw [← h6]
 rw [← Nat.xor_assoc, Nat.xor_self, Nat.zero_xor] at h7
 exact hx h7.symm
theorem tag_outS (S : Sy) {xs : List Nat} {n x : Nat} (hn : xs.length = n) (hx : x ≠ 0) : openL S.k (nonceL 0) S.h ((outS S xs).set (n + 15) ((outS S xs).getD (n + 15) 0 ^^^ x)) = ([], 4) := by
 subst hn
 exact openL_tag S.k (nonceL 0) S.h xs 15 x (by decide) hx
theorem msg_last {xs rest : List Nat} {q x : Nat} (hx : xs.length = 32) (hr : rest.length = q + 16) :
  (xs ++ rest).set (32 + (q + 16) - 1) ((xs ++ rest).getD (32 + (q + 16) - 1) 0 ^^^ x) = xs ++ rest.set (q + 15) (rest.getD (q + 15) 0 ^^^ x) := by
 have e : 32 + (q + 16) - 1 = xs.length + (q + 15) := by omega
 rw [e, List.set_append_right _ _ (by omega), Nat.add_sub_cancel_left]
 simp only [List.getD_eq_getElem?_getD]
 rw [List.getElem?_append_right (by omega), Nat.add_sub_cancel_left]
theorem Broken0 {A1 A2 A3 A4 A5 : Option Addr} {c1 c2 c3 c4 c5 n1 n2 n3 n4 n5 : Nat} {ps sv sk ee ff : List Nat} (z : Int) {A6 : Option Addr} {c6 n6 : Nat} {xa : List Nat} {x : Nat} (hx8 : x < 256) (w : World) (h1 : Bs w A1 c1 ps) (l1 : ps.length = n1) (h2 : Bs w A2 c2 sv) (l2 : sv.length = n2) (h3 : Bs w A3 c3 sk) (l3 : sk.length = n3) (h4 : Bs w A4 c4 ee) (l4 : ee.length = n4) (h5 : Bs w A5 c5 ff) (l5 : ff.length = n5) (h6 : Bs w A6 c6 xa) (l6 : xa.length = n6) (hbig : 200 < n6) :
  Calls Try.prog 7 #[.agg #[.int .i64 (z), .slice A1 (n1) (c1), .slice A2 (n2) (c2), .slice A3 (n3) (c3), .slice A4 (n4) (c4), .slice A5 (n5) (c5)], .slice A6 (n6) (c6), .int .u8 ((x : Nat) : Int)] w fun e w' => e = .returned (.bool true) ∧ Below w.heap.size w w' := by
 refine x_enter 163 Try.func7 rfl rfl (fun a hs hd ha0 => ?_)
 have t0 : a.eval (.tmp 0) = .agg #[.int .i64 (z), .slice A1 (n1) (c1), .slice A2 (n2) (c2), .slice A3 (n3) (c3), .slice A4 (n4) (c4), .slice A5 (n5) (c5)] := ha0 0 _ rfl
 have t1 : a.eval (.tmp 1) = .slice A6 (n6) (c6) := ha0 1 _ rfl
 clear ha0
 refine w2_sr (fun K_1 hK_1 => ?_)
 refine op_ex (d := 3) rfl rfl (o_boxL (cs := #[.int .i64 (z), .slice A1 (n1) (c1), .slice A2 (n2) (c2), .slice A3 (n3) (c3), .slice A4 (n4) (c4), .slice A5 (n5) (c5)]) rfl ((pm rfl).trans t0)) (fun v_1 w_1 hR_1 => ?_)
 obtain ⟨g_1, rfl, hle_1, hB_1, hb_1⟩ := hR_1
 refine q_as (.bool (false)) rfl ?_
 refine x_nil (hK_1 _ _ ?_)
 refine w2_seq (fun K_2 hK_2 => ?_)
 refine w2_sr (fun K_3 hK_3 => ?_)
 refine q_mv ((pm rfl).trans t1) ?_
 refine q_v 25 (.int .i64 ((n6 : Nat) : Int)) (o_len rfl (pe hs rfl rfl)) ?_
 refine q_v 26 (.bool (true)) (o_eq (o_gtr (m := n6) (n := 200) rfl (pe hs rfl rfl) rfl) (by rw [decide_eq_true hbig])) ?_
 refine q_mv (pe hs rfl rfl) ?_
 refine op_left (e := 27) rfl rfl (by kernel_rfl) (pe hs rfl rfl) rfl ?_
 refine op_left (e := 27) rfl rfl (by kernel_rfl) (pe hs rfl rfl) rfl ?_
 refine q_v 30 (.bool (true)) (o_pickT rfl (pe hs rfl rfl) rfl) ?_
 refine x_nil (hK_3 _ _ ?_)
 refine w2_condT (pe hs rfl rfl) ?_
 refine w2_sr (fun K_4 hK_4 => ?_)
 refine q_ca (vs := #[]) Try.func10 (args0) (awake10_any _) (fun e_1 w_2 hR_2 => ?_)
 obtain ⟨rfl, hb_3⟩ := hR_2
 have HB_1 := below_from hb_1 hb_3
 refine ⟨_, rfl, ?_⟩
 refine q_at (pe hs rfl rfl) ?_
 refine x_nil (hK_4 _ _ ?_)
 refine w2_ret ?_
 refine thn_ret ?_
 refine ret1 rfl hd (pe hs rfl rfl) ?_
 exact ⟨rfl, HB_1⟩
theorem Broken1 {A1 A2 A3 A4 A5 : Option Addr} {c1 c2 c3 c4 c5 n1 n2 n3 n4 n5 : Nat} {ps sv sk ee ff : List Nat} (z : Int) {A6 : Option Addr} {c6 n6 : Nat} {xa : List Nat} {x : Nat} (hx8 : x < 256) (w : World) (h1 : Bs w A1 c1 ps) (l1 : ps.length = n1) (h2 : Bs w A2 c2 sv) (l2 : sv.length = n2) (h3 : Bs w A3 c3 sk) (l3 : sk.length = n3) (h4 : Bs w A4 c4 ee) (l4 : ee.length = n4) (h5 : Bs w A5 c5 ff) (l5 : ff.length = n5) (h6 : Bs w A6 c6 xa) (l6 : xa.length = n6) (p6 : n6 ≤ 200) (hbig : x = 0) :
  Calls Try.prog 7 #[.agg #[.int .i64 (z), .slice A1 (n1) (c1), .slice A2 (n2) (c2), .slice A3 (n3) (c3), .slice A4 (n4) (c4), .slice A5 (n5) (c5)], .slice A6 (n6) (c6), .int .u8 ((x : Nat) : Int)] w fun e w' => e = .returned (.bool true) ∧ Below w.heap.size w w' := by
 refine x_enter 163 Try.func7 rfl rfl (fun a hs hd ha0 => ?_)
 have t0 : a.eval (.tmp 0) = .agg #[.int .i64 (z), .slice A1 (n1) (c1), .slice A2 (n2) (c2), .slice A3 (n3) (c3), .slice A4 (n4) (c4), .slice A5 (n5) (c5)] := ha0 0 _ rfl
 have t1 : a.eval (.tmp 1) = .slice A6 (n6) (c6) := ha0 1 _ rfl
 have t2 : a.eval (.tmp 2) = .int .u8 ((x : Nat) : Int) := ha0 2 _ rfl
 clear ha0
 refine w2_sr (fun K_1 hK_1 => ?_)
 refine op_ex (d := 3) rfl rfl (o_boxL (cs := #[.int .i64 (z), .slice A1 (n1) (c1), .slice A2 (n2) (c2), .slice A3 (n3) (c3), .slice A4 (n4) (c4), .slice A5 (n5) (c5)]) rfl ((pm rfl).trans t0)) (fun v_1 w_1 hR_1 => ?_)
 obtain ⟨g_1, rfl, hle_1, hB_1, hb_1⟩ := hR_1
 refine q_as (.bool (false)) rfl ?_
 refine x_nil (hK_1 _ _ ?_)
 refine w2_seq (fun K_2 hK_2 => ?_)
 refine w2_sr (fun K_3 hK_3 => ?_)
 refine q_mv ((pm rfl).trans t1) ?_
 refine q_v 25 (.int .i64 ((n6 : Nat) : Int)) (o_len rfl (pe hs rfl rfl)) ?_
 refine q_v 26 (.bool (false)) (o_eq (o_gtr (m := n6) (n := 200) rfl (pe hs rfl rfl) rfl) (by rw [decide_eq_false (by omega)])) ?_
 refine q_mv (pe hs rfl rfl) ?_
 refine op_valG (e := 27) (d := 28) (v := .int .u8 ((x : Nat) : Int)) rfl rfl (by kernel_rfl) (pe hs rfl rfl) (o_move rfl ((pm rfl).trans t2)) ?_
 refine op_valG (e := 27) (d := 29) (v := .bool (true)) rfl rfl (by kernel_rfl) (pe hs rfl rfl) (o_eq (o_eql (m := x) (n := 0) rfl (pe hs rfl rfl) rfl) (by rw [decide_eq_true hbig])) ?_
 refine q_v 30 (.bool (true)) (o_pickF rfl (pe hs rfl rfl) (pe hs rfl rfl)) ?_
 refine x_nil (hK_3 _ _ ?_)
 refine w2_condT (pe hs rfl rfl) ?_
 refine w2_sr (fun K_4 hK_4 => ?_)
 refine q_ca (vs := #[]) Try.func10 (args0) (awake10_any _) (fun e_1 w_2 hR_2 => ?_)
 obtain ⟨rfl, hb_3⟩ := hR_2
 have HB_1 := below_from hb_1 hb_3
 refine ⟨_, rfl, ?_⟩
 refine q_at (pe hs rfl rfl) ?_
 refine x_nil (hK_4 _ _ ?_)
 refine w2_ret ?_
 refine thn_ret ?_
 refine ret1 rfl hd (pe hs rfl rfl) ?_
 exact ⟨rfl, HB_1⟩
set_option maxHeartbeats 1000000 in
theorem BrokenM {A1 A2 A3 A4 A5 : Option Addr} {c1 c2 c3 c4 c5 n1 n2 n3 n4 n5 : Nat} {ps sv sk ee ff : List Nat} (z : Int) {A6 : Option Addr} {c6 n6 : Nat} {xa : List Nat} {x : Nat} (hx8 : x < 256) (w : World) (h1 : Bs w A1 c1 ps) (l1 : ps.length = n1) (h2 : Bs w A2 c2 sv) (l2 : sv.length = n2) (h3 : Bs w A3 c3 sk) (l3 : sk.length = n3) (h4 : Bs w A4 c4 ee) (l4 : ee.length = n4) (h5 : Bs w A5 c5 ff) (l5 : ff.length = n5) (h6 : Bs w A6 c6 xa) (l6 : xa.length = n6) (p6 : n6 ≤ 200) (hx0 : ¬ x = 0) :
  Calls Try.prog 7 #[.agg #[.int .i64 (z), .slice A1 (n1) (c1), .slice A2 (n2) (c2), .slice A3 (n3) (c3), .slice A4 (n4) (c4), .slice A5 (n5) (c5)], .slice A6 (n6) (c6), .int .u8 ((x : Nat) : Int)] w fun e w' => e = .returned (.bool true) ∧ Below w.heap.size w w' := by
 refine x_enter 163 Try.func7 rfl rfl (fun a hs hd ha0 => ?_)
 have t0 : a.eval (.tmp 0) = .agg #[.int .i64 (z), .slice A1 (n1) (c1), .slice A2 (n2) (c2), .slice A3 (n3) (c3), .slice A4 (n4) (c4), .slice A5 (n5) (c5)] := ha0 0 _ rfl
 have t1 : a.eval (.tmp 1) = .slice A6 (n6) (c6) := ha0 1 _ rfl
 have t2 : a.eval (.tmp 2) = .int .u8 ((x : Nat) : Int) := ha0 2 _ rfl
 clear ha0
 refine w2_sr (fun K_1 hK_1 => ?_)
 refine op_ex (d := 3) rfl rfl (o_boxL (cs := #[.int .i64 (z), .slice A1 (n1) (c1), .slice A2 (n2) (c2), .slice A3 (n3) (c3), .slice A4 (n4) (c4), .slice A5 (n5) (c5)]) rfl ((pm rfl).trans t0)) (fun v_1 w_1 hR_1 => ?_)
 obtain ⟨g_1, rfl, hle_1, hB_1, hb_1⟩ := hR_1
 refine q_as (.bool (false)) rfl ?_
 refine x_nil (hK_1 _ _ ?_)
 refine w2_seq (fun K_2 hK_2 => ?_)
 refine w2_sr (fun K_3 hK_3 => ?_)
 refine q_mv ((pm rfl).trans t1) ?_
 refine q_v 25 (.int .i64 ((n6 : Nat) : Int)) (o_len rfl (pe hs rfl rfl)) ?_
 refine q_v 26 (.bool (false)) (o_eq (o_gtr (m := n6) (n := 200) rfl (pe hs rfl rfl) rfl) (by rw [decide_eq_false (by omega)])) ?_
 refine q_mv (pe hs rfl rfl) ?_
 refine op_valG (e := 27) (d := 28) (v := .int .u8 ((x : Nat) : Int)) rfl rfl (by kernel_rfl) (pe hs rfl rfl) (o_move rfl ((pm rfl).trans t2)) ?_
 refine op_valG (e := 27) (d := 29) (v := .bool (false)) rfl rfl (by kernel_rfl) (pe hs rfl rfl) (o_eq (o_eql (m := x) (n := 0) rfl (pe hs rfl rfl) rfl) (by rw [decide_eq_false (by omega)])) ?_
 refine q_v 30 (.bool (false)) (o_pickF rfl (pe hs rfl rfl) (pe hs rfl rfl)) ?_
 refine x_nil (hK_3 _ _ ?_)
 refine w2_condF (pe hs rfl rfl) ?_
 refine w2_skip ?_
 refine hK_2 _ _ ?_
 refine w2_sr (fun K_4 hK_4 => ?_)
 refine q_fa 3 (pe hs rfl rfl) ?_
 refine q_ld (v := .slice A3 (n3) (c3)) (pe hs rfl rfl) hB_1 rfl ?_
 refine q_ca (vs := #[.slice A3 (n3) (c3)]) Try.func12 (args1 (pe hs rfl rfl)) (Key_any _ (h3.below hb_1) (by simp only [l3])) (fun e_1 w_2 hR_2 => ?_)
 obtain ⟨A_1, c_1, rfl, ho_1, hb_2⟩ := hR_2
 replace ho_1 := ho_1.mono hb_1.size
 replace hB_1 := hB_1.nx hb_2
 have HB_1 := below_from hb_1 hb_2
 refine ⟨_, rfl, ?_⟩
 refine q_ca (vs := #[.slice A_1 (32) (c_1)]) Try.func17 (args1 (pe hs rfl rfl)) (Base_own _ (ho_1).bs (by simp only [padTo_length])) (fun e_2 w_3 hR_3 => ?_)
 obtain ⟨A_2, c_2, rfl, ho_2, hb_3⟩ := hR_3
 replace ho_2 := ho_2.mono HB_1.size
 replace hB_1 := hB_1.nx hb_3
 have HB_2 := below_from HB_1 hb_3
 refine ⟨_, rfl, ?_⟩
 refine q_mv (pe hs rfl rfl) ?_
 refine q_ex (v := .slice A_2 (32) (c_2)) (pe hs rfl rfl) rfl ?_
 refine q_ex (v := .int .i64 ((0 : Nat) : Int)) (pe hs rfl rfl) rfl ?_
 refine q_at (pe hs rfl rfl) ?_
 refine q_at (v := .int .i64 ((0 : Nat) : Int)) (pe hs rfl rfl) ?_
 refine x_nil (hK_4 _ _ ?_)
 refine w2_seq (fun K_5 hK_5 => ?_)
 refine x_drawn2 12 [fun _ v => v = .pointer (some ⟨g_1, 1, none⟩), fun _ v => v = .slice A1 (n1) (c1), fun ww vv => OwnN w_3.heap.size (32) (padTo 32 ps) ww vv, fun _ v => v = .slice A_2 (32) (c_2), fun _ v => v = .pointer (some ⟨g_1, 4, none⟩), fun _ v => v = .slice A4 (n4) (c4), fun ww vv => OwnN w_3.heap.size (32) (padTo 32 ee) ww vv, fun ww vv => TupH w_3 ⟨shaL nameS, shaL (shaL (shaL nameS ++ [9 / 256 % 256, 9 % 256]) ++ (pubL (padTo 32 sk))), padTo 32 ps, padTo 32 ee, pubL (padTo 32 ee), pubL (padTo 32 sk), [], true, false, 0⟩ ww vv, fun ww vv => TupH w_3 ⟨shaL nameS, shaL (shaL (shaL nameS ++ [9 / 256 % 256, 9 % 256]) ++ (pubL (padTo 32 sk))), padTo 32 ps, padTo 32 ee, pubL (padTo 32 ee), pubL (padTo 32 sk), [], true, false, 0⟩ ww vv, fun ww vv => PtrH w_3 ⟨shaL nameS, shaL (shaL (shaL nameS ++ [9 / 256 % 256, 9 % 256]) ++ (pubL (padTo 32 sk))), padTo 32 ps, padTo 32 ee, pubL (padTo 32 ee), pubL (padTo 32 sk), [], true, false, 0⟩ ww vv, fun _ v => v = .int .i64 ((0 : Nat) : Int), fun ww vv => PtrH w_3 ⟨shaL nameS, shaL (shaL (shaL nameS ++ [9 / 256 % 256, 9 % 256]) ++ (pubL (padTo 32 sk))), padTo 32 ps, padTo 32 ee, pubL (padTo 32 ee), pubL (padTo 32 sk), [], true, false, 0⟩ ww vv] [40, 41, 42, 43, 44, 45, 46, 47, 39, 48, 49, 9] hs hd (by kernel_rfl) (by kernel_rfl) (by kernel_rfl) (by kernel_rfl) (by kernel_rfl) ⟨stLit, stLit, stOwn, stLit, stLit, stLit, stOwn, stTupH, stTupH, stPtrH, stLit, stPtrH, trivial⟩ ⟨(step_ok rfl (fun a' w' hb' hO hD => by
   have d_1 : a'.eval (.tmp 3) = .pointer (some ⟨g_1, 0, none⟩) := (hO 3 (by decide)).trans (pe hs rfl rfl)
   exact .inl ⟨_, _, (o_field (k' := 1) rfl d_1 (fun _ => by kernel_rfl)), rfl, Below.refl _ _⟩)),
(step_ok rfl (fun a' w' hb' hO hD => by
   have d_2 : a'.eval (.tmp 40) = .pointer (some ⟨g_1, 1, none⟩) := hD 0 40 (by kernel_rfl) rfl
   exact .inl ⟨_, _, (o_load1 rfl d_2 (hB_1.nx hb') rfl ⟨by kernel_rfl, by kernel_rfl⟩), rfl, Below.refl _ _⟩)),
(step_ok rfl (fun a' w' hb' hO hD => by
   have d_3 : a'.eval (.tmp 41) = .slice A1 (n1) (c1) := hD 1 41 (by kernel_rfl) rfl
   exact .inr ⟨_, #[.slice A1 (n1) (c1)], (exec_call Try.func12 (by kernel_rfl) (by kernel_rfl) _ rfl _ _ (args1 d_3)), Calls.mono (Key_any _ (h1.below (below_from HB_2 hb')) (by simp only [l1])) (fun e w'' hR => by obtain ⟨A_3, c_3, rfl, ho_3, hb_4⟩ := hR; exact ⟨_, rfl, ⟨_, _, rfl, ho_3.mono hb'.size⟩, hb_4⟩)⟩)),
(step_ok rfl (fun a' w' hb' hO hD => by
   have d_4 : a'.eval (.tmp 7) = .slice A_2 (32) (c_2) := (hO 7 (by decide)).trans (pe hs rfl rfl)
   exact .inl ⟨_, _, (o_move rfl d_4), rfl, Below.refl _ _⟩)),
(step_ok rfl (fun a' w' hb' hO hD => by
   have d_5 : a'.eval (.tmp 3) = .pointer (some ⟨g_1, 0, none⟩) := (hO 3 (by decide)).trans (pe hs rfl rfl)
   exact .inl ⟨_, _, (o_field (k' := 4) rfl d_5 (fun _ => by kernel_rfl)), rfl, Below.refl _ _⟩)),
(step_ok rfl (fun a' w' hb' hO hD => by
   have d_6 : a'.eval (.tmp 44) = .pointer (some ⟨g_1, 4, none⟩) := hD 4 44 (by kernel_rfl) rfl
   exact .inl ⟨_, _, (o_load1 rfl d_6 (hB_1.nx hb') rfl ⟨by kernel_rfl, by kernel_rfl⟩), rfl, Below.refl _ _⟩)),
(step_ok rfl (fun a' w' hb' hO hD => by
   have d_7 : a'.eval (.tmp 45) = .slice A4 (n4) (c4) := hD 5 45 (by kernel_rfl) rfl
   exact .inr ⟨_, #[.slice A4 (n4) (c4)], (exec_call Try.func12 (by kernel_rfl) (by kernel_rfl) _ rfl _ _ (args1 d_7)), Calls.mono (Key_any _ (h4.below (below_from HB_2 hb')) (by simp only [l4])) (fun e w'' hR => by obtain ⟨A_4, c_4, rfl, ho_4, hb_5⟩ := hR; exact ⟨_, rfl, ⟨_, _, rfl, ho_4.mono hb'.size⟩, hb_5⟩)⟩)),
(step_ok rfl (fun a' w' hb' hO hD => by
   have d_8 := hD 2 42 (by kernel_rfl) rfl
   obtain ⟨A_5, c_5, hv_1, hO_1⟩ := d_8
   have d_9 : a'.eval (.tmp 43) = .slice A_2 (32) (c_2) := hD 3 43 (by kernel_rfl) rfl
   have d_10 := hD 6 46 (by kernel_rfl) rfl
   obtain ⟨A_6, c_6, hv_2, hO_2⟩ := d_10
   exact .inr ⟨_, #[.int .i64 ((9 : Nat) : Int), .slice A_5 (32) (c_5), .slice A_2 (32) (c_2), .slice A_6 (32) (c_6)], (exec_call Try.func18 (by kernel_rfl) (by kernel_rfl) _ rfl _ _ (args4 rfl hv_1 d_9 hv_2)), Calls.mono (Ask_any 9 _ (hO_1).bs (by simp only [padTo_length]) ((ho_2.nx hb')).bs (pubL_length _) (hO_2).bs (by simp only [padTo_length]) (by omega)) (fun e w'' hR => by obtain ⟨M9, g9, rfl, hH9, hge9, hb9⟩ := hR; exact ⟨_, rfl, ⟨M9, g9, rfl, hH9, hge9.down hb'.size⟩, hb9⟩)⟩)),
(step_ok rfl (fun a' w' hb' hO hD => by
   have d_11 := hD 7 47 (by kernel_rfl) rfl
   obtain ⟨M_1, g_2, hv_3, hH_1, hge_1⟩ := d_11
   exact .inl ⟨_, _, (o_move rfl hv_3), ⟨_, _, rfl, hH_1, hge_1⟩, Below.refl _ _⟩)),
(step_ok rfl (fun a' w' hb' hO hD => by
   have d_12 := hD 8 39 (by kernel_rfl) rfl
   obtain ⟨M_2, g_3, hv_4, hH_2, hge_2⟩ := d_12
   exact .inl ⟨_, _, (o_extract rfl hv_4 rfl), ⟨_, _, rfl, hH_2, hge_2⟩, Below.refl _ _⟩)),
(step_ok rfl (fun a' w' hb' hO hD => by
   have d_13 := hD 8 39 (by kernel_rfl) rfl
   obtain ⟨M_3, g_4, hv_5, hH_3, hge_3⟩ := d_13
   exact .inl ⟨_, _, (o_extract rfl hv_5 rfl), rfl, Below.refl _ _⟩)),
(step_ok rfl (fun a' w' hb' hO hD => by
   have d_14 := hD 9 48 (by kernel_rfl) rfl
   obtain ⟨M_4, g_5, hv_6, hH_4, hge_4⟩ := d_14
   exact .inl ⟨_, _, (o_assign rfl hv_6), ⟨_, _, rfl, hH_4, hge_4⟩, Below.refl _ _⟩)), trivial⟩ (fun a_1 w_4 hs_1 hd_1 hb_6 hO_3 hV_1 => ?_)
 have ta_1_0 := (hO_3 0 (by decide)).trans ((pm rfl).trans t0)
 have ta_1_1 := (hO_3 1 (by decide)).trans ((pm rfl).trans t1)
 have ta_1_2 := (hO_3 2 (by decide)).trans ((pm rfl).trans t2)
 have ta_1_3 : a_1.eval (.tmp 3) = .pointer (some ⟨g_1, 0, none⟩) := (hO_3 3 (by decide)).trans (pe hs rfl rfl)
 have ta_1_6 : a_1.eval (.tmp 6) = .bool (false) := (hO_3 6 (by decide)).trans (pe hs rfl rfl)
 have ta_1_24 : a_1.eval (.tmp 24) = .slice A6 (n6) (c6) := (hO_3 24 (by decide)).trans (pe hs rfl rfl)
 have ta_1_25 : a_1.eval (.tmp 25) = .int .i64 ((n6 : Nat) : Int) := (hO_3 25 (by decide)).trans (pe hs rfl rfl)
 have ta_1_26 : a_1.eval (.tmp 26) = .bool (false) := (hO_3 26 (by decide)).trans (pe hs rfl rfl)
 have ta_1_27 : a_1.eval (.tmp 27) = .bool (false) := (hO_3 27 (by decide)).trans (pe hs rfl rfl)
 have ta_1_28 : a_1.eval (.tmp 28) = .int .u8 ((x : Nat) : Int) := (hO_3 28 (by decide)).trans (pe hs rfl rfl)
 have ta_1_29 : a_1.eval (.tmp 29) = .bool (false) := (hO_3 29 (by decide)).trans (pe hs rfl rfl)
 have ta_1_30 : a_1.eval (.tmp 30) = .bool (false) := (hO_3 30 (by decide)).trans (pe hs rfl rfl)
 have ta_1_33 : a_1.eval (.tmp 33) = .pointer (some ⟨g_1, 3, none⟩) := (hO_3 33 (by decide)).trans (pe hs rfl rfl)
 have ta_1_34 : a_1.eval (.tmp 34) = .slice A3 (n3) (c3) := (hO_3 34 (by decide)).trans (pe hs rfl rfl)
 have ta_1_35 : a_1.eval (.tmp 35) = .slice A_1 (32) (c_1) := (hO_3 35 (by decide)).trans (pe hs rfl rfl)
 have ta_1_36 : a_1.eval (.tmp 36) = .tuple #[.slice A_2 (32) (c_2), .int .i64 ((0 : Nat) : Int)] := (hO_3 36 (by decide)).trans (pe hs rfl rfl)
 have ta_1_32 : a_1.eval (.tmp 32) = .tuple #[.slice A_2 (32) (c_2), .int .i64 ((0 : Nat) : Int)] := (hO_3 32 (by decide)).trans (pe hs rfl rfl)
 have ta_1_37 : a_1.eval (.tmp 37) = .slice A_2 (32) (c_2) := (hO_3 37 (by decide)).trans (pe hs rfl rfl)
 have ta_1_38 : a_1.eval (.tmp 38) = .int .i64 ((0 : Nat) : Int) := (hO_3 38 (by decide)).trans (pe hs rfl rfl)
 have ta_1_7 : a_1.eval (.tmp 7) = .slice A_2 (32) (c_2) := (hO_3 7 (by decide)).trans (pe hs rfl rfl)
 have ta_1_8 : a_1.eval (.tmp 8) = .int .i64 ((0 : Nat) : Int) := (hO_3 8 (by decide)).trans (pe hs rfl rfl)
 clear t0 t1 t2 hd
 replace hB_1 := hB_1.nx hb_6
 have HB_3 := below_from HB_2 hb_6
 have ta_1_40 : a_1.eval (.tmp 40) = .pointer (some ⟨g_1, 1, none⟩) := hV_1 0 40 rfl rfl
 have ta_1_41 : a_1.eval (.tmp 41) = .slice A1 (n1) (c1) := hV_1 1 41 rfl rfl
 have x_1 := hV_1 2 42 rfl rfl
 obtain ⟨A_7, c_7, hv_7, hO_4⟩ := x_1
 replace hO_4 := hO_4.mono HB_2.size
 have ta_1_43 : a_1.eval (.tmp 43) = .slice A_2 (32) (c_2) := hV_1 3 43 rfl rfl
 have ta_1_44 : a_1.eval (.tmp 44) = .pointer (some ⟨g_1, 4, none⟩) := hV_1 4 44 rfl rfl
 have ta_1_45 : a_1.eval (.tmp 45) = .slice A4 (n4) (c4) := hV_1 5 45 rfl rfl
 have x_2 := hV_1 6 46 rfl rfl
 obtain ⟨A_8, c_8, hv_8, hO_5⟩ := x_2
 replace hO_5 := hO_5.mono HB_2.size
 have x_3 := hV_1 7 47 rfl rfl
 obtain ⟨M_5, g_6, hv_9, hH_5, hge_5⟩ := x_3
 have x_4 := hV_1 8 39 rfl rfl
 obtain ⟨M_6, g_7, hv_10, hH_6, hge_6⟩ := x_4
 have x_5 := hV_1 9 48 rfl rfl
 obtain ⟨M_7, g_8, hv_11, hH_7, hge_7⟩ := x_5
 have ta_1_49 : a_1.eval (.tmp 49) = .int .i64 ((0 : Nat) : Int) := hV_1 10 49 rfl rfl
 have x_6 := hV_1 11 9 rfl rfl
 obtain ⟨M_8, g_9, hv_12, hH_8, hge_8⟩ := x_6
 clear hV_1 hO_3
 simp only [List.drop_succ_cons, List.drop_zero]
 refine q_at (v := .int .i64 ((0 : Nat) : Int)) ((pm rfl).trans ta_1_49) ?_
 refine x_nil ?_
 have gg_1 := hge_8.down HB_2.size
 refine hK_5 _ _ ?_
 refine w2_seq (fun K_6 hK_6 => ?_)
 have lt_8 := hH_8.lt
 refine x_drawn2 14 [fun _ v => v = .pointer (some ⟨g_1, 1, none⟩), fun _ v => v = .slice A1 (n1) (c1), fun ww vv => OwnN w_4.heap.size (32) (padTo 32 ps) ww vv, fun _ v => v = .pointer (some ⟨g_1, 3, none⟩), fun _ v => v = .slice A3 (n3) (c3), fun ww vv => OwnN w_4.heap.size (32) (padTo 32 sk) ww vv, fun _ v => v = .pointer (some ⟨g_1, 5, none⟩), fun _ v => v = .slice A5 (n5) (c5), fun ww vv => OwnN w_4.heap.size (32) (padTo 32 ff) ww vv, fun ww vv => TupH w_4 ⟨shaL nameS, shaL (shaL (shaL nameS ++ [9 / 256 % 256, 9 % 256]) ++ pubL (padTo 32 sk)), padTo 32 ps, padTo 32 ff, pubL (padTo 32 ff), padTo 32 sk, [], false, false, 1⟩ ww vv, fun ww vv => TupH w_4 ⟨shaL nameS, shaL (shaL (shaL nameS ++ [9 / 256 % 256, 9 % 256]) ++ pubL (padTo 32 sk)), padTo 32 ps, padTo 32 ff, pubL (padTo 32 ff), padTo 32 sk, [], false, false, 1⟩ ww vv, fun ww vv => PtrH w_4 ⟨shaL nameS, shaL (shaL (shaL nameS ++ [9 / 256 % 256, 9 % 256]) ++ pubL (padTo 32 sk)), padTo 32 ps, padTo 32 ff, pubL (padTo 32 ff), padTo 32 sk, [], false, false, 1⟩ ww vv, fun _ v => v = .int .i64 ((0 : Nat) : Int), fun ww vv => PtrH w_4 ⟨shaL nameS, shaL (shaL (shaL nameS ++ [9 / 256 % 256, 9 % 256]) ++ pubL (padTo 32 sk)), padTo 32 ps, padTo 32 ff, pubL (padTo 32 ff), padTo 32 sk, [], false, false, 1⟩ ww vv] [51, 52, 53, 54, 55, 56, 57, 58, 59, 60, 50, 61, 62, 11] hs_1 hd_1 (by kernel_rfl) (by kernel_rfl) (by kernel_rfl) (by kernel_rfl) (by kernel_rfl) ⟨stLit, stLit, stOwn, stLit, stLit, stOwn, stLit, stLit, stOwn, stTupH, stTupH, stPtrH, stLit, stPtrH, trivial⟩ ⟨(step_ok rfl (fun a' w' hb' hO hD => by
   have d_15 := (hO 3 (by decide)).trans ((pm rfl).trans ta_1_3)
   exact .inl ⟨_, _, (o_field (k' := 1) rfl d_15 (fun _ => by kernel_rfl)), rfl, Below.refl _ _⟩)),
(step_ok rfl (fun a' w' hb' hO hD => by
   have d_16 : a'.eval (.tmp 51) = .pointer (some ⟨g_1, 1, none⟩) := hD 0 51 (by kernel_rfl) rfl
   exact .inl ⟨_, _, (o_load1 rfl d_16 (hB_1.nx hb') rfl ⟨by kernel_rfl, by kernel_rfl⟩), rfl, Below.refl _ _⟩)),
(step_ok rfl (fun a' w' hb' hO hD => by
   have d_17 : a'.eval (.tmp 52) = .slice A1 (n1) (c1) := hD 1 52 (by kernel_rfl) rfl
   exact .inr ⟨_, #[.slice A1 (n1) (c1)], (exec_call Try.func12 (by kernel_rfl) (by kernel_rfl) _ rfl _ _ (args1 d_17)), Calls.mono (Key_any _ (h1.below (below_from HB_3 hb')) (by simp only [l1])) (fun e w'' hR => by obtain ⟨A_9, c_9, rfl, ho_5, hb_7⟩ := hR; exact ⟨_, rfl, ⟨_, _, rfl, ho_5.mono hb'.size⟩, hb_7⟩)⟩)),
(step_ok rfl (fun a' w' hb' hO hD => by
   have d_18 := (hO 3 (by decide)).trans ((pm rfl).trans ta_1_3)
   exact .inl ⟨_, _, (o_field (k' := 3) rfl d_18 (fun _ => by kernel_rfl)), rfl, Below.refl _ _⟩)),
(step_ok rfl (fun a' w' hb' hO hD => by
   have d_19 : a'.eval (.tmp 54) = .pointer (some ⟨g_1, 3, none⟩) := hD 3 54 (by kernel_rfl) rfl
   exact .inl ⟨_, _, (o_load1 rfl d_19 (hB_1.nx hb') rfl ⟨by kernel_rfl, by kernel_rfl⟩), rfl, Below.refl _ _⟩)),
(step_ok rfl (fun a' w' hb' hO hD => by
   have d_20 : a'.eval (.tmp 55) = .slice A3 (n3) (c3) := hD 4 55 (by kernel_rfl) rfl
   exact .inr ⟨_, #[.slice A3 (n3) (c3)], (exec_call Try.func12 (by kernel_rfl) (by kernel_rfl) _ rfl _ _ (args1 d_20)), Calls.mono (Key_any _ (h3.below (below_from HB_3 hb')) (by simp only [l3])) (fun e w'' hR => by obtain ⟨A_10, c_10, rfl, ho_6, hb_8⟩ := hR; exact ⟨_, rfl, ⟨_, _, rfl, ho_6.mono hb'.size⟩, hb_8⟩)⟩)),
(step_ok rfl (fun a' w' hb' hO hD => by
   have d_21 := (hO 3 (by decide)).trans ((pm rfl).trans ta_1_3)
   exact .inl ⟨_, _, (o_field (k' := 5) rfl d_21 (fun _ => by kernel_rfl)), rfl, Below.refl _ _⟩)),
(step_ok rfl (fun a' w' hb' hO hD => by
   have d_22 : a'.eval (.tmp 57) = .pointer (some ⟨g_1, 5, none⟩) := hD 6 57 (by kernel_rfl) rfl
   exact .inl ⟨_, _, (o_load1 rfl d_22 (hB_1.nx hb') rfl ⟨by kernel_rfl, by kernel_rfl⟩), rfl, Below.refl _ _⟩)),
(step_ok rfl (fun a' w' hb' hO hD => by
   have d_23 : a'.eval (.tmp 58) = .slice A5 (n5) (c5) := hD 7 58 (by kernel_rfl) rfl
   exact .inr ⟨_, #[.slice A5 (n5) (c5)], (exec_call Try.func12 (by kernel_rfl) (by kernel_rfl) _ rfl _ _ (args1 d_23)), Calls.mono (Key_any _ (h5.below (below_from HB_3 hb')) (by simp only [l5])) (fun e w'' hR => by obtain ⟨A_11, c_11, rfl, ho_7, hb_9⟩ := hR; exact ⟨_, rfl, ⟨_, _, rfl, ho_7.mono hb'.size⟩, hb_9⟩)⟩)),
(step_ok rfl (fun a' w' hb' hO hD => by
   have d_24 := hD 2 53 (by kernel_rfl) rfl
   obtain ⟨A_12, c_12, hv_13, hO_6⟩ := d_24
   have d_25 := hD 5 56 (by kernel_rfl) rfl
   obtain ⟨A_13, c_13, hv_14, hO_7⟩ := d_25
   have d_26 := hD 8 59 (by kernel_rfl) rfl
   obtain ⟨A_14, c_14, hv_15, hO_8⟩ := d_26
   exact .inr ⟨_, #[.int .i64 ((9 : Nat) : Int), .slice A_12 (32) (c_12), .slice A_13 (32) (c_13), .slice A_14 (32) (c_14)], (exec_call Try.func19 (by kernel_rfl) (by kernel_rfl) _ rfl _ _ (args4 rfl hv_13 hv_14 hv_15)), Calls.mono (Answer_any 9 _ (hO_6).bs (by simp only [padTo_length]) (hO_7).bs (by simp only [padTo_length]) (hO_8).bs (by simp only [padTo_length]) (by omega)) (fun e w'' hR => by obtain ⟨M9, g9, rfl, hH9, hge9, hb9⟩ := hR; exact ⟨_, rfl, ⟨M9, g9, rfl, hH9, hge9.down hb'.size⟩, hb9⟩)⟩)),
(step_ok rfl (fun a' w' hb' hO hD => by
   have d_27 := hD 9 60 (by kernel_rfl) rfl
   obtain ⟨M_9, g_10, hv_16, hH_9, hge_9⟩ := d_27
   exact .inl ⟨_, _, (o_move rfl hv_16), ⟨_, _, rfl, hH_9, hge_9⟩, Below.refl _ _⟩)),
(step_ok rfl (fun a' w' hb' hO hD => by
   have d_28 := hD 10 50 (by kernel_rfl) rfl
   obtain ⟨M_10, g_11, hv_17, hH_10, hge_10⟩ := d_28
   exact .inl ⟨_, _, (o_extract rfl hv_17 rfl), ⟨_, _, rfl, hH_10, hge_10⟩, Below.refl _ _⟩)),
(step_ok rfl (fun a' w' hb' hO hD => by
   have d_29 := hD 10 50 (by kernel_rfl) rfl
   obtain ⟨M_11, g_12, hv_18, hH_11, hge_11⟩ := d_29
   exact .inl ⟨_, _, (o_extract rfl hv_18 rfl), rfl, Below.refl _ _⟩)),
(step_ok rfl (fun a' w' hb' hO hD => by
   have d_30 := hD 11 61 (by kernel_rfl) rfl
   obtain ⟨M_12, g_13, hv_19, hH_12, hge_12⟩ := d_30
   exact .inl ⟨_, _, (o_assign rfl hv_19), ⟨_, _, rfl, hH_12, hge_12⟩, Below.refl _ _⟩)), trivial⟩ (fun a_2 w_5 hs_2 hd_2 hb_10 hO_9 hV_2 => ?_)
 have ta_2_1 := (hO_9 1 (by decide)).trans ((pm rfl).trans ta_1_1)
 have ta_2_2 := (hO_9 2 (by decide)).trans ((pm rfl).trans ta_1_2)
 have ta_2_8 := (hO_9 8 (by decide)).trans ((pm rfl).trans ta_1_8)
 have ta_2_9 := (hO_9 9 (by decide)).trans ((pm rfl).trans hv_12)
 have ta_2_10 : a_2.eval (.tmp 10) = .int .i64 ((0 : Nat) : Int) := (hO_9 10 (by decide)).trans (pe hs_1 rfl rfl)
 clear ta_1_0 ta_1_1 ta_1_2 ta_1_3 ta_1_6 ta_1_24 ta_1_25 ta_1_26 ta_1_27 ta_1_28 ta_1_29 ta_1_30 ta_1_33 ta_1_34 ta_1_35 ta_1_36 ta_1_32 ta_1_37 ta_1_38 ta_1_7 ta_1_8 ta_1_40 ta_1_41 hv_7 ta_1_43 ta_1_44 ta_1_45 hv_8 hv_9 hv_10 hv_11 ta_1_49 hv_12 hd_1
 replace hH_5 := hH_5.nx hb_10
 replace hH_6 := hH_6.nx hb_10
 replace hH_7 := hH_7.nx hb_10
 replace hH_8 := hH_8.nx hb_10
 have HB_4 := below_from HB_3 hb_10
 have x_7 := hV_2 2 53 rfl rfl
 obtain ⟨A_15, c_15, hv_20, hO_10⟩ := x_7
 replace hO_10 := hO_10.mono HB_3.size
 have x_8 := hV_2 5 56 rfl rfl
 obtain ⟨A_16, c_16, hv_21, hO_11⟩ := x_8
 replace hO_11 := hO_11.mono HB_3.size
 have x_9 := hV_2 8 59 rfl rfl
 obtain ⟨A_17, c_17, hv_22, hO_12⟩ := x_9
 replace hO_12 := hO_12.mono HB_3.size
 have x_10 := hV_2 9 60 rfl rfl
 obtain ⟨M_13, g_14, hv_23, hH_13, hge_13⟩ := x_10
 have x_11 := hV_2 10 50 rfl rfl
 obtain ⟨M_14, g_15, hv_24, hH_14, hge_14⟩ := x_11
 have x_12 := hV_2 11 61 rfl rfl
 obtain ⟨M_15, g_16, hv_25, hH_15, hge_15⟩ := x_12
 have ta_2_62 : a_2.eval (.tmp 62) = .int .i64 ((0 : Nat) : Int) := hV_2 12 62 rfl rfl
 have x_13 := hV_2 13 11 rfl rfl
 obtain ⟨M_16, g_17, hv_26, hH_16, hge_16⟩ := x_13
 clear hV_2 hO_9
 simp only [List.drop_succ_cons, List.drop_zero]
 refine q_at (v := .int .i64 ((0 : Nat) : Int)) ((pm rfl).trans ta_2_62) ?_
 refine x_nil ?_
 have sp_8 : Sep M_8 M_16 := Sep.new lt_8 hge_16
 have gg_2 := hge_16.down HB_3.size
 refine hK_6 _ _ ?_
 refine w2_seq (fun K_7 hK_7 => ?_)
 refine w2_sr (fun K_8 hK_8 => ?_)
 refine q_mv (v := .int .i64 ((0 : Nat) : Int)) ((pm rfl).trans ta_2_8) ?_
 refine q_v 64 (.bool (false)) (o_eq (o_neq (m := 0) (n := 0) rfl (pe hs_2 rfl rfl) rfl) rfl) ?_
 refine q_mv (pe hs_2 rfl rfl) ?_
 refine op_valG (e := 65) (d := 66) (v := .int .i64 ((0 : Nat) : Int)) rfl rfl (by kernel_rfl) (pe hs_2 rfl rfl) (o_move rfl ((pm rfl).trans ta_2_10)) ?_
 refine op_valG (e := 65) (d := 67) (v := .bool (false)) rfl rfl (by kernel_rfl) (pe hs_2 rfl rfl) (o_eq (o_neq (m := 0) (n := 0) rfl (pe hs_2 rfl rfl) rfl) rfl) ?_
 refine q_v 68 (.bool (false)) (o_pickF rfl (pe hs_2 rfl rfl) (pe hs_2 rfl rfl)) ?_
 refine q_mv (pe hs_2 rfl rfl) ?_
 refine op_valG (e := 69) (d := 70) (v := .int .i64 ((0 : Nat) : Int)) rfl rfl (by kernel_rfl) (pe hs_2 rfl rfl) (o_move rfl (pe hs_2 rfl rfl)) ?_
 refine op_valG (e := 69) (d := 71) (v := .bool (false)) rfl rfl (by kernel_rfl) (pe hs_2 rfl rfl) (o_eq (o_neq (m := 0) (n := 0) rfl (pe hs_2 rfl rfl) rfl) rfl) ?_
 refine q_v 72 (.bool (false)) (o_pickF rfl (pe hs_2 rfl rfl) (pe hs_2 rfl rfl)) ?_
 refine q_mv (pe hs_2 rfl rfl) ?_
 refine op_valG (e := 73) (d := 74) (v := .pointer (some ⟨g_9, 0, none⟩)) rfl rfl (by kernel_rfl) (pe hs_2 rfl rfl) (o_move rfl ((pm rfl).trans ta_2_9)) ?_
 refine op_valG (e := 73) (d := 75) (v := .bool (false)) rfl rfl (by kernel_rfl) (pe hs_2 rfl rfl) (o_nil (b := false) rfl (pe hs_2 rfl rfl) rfl rfl ⟨57, fun _ => by kernel_rfl⟩) ?_
 refine q_v 76 (.bool (false)) (o_pickF rfl (pe hs_2 rfl rfl) (pe hs_2 rfl rfl)) ?_
 refine q_mv (pe hs_2 rfl rfl) ?_
 refine op_valG (e := 77) (d := 78) (v := .pointer (some ⟨g_17, 0, none⟩)) rfl rfl (by kernel_rfl) (pe hs_2 rfl rfl) (o_move rfl ((pm rfl).trans hv_26)) ?_
 refine op_valG (e := 77) (d := 79) (v := .bool (false)) rfl rfl (by kernel_rfl) (pe hs_2 rfl rfl) (o_nil (b := false) rfl (pe hs_2 rfl rfl) rfl rfl ⟨57, fun _ => by kernel_rfl⟩) ?_
 refine q_v 80 (.bool (false)) (o_pickF rfl (pe hs_2 rfl rfl) (pe hs_2 rfl rfl)) ?_
 refine x_nil (hK_8 _ _ ?_)
 refine w2_condF (pe hs_2 rfl rfl) ?_
 refine w2_skip ?_
 refine hK_7 _ _ ?_
 refine w2_sr (fun K_9 hK_9 => ?_)
 refine q_mv ((pm rfl).trans ta_2_9) ?_
 refine q_mv ((pm rfl).trans ta_2_1) ?_
 refine q_ca (vs := #[.pointer (some ⟨g_9, 0, none⟩), .slice A6 (n6) (c6)]) Try.func21 (args2 (pe hs_2 rfl rfl) (pe hs_2 rfl rfl)) (Write_first _ hH_8 (h6.below HB_4) (by simp only [l6]) (by omega) (key_good h3.b8) (pubL_num _)) (fun e_3 w_6 hR_4 => ?_)
 obtain ⟨A_18, c_18, rfl, ho_8, ⟨M_17, hH_17, hN_1, hs_3⟩, hX_1⟩ := hR_4
 obtain ⟨S1, hS1⟩ : ∃ q : Sy, q = (firstS (shaL nameS) (shaL (shaL (shaL nameS ++ [9 / 256 % 256, 9 % 256]) ++ (pubL (padTo 32 sk)))) (padTo 32 ps) (pubL (padTo 32 ee)) (dhL (padTo 32 ee) ((secN (padTo 32 sk))))) := ⟨_, rfl⟩
 rw [← hS1] at ho_8 hH_17
 have hl_1 : (pubL (padTo 32 ee) ++ outS S1 xa).length = 32 + (n6 + 16) := by rw [List.length_append, outS_length, pubL_length]; have h9 : (xa : List Nat).length = n6 := (by simp only [l6]); omega
 have sp_13 : Sep M_16 M_17 := hN_1.sep (sp_8.symm) hH_16.lt
 have sp_14 : Sep (blkA A_18) M_16 := (Sep.new hH_16.lt ho_8.ge').symm
 replace hH_16 := hH_16.keepM hX_1 (sp_8.symm)
 replace ho_8 := ho_8.mono HB_4.size
 have HB_5 := hX_1.below HB_4 HB_4.size gg_1
 refine ⟨_, rfl, ?_⟩
 refine q_mv (pe hs_2 rfl rfl) ?_
 refine q_ex (v := .slice A_18 (32 + (n6 + 16)) (c_18)) (pe hs_2 rfl rfl) rfl ?_
 refine q_ex (v := .int .i64 ((0 : Nat) : Int)) (pe hs_2 rfl rfl) rfl ?_
 refine q_at (pe hs_2 rfl rfl) ?_
 refine q_at (v := .int .i64 ((0 : Nat) : Int)) (pe hs_2 rfl rfl) ?_
 refine x_nil (hK_9 _ _ ?_)
 refine w2_seq (fun K_10 hK_10 => ?_)
 refine w2_sr (fun K_11 hK_11 => ?_)
 refine q_mv (v := .int .i64 ((0 : Nat) : Int)) (pe hs_2 rfl rfl) ?_
 refine q_v 88 (.bool (false)) (o_eq (o_neq (m := 0) (n := 0) rfl (pe hs_2 rfl rfl) rfl) rfl) ?_
 refine q_mv (pe hs_2 rfl rfl) ?_
 refine op_valG (e := 89) (d := 90) (v := .slice A_18 (32 + (n6 + 16)) (c_18)) rfl rfl (by kernel_rfl) (pe hs_2 rfl rfl) (o_move rfl (pe hs_2 rfl rfl)) ?_
 refine op_valG (e := 89) (d := 91) (v := .int .i64 ((32 + (n6 + 16) : Nat) : Int)) rfl rfl (by kernel_rfl) (pe hs_2 rfl rfl) (o_len rfl (pe hs_2 rfl rfl)) ?_
 refine op_valG (e := 89) (d := 92) (v := .slice A6 (n6) (c6)) rfl rfl (by kernel_rfl) (pe hs_2 rfl rfl) (o_move rfl ((pm rfl).trans ta_2_1)) ?_
 refine op_valG (e := 89) (d := 93) (v := .int .i64 ((n6 : Nat) : Int)) rfl rfl (by kernel_rfl) (pe hs_2 rfl rfl) (o_len rfl (pe hs_2 rfl rfl)) ?_
 refine op_valG (e := 89) (d := 94) (v := .int .i64 ((n6 + 48 : Nat) : Int)) rfl rfl (by kernel_rfl) (pe hs_2 rfl rfl) (o_add64 (m := n6) (n := 48) rfl (pe hs_2 rfl rfl) rfl (by omega)) ?_
 refine op_valG (e := 89) (d := 95) (v := .bool (false)) rfl rfl (by kernel_rfl) (pe hs_2 rfl rfl) (o_eq (o_neq (m := (32 + (n6 + 16))) (n := (n6 + 48)) rfl (pe hs_2 rfl rfl) (pe hs_2 rfl rfl)) (by rw [decide_eq_true (by omega)]; rfl)) ?_
 refine q_v 96 (.bool (false)) (o_pickF rfl (pe hs_2 rfl rfl) (pe hs_2 rfl rfl)) ?_
 refine x_nil (hK_11 _ _ ?_)
 refine w2_condF (pe hs_2 rfl rfl) ?_
 refine w2_skip ?_
 refine hK_10 _ _ ?_
 refine w2_seq (fun K_12 hK_12 => ?_)
 have b1 := getD_lt ho_8.b8 (32 + (n6 + 16) - 1)
 refine x_region (by kernel_rfl) ?_
 refine q_mv (pe hs_2 rfl rfl) ?_
 refine q_mv (pe hs_2 rfl rfl) ?_
 refine q_v 99 (.int .i64 ((32 + (n6 + 16) : Nat) : Int)) (o_len rfl (pe hs_2 rfl rfl)) ?_
 refine q_v 100 (.int .i64 (((32 + (n6 + 16)) - 1 : Nat) : Int)) (o_sub64 (m := (32 + (n6 + 16))) (n := 1) rfl (pe hs_2 rfl rfl) rfl (by omega) (by omega)) ?_
 refine q_v 101 (.pointer (atA A_18 ((32 + (n6 + 16)) - 1))) (o_ix (k := (32 + (n6 + 16)) - 1) rfl (pe hs_2 rfl rfl) (pe hs_2 rfl rfl) (by omega) ((ho_8).bs.some (by rw [hl_1]; omega))) ?_
 refine q_v 102 (.int .u8 (((pubL (padTo 32 ee) ++ outS S1 xa).getD ((32 + (n6 + 16)) - 1) 0 : Nat) : Int)) (o_ld8 rfl (pe hs_2 rfl rfl) (ho_8).bs (by rw [hl_1]; omega) rfl) ?_
 refine q_mv ((pm rfl).trans ta_2_2) ?_
 refine q_v 104 (.int .u8 ((((pubL (padTo 32 ee) ++ outS S1 xa).getD ((32 + (n6 + 16)) - 1) 0) ^^^ x : Nat) : Int)) (o_bits (m := ((pubL (padTo 32 ee) ++ outS S1 xa).getD ((32 + (n6 + 16)) - 1) 0)) (n := x) (((pubL (padTo 32 ee) ++ outS S1 xa).getD ((32 + (n6 + 16)) - 1) 0) ^^^ x) rfl (pe hs_2 rfl rfl) (pe hs_2 rfl rfl) (by decide) (u8_xor_nat _ _ b1 hx8)) ?_
 refine q_v 105 (.pointer (atA A_18 ((32 + (n6 + 16)) - 1))) (o_ix (k := (32 + (n6 + 16)) - 1) rfl (pe hs_2 rfl rfl) (pe hs_2 rfl rfl) (by omega) ((ho_8).bs.some (by rw [hl_1]; omega))) ?_
 refine op_do rfl rfl (o_st8X rfl (pe hs_2 rfl rfl) (pe hs_2 rfl rfl) ho_8 (by have h9 : (pubL (padTo 32 ee) ++ outS S1 xa).length = 32 + (n6 + 16) := hl_1; omega) (Nat.xor_lt_two_pow (n := 8) b1 hx8) ⟨by kernel_rfl, by kernel_rfl⟩) (fun w_7 hR_5 => ?_)
 obtain ⟨ho_9, hX_2⟩ := hR_5
 replace hH_16 := hH_16.keepM hX_2 (sp_14.symm)
 replace hH_17 := hH_17.keepM hX_2 (hs_3.symm)
 have HB_6 := hX_2.below HB_5 HB_5.size ho_8.ge'
 refine x_nil (hK_12 _ _ ?_)
 refine w2_seq (fun K_13 hK_13 => ?_)
 have ho9 : (outS S1 xa).length = n6 + 16 := by rw [outS_length, l6]
 rw [msg_last (pubL_length _) ho9] at ho_9
 have hl_2 : (pubL (padTo 32 ee) ++ (outS S1 xa).set (n6 + 15) ((outS S1 xa).getD (n6 + 15) 0 ^^^ x)).length = 32 + (n6 + 16) := by rw [List.length_append, List.length_set, pubL_length, ho9]
 refine x_region (by kernel_rfl) ?_
 refine q_mv ((pm rfl).trans hv_26) ?_
 refine q_mv (pe hs_2 rfl rfl) ?_
 refine q_ca (vs := #[.pointer (some ⟨g_17, 0, none⟩), .slice A_18 (32 + (n6 + 16)) (c_18)]) Try.func20 (args2 (pe hs_2 rfl rfl) (pe hs_2 rfl rfl)) (Read_bad (r := 4) (ys := ([] : List Nat)) _ hH_16 (ho_9).bs hl_2 (by omega) (by omega) (pubL_length _) (key_good h4.b8) (pubL_num _) (by rw [dhL_comm (padTo 32 sk) (padTo 32 ee), ← hS1]; exact tag_outS S1 l6 hx0) (by decide)) (fun e_4 w_8 hR_6 => ?_)
 obtain ⟨A_19, c_19, rfl, ho_10, ⟨M_18, hH_18, hN_2, hs_4⟩, hX_3⟩ := hR_6
 rw [dhL_comm (padTo 32 sk) (padTo 32 ee), ← hS1] at hH_18
 replace hH_17 := hH_17.keepM hX_3 (sp_13.symm)
 have HB_7 := hX_3.below HB_6 HB_6.size gg_2
 refine ⟨_, rfl, ?_⟩
 refine q_mv (pe hs_2 rfl rfl) ?_
 refine q_ex (v := .slice A_19 ((([] : List Nat)).length) (c_19)) (pe hs_2 rfl rfl) rfl ?_
 refine q_ex (v := .int .i64 ((4 : Nat) : Int)) (pe hs_2 rfl rfl) rfl ?_
 refine q_at (pe hs_2 rfl rfl) ?_
 refine q_at (v := .int .i64 ((4 : Nat) : Int)) (pe hs_2 rfl rfl) ?_
 refine x_nil (hK_13 _ _ ?_)
 refine w2_sr (fun K_14 hK_14 => ?_)
 refine q_mv ((pm rfl).trans hv_26) ?_
 refine q_mv (pe hs_2 rfl rfl) ?_
 refine q_ca (vs := #[.pointer (some ⟨g_17, 0, none⟩), .slice A_18 (32 + (n6 + 16)) (c_18)]) Try.func20 (args2 (pe hs_2 rfl rfl) (pe hs_2 rfl rfl)) (Read_dead _ hH_18 rfl) (fun e_5 w_9 hR_7 => ?_)
 obtain ⟨rfl, rfl⟩ := hR_7
 refine ⟨_, rfl, ?_⟩
 refine q_mv (pe hs_2 rfl rfl) ?_
 refine q_ex (v := .slice none (0) (0)) (pe hs_2 rfl rfl) rfl ?_
 refine q_ex (v := .int .i64 ((10 : Nat) : Int)) (pe hs_2 rfl rfl) rfl ?_
 refine q_at (pe hs_2 rfl rfl) ?_
 refine q_at (v := .int .i64 ((10 : Nat) : Int)) (pe hs_2 rfl rfl) ?_
 refine x_nil (hK_14 _ _ ?_)
 refine w2_sr (fun K_15 hK_15 => ?_)
 refine q_mv ((pm rfl).trans hv_26) ?_
 refine q_ca (vs := #[.pointer (some ⟨g_17, 0, none⟩), .slice none (0) (0)]) Try.func21 (args2 (pe hs_2 rfl rfl) rfl) (Write_dead _ hH_18 rfl) (fun e_6 w_10 hR_8 => ?_)
 obtain ⟨rfl, rfl⟩ := hR_8
 refine ⟨_, rfl, ?_⟩
 refine q_mv (pe hs_2 rfl rfl) ?_
 refine q_ex (v := .slice none (0) (0)) (pe hs_2 rfl rfl) rfl ?_
 refine q_ex (v := .int .i64 ((10 : Nat) : Int)) (pe hs_2 rfl rfl) rfl ?_
 refine q_at (pe hs_2 rfl rfl) ?_
 refine q_at (v := .int .i64 ((10 : Nat) : Int)) (pe hs_2 rfl rfl) ?_
 refine x_nil (hK_15 _ _ ?_)
 refine w2_sr (fun K_16 hK_16 => ?_)
 refine q_mv ((pm rfl).trans hv_26) ?_
 refine q_ca (vs := #[.pointer (some ⟨g_17, 0, none⟩)]) Try.func22 (args1 (pe hs_2 rfl rfl)) (Split_dead _ hH_18 rfl) (fun e_7 w_11 hR_9 => ?_)
 obtain ⟨rfl, rfl⟩ := hR_9
 refine ⟨_, rfl, ?_⟩
 refine q_mv (pe hs_2 rfl rfl) ?_
 refine q_ex (v := .pointer none) (pe hs_2 rfl rfl) rfl ?_
 refine q_ex (v := .pointer none) (pe hs_2 rfl rfl) rfl ?_
 refine q_ex (v := .int .i64 ((10 : Nat) : Int)) (pe hs_2 rfl rfl) rfl ?_
 refine q_at (pe hs_2 rfl rfl) ?_
 refine q_at (pe hs_2 rfl rfl) ?_
 refine q_at (v := .int .i64 ((10 : Nat) : Int)) (pe hs_2 rfl rfl) ?_
 refine x_nil (hK_16 _ _ ?_)
 refine w2_sr (fun K_17 hK_17 => ?_)
 refine q_mv (v := .int .i64 ((4 : Nat) : Int)) (pe hs_2 rfl rfl) ?_
 refine q_v 130 (.bool (true)) (o_eq (o_eql (m := 4) (n := 4) rfl (pe hs_2 rfl rfl) rfl) rfl) ?_
 refine q_mv (pe hs_2 rfl rfl) ?_
 refine op_valG (e := 131) (d := 132) (v := .slice A_19 ((([] : List Nat)).length) (c_19)) rfl rfl (by kernel_rfl) (pe hs_2 rfl rfl) (o_move rfl (pe hs_2 rfl rfl)) ?_
 refine op_valG (e := 131) (d := 133) (v := .int .i64 (((([] : List Nat)).length : Nat) : Int)) rfl rfl (by kernel_rfl) (pe hs_2 rfl rfl) (o_len rfl (pe hs_2 rfl rfl)) ?_
 refine op_valG (e := 131) (d := 134) (v := .bool (true)) rfl rfl (by kernel_rfl) (pe hs_2 rfl rfl) (o_eq (o_eql (m := ((([] : List Nat)).length)) (n := 0) rfl (pe hs_2 rfl rfl) rfl) (congrArg Value.bool (by decide))) ?_
 refine q_v 135 (.bool (true)) (o_pickT rfl (pe hs_2 rfl rfl) (pe hs_2 rfl rfl)) ?_
 refine q_mv (pe hs_2 rfl rfl) ?_
 refine op_valG (e := 136) (d := 137) (v := .int .i64 ((10 : Nat) : Int)) rfl rfl (by kernel_rfl) (pe hs_2 rfl rfl) (o_move rfl (pe hs_2 rfl rfl)) ?_
 refine op_valG (e := 136) (d := 138) (v := .bool (true)) rfl rfl (by kernel_rfl) (pe hs_2 rfl rfl) (o_eq (o_eql (m := 10) (n := 10) rfl (pe hs_2 rfl rfl) rfl) rfl) ?_
 refine q_v 139 (.bool (true)) (o_pickT rfl (pe hs_2 rfl rfl) (pe hs_2 rfl rfl)) ?_
 refine q_mv (pe hs_2 rfl rfl) ?_
 refine op_valG (e := 140) (d := 141) (v := .int .i64 ((10 : Nat) : Int)) rfl rfl (by kernel_rfl) (pe hs_2 rfl rfl) (o_move rfl (pe hs_2 rfl rfl)) ?_
 refine op_valG (e := 140) (d := 142) (v := .bool (true)) rfl rfl (by kernel_rfl) (pe hs_2 rfl rfl) (o_eq (o_eql (m := 10) (n := 10) rfl (pe hs_2 rfl rfl) rfl) rfl) ?_
 refine q_v 143 (.bool (true)) (o_pickT rfl (pe hs_2 rfl rfl) (pe hs_2 rfl rfl)) ?_
 refine q_mv (pe hs_2 rfl rfl) ?_
 refine op_valG (e := 144) (d := 145) (v := .int .i64 ((10 : Nat) : Int)) rfl rfl (by kernel_rfl) (pe hs_2 rfl rfl) (o_move rfl (pe hs_2 rfl rfl)) ?_
 refine op_valG (e := 144) (d := 146) (v := .bool (true)) rfl rfl (by kernel_rfl) (pe hs_2 rfl rfl) (o_eq (o_eql (m := 10) (n := 10) rfl (pe hs_2 rfl rfl) rfl) rfl) ?_
 refine q_v 147 (.bool (true)) (o_pickT rfl (pe hs_2 rfl rfl) (pe hs_2 rfl rfl)) ?_
 refine q_mv (pe hs_2 rfl rfl) ?_
 refine op_valG (e := 148) (d := 149) (v := .pointer (some ⟨g_17, 0, none⟩)) rfl rfl (by kernel_rfl) (pe hs_2 rfl rfl) (o_move rfl ((pm rfl).trans hv_26)) ?_
 refine op_callG (e := 148) (vs := #[.pointer (some ⟨g_17, 0, none⟩)]) rfl rfl (by kernel_rfl) (pe hs_2 rfl rfl) (exec_call Try.func25 (by kernel_rfl) (by kernel_rfl) _ rfl _ _ (args1 (pe hs_2 rfl rfl))) (Hash_dead _ hH_18 rfl) (fun e_8 w_12 hR_10 => ?_)
 obtain ⟨rfl, rfl⟩ := hR_10
 refine ⟨_, rfl, ?_⟩
 refine op_valG (e := 148) (d := 151) (v := .int .i64 ((0 : Nat) : Int)) rfl rfl (by kernel_rfl) (pe hs_2 rfl rfl) (o_len rfl (pe hs_2 rfl rfl)) ?_
 refine op_valG (e := 148) (d := 152) (v := .bool (true)) rfl rfl (by kernel_rfl) (pe hs_2 rfl rfl) (o_eq (o_eql (m := 0) (n := 0) rfl (pe hs_2 rfl rfl) rfl) rfl) ?_
 refine q_v 153 (.bool (true)) (o_pickT rfl (pe hs_2 rfl rfl) (pe hs_2 rfl rfl)) ?_
 refine q_mv (pe hs_2 rfl rfl) ?_
 refine op_valG (e := 154) (d := 155) (v := .pointer (some ⟨g_9, 0, none⟩)) rfl rfl (by kernel_rfl) (pe hs_2 rfl rfl) (o_move rfl ((pm rfl).trans ta_2_9)) ?_
 refine op_callG (e := 154) (vs := #[.pointer (some ⟨g_9, 0, none⟩)]) rfl rfl (by kernel_rfl) (pe hs_2 rfl rfl) (exec_call Try.func25 (by kernel_rfl) (by kernel_rfl) _ rfl _ _ (args1 (pe hs_2 rfl rfl))) (Hash_any _ hH_17 (by dsimp only; omega)) (fun e_9 w_13 hR_11 => ?_)
 obtain ⟨A_20, c_20, rfl, ho_11, hb_16⟩ := hR_11
 replace hH_17 := hH_17.nx hb_16
 replace hH_18 := hH_18.nx hb_16
 have HB_8 := below_from HB_7 hb_16
 refine ⟨_, rfl, ?_⟩
 refine op_valG (e := 154) (d := 157) (v := .int .i64 ((32 : Nat) : Int)) rfl rfl (by kernel_rfl) (pe hs_2 rfl rfl) (o_len rfl (pe hs_2 rfl rfl)) ?_
 refine op_valG (e := 154) (d := 158) (v := .bool (true)) rfl rfl (by kernel_rfl) (pe hs_2 rfl rfl) (o_eq (o_eql (m := 32) (n := 32) rfl (pe hs_2 rfl rfl) rfl) rfl) ?_
 refine q_v 159 (.bool (true)) (o_pickT rfl (pe hs_2 rfl rfl) (pe hs_2 rfl rfl)) ?_
 refine q_mv (pe hs_2 rfl rfl) ?_
 refine op_callG (e := 160) (vs := #[]) rfl rfl (by kernel_rfl) (pe hs_2 rfl rfl) (exec_call Try.func10 (by kernel_rfl) (by kernel_rfl) _ rfl _ _ (args0)) (awake10_any _) (fun e_10 w_14 hR_12 => ?_)
 obtain ⟨rfl, hb_18⟩ := hR_12
 replace hH_17 := hH_17.nx hb_18
 replace hH_18 := hH_18.nx hb_18
 have HB_9 := below_from HB_8 hb_18
 refine ⟨_, rfl, ?_⟩
 refine q_v 162 (.bool (true)) (o_pickT rfl (pe hs_2 rfl rfl) (pe hs_2 rfl rfl)) ?_
 refine q_at (pe hs_2 rfl rfl) ?_
 refine x_nil (hK_17 _ _ ?_)
 refine w2_ret ?_
 refine ret1 rfl hd_2 (pe hs_2 rfl rfl) ?_
 exact ⟨rfl, HB_9⟩
end Go.Proofs.Ytbgonhmaeekkaaa
