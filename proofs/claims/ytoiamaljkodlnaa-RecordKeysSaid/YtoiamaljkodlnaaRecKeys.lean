/-
  WALKS: sapperlaw12.RecordKeys.
-/
import Derived.Test.YtoiamaljkodlnaaAwake12
import Derived.Test.YtoiamaljkodlnaaRow
namespace Go.Proofs.Ytoiamaljkodlnaa
open Go.RowKit
set_option linter.unusedVariables false
set_option linter.unusedSimpArgs false
set_option maxRecDepth 100000
attribute [local irreducible] wpList wpListIn putsR

theorem putsL_rep (c : Co) (b : List Nat) (K : Nat) : putsL c (List.replicate (K + 1) b) = (putsL c (List.replicate K b)).put := by rw [List.replicate_succ', putsL_snoc]
theorem RecKeysA {A0 A1 : Option Addr} {c0 c1 m la : Nat} {ks xa : List Nat} (z : Int) (w : World) (h0 : Bs w A0 c0 ks) (h1 : Bs w A1 c1 xa) (hm : ks.length = m) (hla : xa.length = la) (hq : 200 < la) :
    Calls Try.prog 12 #[.slice A0 (m) (c0), .slice A1 (la) (c1), .int .i64 (z)] w fun e w' => e = .returned (.bool true) ∧ Below w.heap.size w w' := by
  refine x_enter 123 Try.func12 rfl rfl (fun a hs hd ha0 => ?_)
  have t0 : a.eval (.tmp 0) = .slice A0 (m) (c0) := ha0 0 _ rfl
  have t1 : a.eval (.tmp 1) = .slice A1 (la) (c1) := ha0 1 _ rfl
  have t2 : a.eval (.tmp 2) = .int .i64 (z) := ha0 2 _ rfl
  clear ha0
  refine w2_seq (fun K_1 hK_1 => ?_)
  refine x_region (by kernel_rfl) ?_
  refine op_val (d := 6) (v := .bool (false)) rfl rfl (o_assign rfl rfl) ?_
  refine x_nil ?_
  refine hK_1 _ _ ?_
  refine w2_seq (fun K_2 hK_2 => ?_)
  refine w2_seq (fun K_3 hK_3 => ?_)
  refine x_region (by kernel_rfl) ?_
  refine op_val (d := 19) (v := .slice A1 (la) (c1)) rfl rfl (o_move rfl ((pm rfl).trans t1)) ?_
  refine op_val (d := 20) (v := .int .i64 ((la : Nat) : Int)) rfl rfl (o_len rfl (pe hs rfl rfl)) ?_
  refine op_val (d := 21) (v := .bool (true)) rfl rfl (o_eq (o_gtr (m := la) (n := 200) rfl (pe hs rfl rfl) rfl) (by rw [decide_eq_true hq])) ?_
  refine x_nil ?_
  refine hK_3 _ _ ?_
  refine w2_condT (pe hs rfl rfl) ?_
  refine w2_seq (fun K_4 hK_4 => ?_)
  refine x_region (by kernel_rfl) ?_
  refine op_call (vs := #[]) rfl rfl (exec_call Try.func34 (by kernel_rfl) (by kernel_rfl) _ rfl _ _ (args0)) (awake12_any _) (fun e_1 w_1 hR_1 => ?_)
  obtain ⟨rfl, hb_2⟩ := hR_1
  refine ⟨_, rfl, ?_⟩
  refine op_val (d := 6) (v := .bool (true)) rfl rfl (o_assign rfl (pe hs rfl rfl)) ?_
  refine x_nil ?_
  refine hK_4 _ _ ?_
  refine w2_ret ?_
  refine thn_ret ?_
  refine ret1 rfl hd (pe hs rfl rfl) ?_
  exact ⟨rfl, hb_2⟩
set_option maxHeartbeats 1000000 in
theorem RecKeysB {A0 A1 : Option Addr} {c0 c1 m la : Nat} {ks xa : List Nat} (z : Int) (w : World) (h0 : Bs w A0 c0 ks) (h1 : Bs w A1 c1 xa) (hm : ks.length = m) (hla : xa.length = la) (hq : la ≤ 200) :
    Calls Try.prog 12 #[.slice A0 (m) (c0), .slice A1 (la) (c1), .int .i64 (z)] w fun e w' => e = .returned (.bool true) ∧ Below w.heap.size w w' := by
  obtain ⟨ev, hev⟩ : ∃ q, 1 + at64 z % 4 = q := ⟨_, rfl⟩
  have hev4 : ev ≤ 4 := by omega
  have hsz := sizeN_top la
  obtain ⟨co, hco⟩ : ∃ q : Co, q = ⟨padTo 32 ks, 0, everyN ((ev : Nat) : Int), 0⟩ := ⟨_, rfl⟩
  have hn0 : co.n = 0 := by rw [hco]
  have hc0 : co.cnt = 0 := by rw [hco]
  refine x_enter 123 Try.func12 rfl rfl (fun a hs hd ha0 => ?_)
  have t0 : a.eval (.tmp 0) = .slice A0 (m) (c0) := ha0 0 _ rfl
  have t1 : a.eval (.tmp 1) = .slice A1 (la) (c1) := ha0 1 _ rfl
  have t2 : a.eval (.tmp 2) = .int .i64 (z) := ha0 2 _ rfl
  clear ha0
  refine w2_seq (fun K_1 hK_1 => ?_)
  refine x_region (by kernel_rfl) ?_
  refine op_val (d := 6) (v := .bool (false)) rfl rfl (o_assign rfl rfl) ?_
  refine x_nil ?_
  refine hK_1 _ _ ?_
  refine w2_seq (fun K_2 hK_2 => ?_)
  refine w2_seq (fun K_3 hK_3 => ?_)
  refine x_region (by kernel_rfl) ?_
  refine op_val (d := 19) (v := .slice A1 (la) (c1)) rfl rfl (o_move rfl ((pm rfl).trans t1)) ?_
  refine op_val (d := 20) (v := .int .i64 ((la : Nat) : Int)) rfl rfl (o_len rfl (pe hs rfl rfl)) ?_
  refine op_val (d := 21) (v := .bool (false)) rfl rfl (o_eq (o_gtr (m := la) (n := 200) rfl (pe hs rfl rfl) rfl) (by rw [decide_eq_false (by omega)])) ?_
  refine x_nil ?_
  refine hK_3 _ _ ?_
  refine w2_condF (pe hs rfl rfl) ?_
  refine w2_skip ?_
  refine hK_2 _ _ ?_
  refine w2_seq (fun K_4 hK_4 => ?_)
  have hz := at64_lt z
  refine x_region (by kernel_rfl) ?_
  refine op_val (d := 23) (v := .int .i64 (z)) rfl rfl (o_move rfl ((pm rfl).trans t2)) ?_
  refine op_val (d := 24) (v := .int .u64 ((at64 z : Nat) : Int)) rfl rfl (o_convZ rfl (pe hs rfl rfl) ⟨.int .i64, fun _ => by kernel_rfl⟩ (fun _ => by kernel_rfl)) ?_
  refine op_val (d := 25) (v := .int .u64 (((at64 z) % 4 : Nat) : Int)) rfl rfl (o_rem (m := (at64 z)) (n := 4) rfl (pe hs rfl rfl) rfl (by omega) (by rw [IntKind.wrap_u64]; omega)) ?_
  refine op_val (d := 26) (v := .int .i64 (((at64 z) % 4 : Nat) : Int)) rfl rfl (o_conv (m := ((at64 z) % 4)) (r := (at64 z) % 4) rfl (pe hs rfl rfl) ⟨.int .u64, fun _ => by kernel_rfl⟩ (fun _ => by kernel_rfl) (IntWalk.i64_in _ (by omega))) ?_
  refine op_val (d := 27) (v := .int .i64 ((1 + ((at64 z) % 4) : Nat) : Int)) rfl rfl (o_add64 (m := 1) (n := ((at64 z) % 4)) rfl rfl (pe hs rfl rfl) (by omega)) ?_
  refine op_val (d := 2) (v := .int .i64 ((ev : Nat) : Int)) rfl rfl (o_eq (o_assign rfl (pe hs rfl rfl)) (by rw [hev])) ?_
  refine x_nil ?_
  refine hK_4 _ _ ?_
  refine w2_seq (fun K_5 hK_5 => ?_)
  refine x_region (by kernel_rfl) ?_
  refine op_val (d := 28) (v := .slice A0 (m) (c0)) rfl rfl (o_move rfl ((pm rfl).trans t0)) ?_
  refine op_call (vs := #[.slice A0 (m) (c0)]) rfl rfl (exec_call Try.func35 (by kernel_rfl) (by kernel_rfl) _ rfl _ _ (args1 (pe hs rfl rfl))) (Key_any _ h0 hm) (fun e_1 w_1 hR_1 => ?_)
  obtain ⟨A_1, c_1, rfl, ho_1, hb_1⟩ := hR_1
  refine ⟨_, rfl, ?_⟩
  refine op_val (d := 7) (v := .slice A_1 (32) (c_1)) rfl rfl (o_assign rfl (pe hs rfl rfl)) ?_
  refine x_nil ?_
  refine hK_5 _ _ ?_
  refine w2_seq (fun K_6 hK_6 => ?_)
  refine x_region (by kernel_rfl) ?_
  refine op_val (d := 31) (v := .slice A_1 (32) (c_1)) rfl rfl (o_move rfl (pe hs rfl rfl)) ?_
  refine op_call (vs := #[.slice A_1 (32) (c_1)]) rfl rfl (exec_call Try.func36 (by kernel_rfl) (by kernel_rfl) _ rfl _ _ (args1 (pe hs rfl rfl))) (NewCipher_any _ (ho_1).bs (by simp only [padTo_length]) rfl) (fun e_2 w_2 hR_2 => ?_)
  obtain ⟨M_1, g_1, rfl, hC_1, hge_1, hb_2⟩ := hR_2
  have sp_1 : Sep (blkA A_1) M_1 := Sep.new ho_1.lt hge_1
  have gg_1 := hge_1.down hb_1.size
  replace ho_1 := ho_1.nx hb_2
  have HB_1 := below_from hb_1 hb_2
  refine ⟨_, rfl, ?_⟩
  refine op_val (d := 30) (v := .tuple #[.pointer (some ⟨g_1, 0, none⟩), .int .i64 ((0 : Nat) : Int)]) rfl rfl (o_move rfl (pe hs rfl rfl)) ?_
  refine op_val (d := 33) (v := .pointer (some ⟨g_1, 0, none⟩)) rfl rfl (o_extract rfl (pe hs rfl rfl) rfl) ?_
  refine op_val (d := 34) (v := .int .i64 ((0 : Nat) : Int)) rfl rfl (o_extract rfl (pe hs rfl rfl) rfl) ?_
  refine op_val (d := 8) (v := .pointer (some ⟨g_1, 0, none⟩)) rfl rfl (o_assign rfl (pe hs rfl rfl)) ?_
  refine op_val (d := 9) (v := .int .i64 ((0 : Nat) : Int)) rfl rfl (o_assign rfl (pe hs rfl rfl)) ?_
  refine x_nil ?_
  refine hK_6 _ _ ?_
  refine w2_seq (fun K_7 hK_7 => ?_)
  refine x_region (by kernel_rfl) ?_
  refine op_val (d := 36) (v := .slice A_1 (32) (c_1)) rfl rfl (o_move rfl (pe hs rfl rfl)) ?_
  refine op_call (vs := #[.slice A_1 (32) (c_1)]) rfl rfl (exec_call Try.func36 (by kernel_rfl) (by kernel_rfl) _ rfl _ _ (args1 (pe hs rfl rfl))) (NewCipher_any _ (ho_1).bs (by simp only [padTo_length]) rfl) (fun e_3 w_3 hR_3 => ?_)
  obtain ⟨M_2, g_2, rfl, hC_2, hge_2, hb_3⟩ := hR_3
  have sp_2 : Sep (blkA A_1) M_2 := Sep.new ho_1.lt hge_2
  have sp_3 : Sep M_1 M_2 := Sep.new hC_1.lt hge_2
  have gg_2 := hge_2.down HB_1.size
  replace ho_1 := ho_1.nx hb_3
  replace hC_1 := hC_1.nx hb_3
  have HB_2 := below_from HB_1 hb_3
  refine ⟨_, rfl, ?_⟩
  refine op_val (d := 35) (v := .tuple #[.pointer (some ⟨g_2, 0, none⟩), .int .i64 ((0 : Nat) : Int)]) rfl rfl (o_move rfl (pe hs rfl rfl)) ?_
  refine op_val (d := 38) (v := .pointer (some ⟨g_2, 0, none⟩)) rfl rfl (o_extract rfl (pe hs rfl rfl) rfl) ?_
  refine op_val (d := 39) (v := .int .i64 ((0 : Nat) : Int)) rfl rfl (o_extract rfl (pe hs rfl rfl) rfl) ?_
  refine op_val (d := 10) (v := .pointer (some ⟨g_2, 0, none⟩)) rfl rfl (o_assign rfl (pe hs rfl rfl)) ?_
  refine op_val (d := 11) (v := .int .i64 ((0 : Nat) : Int)) rfl rfl (o_assign rfl (pe hs rfl rfl)) ?_
  refine x_nil ?_
  refine hK_7 _ _ ?_
  refine w2_seq (fun K_8 hK_8 => ?_)
  refine w2_seq (fun K_9 hK_9 => ?_)
  refine x_region (by kernel_rfl) ?_
  refine op_val (d := 40) (v := .int .i64 ((0 : Nat) : Int)) rfl rfl (o_move rfl (pe hs rfl rfl)) ?_
  refine op_val (d := 41) (v := .bool (false)) rfl rfl (o_eq (o_neq (m := 0) (n := 0) rfl (pe hs rfl rfl) rfl) rfl) ?_
  refine op_val (d := 42) (v := .bool (false)) rfl rfl (o_move rfl (pe hs rfl rfl)) ?_
  refine op_valG (e := 42) (d := 43) (v := .int .i64 ((0 : Nat) : Int)) rfl rfl (by kernel_rfl) (pe hs rfl rfl) (o_move rfl (pe hs rfl rfl)) ?_
  refine op_valG (e := 42) (d := 44) (v := .bool (false)) rfl rfl (by kernel_rfl) (pe hs rfl rfl) (o_eq (o_neq (m := 0) (n := 0) rfl (pe hs rfl rfl) rfl) rfl) ?_
  refine op_val (d := 45) (v := .bool (false)) rfl rfl (o_pickF rfl (pe hs rfl rfl) (pe hs rfl rfl)) ?_
  refine x_nil ?_
  refine hK_9 _ _ ?_
  refine w2_condF (pe hs rfl rfl) ?_
  refine w2_skip ?_
  refine hK_8 _ _ ?_
  refine w2_seq (fun K_10 hK_10 => ?_)
  refine x_region (by kernel_rfl) ?_
  refine op_val (d := 46) (v := .pointer (some ⟨g_1, 0, none⟩)) rfl rfl (o_move rfl (pe hs rfl rfl)) ?_
  refine op_val (d := 47) (v := .int .i64 ((ev : Nat) : Int)) rfl rfl (o_move rfl (pe hs rfl rfl)) ?_
  refine op_call (vs := #[.pointer (some ⟨g_1, 0, none⟩), .int .i64 ((ev : Nat) : Int)]) rfl rfl (exec_call Try.func37 (by kernel_rfl) (by kernel_rfl) _ rfl _ _ (args2 (pe hs rfl rfl) (pe hs rfl rfl))) (NewWriter_any (((ev : Nat) : Int) : Int) _ hC_1) (fun e_4 w_4 hR_4 => ?_)
  obtain ⟨M_3, g_3, rfl, hW_1, hN_1, hb_4⟩ := hR_4
  rw [← hco] at hW_1
  have sp_4 : Sep (blkA A_1) M_3 := hN_1.sep (sp_1) ho_1.lt
  have sp_5 : Sep M_2 M_3 := hN_1.sep (sp_3.symm) hC_2.lt
  have gg_3 := hN_1.ge gg_1 HB_2.size
  replace ho_1 := ho_1.nx hb_4
  replace hC_2 := hC_2.nx hb_4
  have HB_3 := below_from HB_2 hb_4
  refine ⟨_, rfl, ?_⟩
  refine op_val (d := 49) (v := .pointer (some ⟨g_2, 0, none⟩)) rfl rfl (o_move rfl (pe hs rfl rfl)) ?_
  refine op_val (d := 50) (v := .int .i64 ((ev : Nat) : Int)) rfl rfl (o_move rfl (pe hs rfl rfl)) ?_
  refine op_call (vs := #[.pointer (some ⟨g_2, 0, none⟩), .int .i64 ((ev : Nat) : Int)]) rfl rfl (exec_call Try.func40 (by kernel_rfl) (by kernel_rfl) _ rfl _ _ (args2 (pe hs rfl rfl) (pe hs rfl rfl))) (NewReader_any (((ev : Nat) : Int) : Int) _ hC_2) (fun e_5 w_5 hR_5 => ?_)
  obtain ⟨M_4, g_4, rfl, hW_2, hN_2, hb_5⟩ := hR_5
  rw [← hco] at hW_2
  have sp_6 : Sep (blkA A_1) M_4 := hN_2.sep (sp_2) ho_1.lt
  have sp_7 : Sep M_3 M_4 := hN_2.sep (sp_5.symm) hW_1.lt
  have gg_4 := hN_2.ge gg_2 HB_3.size
  replace ho_1 := ho_1.nx hb_5
  replace hW_1 := hW_1.nx hb_5
  have HB_4 := below_from HB_3 hb_5
  refine ⟨_, rfl, ?_⟩
  refine op_val (d := 12) (v := .pointer (some ⟨g_3, 0, none⟩)) rfl rfl (o_assign rfl (pe hs rfl rfl)) ?_
  refine op_val (d := 13) (v := .pointer (some ⟨g_4, 0, none⟩)) rfl rfl (o_assign rfl (pe hs rfl rfl)) ?_
  refine x_nil ?_
  refine hK_10 _ _ ?_
  refine w2_seq (fun K_11 hK_11 => ?_)
  refine w2_seq (fun K_12 hK_12 => ?_)
  refine x_region (by kernel_rfl) ?_
  refine op_val (d := 52) (v := .int .i64 ((ev : Nat) : Int)) rfl rfl (o_move rfl (pe hs rfl rfl)) ?_
  refine op_val (d := 53) (v := .int .i64 ((2 * ev : Nat) : Int)) rfl rfl (o_mul64 (m := 2) (n := ev) rfl rfl (pe hs rfl rfl) (by omega)) ?_
  refine op_val (d := 54) (v := .int .i64 (((2 * ev) + 1 : Nat) : Int)) rfl rfl (o_add64 (m := (2 * ev)) (n := 1) rfl (pe hs rfl rfl) rfl (by omega)) ?_
  refine op_val (d := 55) (v := .int .i64 ((0 : Nat) : Int)) rfl rfl (o_move rfl rfl) ?_
  refine x_nil ?_
  refine hK_12 _ _ ?_
  refine w2_block (fun K_13 hK_13 => ?_)
  refine x_loop (fun nn aa ww => ∃ (K : Nat) (Mw Mr : Nat → Prop), nn = 2 * ev + 1 - K ∧ aa.tmps.size = 123 ∧ aa.defers = [] ∧ aa.eval (.tmp 0) = .slice A0 (m) (c0) ∧ aa.eval (.tmp 1) = .slice A1 (la) (c1) ∧ aa.eval (.tmp 2) = .int .i64 ((ev : Nat) : Int) ∧ aa.eval (.tmp 7) = .slice A_1 (32) (c_1) ∧ aa.eval (.tmp 8) = .pointer (some ⟨g_1, 0, none⟩) ∧ aa.eval (.tmp 9) = .int .i64 ((0 : Nat) : Int) ∧ aa.eval (.tmp 10) = .pointer (some ⟨g_2, 0, none⟩) ∧ aa.eval (.tmp 11) = .int .i64 ((0 : Nat) : Int) ∧ aa.eval (.tmp 12) = .pointer (some ⟨g_3, 0, none⟩) ∧ aa.eval (.tmp 13) = .pointer (some ⟨g_4, 0, none⟩) ∧ aa.eval (.tmp 19) = .slice A1 (la) (c1) ∧ aa.eval (.tmp 20) = .int .i64 ((la : Nat) : Int) ∧ aa.eval (.tmp 21) = .bool (false) ∧ aa.eval (.tmp 23) = .int .i64 (z) ∧ aa.eval (.tmp 24) = .int .u64 ((at64 z : Nat) : Int) ∧ aa.eval (.tmp 25) = .int .u64 (((at64 z) % 4 : Nat) : Int) ∧ aa.eval (.tmp 26) = .int .i64 (((at64 z) % 4 : Nat) : Int) ∧ aa.eval (.tmp 27) = .int .i64 ((1 + ((at64 z) % 4) : Nat) : Int) ∧ aa.eval (.tmp 28) = .slice A0 (m) (c0) ∧ aa.eval (.tmp 29) = .slice A_1 (32) (c_1) ∧ aa.eval (.tmp 30) = .tuple #[.pointer (some ⟨g_1, 0, none⟩), .int .i64 ((0 : Nat) : Int)] ∧ aa.eval (.tmp 31) = .slice A_1 (32) (c_1) ∧ aa.eval (.tmp 32) = .tuple #[.pointer (some ⟨g_1, 0, none⟩), .int .i64 ((0 : Nat) : Int)] ∧ aa.eval (.tmp 33) = .pointer (some ⟨g_1, 0, none⟩) ∧ aa.eval (.tmp 34) = .int .i64 ((0 : Nat) : Int) ∧ aa.eval (.tmp 35) = .tuple #[.pointer (some ⟨g_2, 0, none⟩), .int .i64 ((0 : Nat) : Int)] ∧ aa.eval (.tmp 36) = .slice A_1 (32) (c_1) ∧ aa.eval (.tmp 37) = .tuple #[.pointer (some ⟨g_2, 0, none⟩), .int .i64 ((0 : Nat) : Int)] ∧ aa.eval (.tmp 38) = .pointer (some ⟨g_2, 0, none⟩) ∧ aa.eval (.tmp 39) = .int .i64 ((0 : Nat) : Int) ∧ aa.eval (.tmp 40) = .int .i64 ((0 : Nat) : Int) ∧ aa.eval (.tmp 41) = .bool (false) ∧ aa.eval (.tmp 42) = .bool (false) ∧ aa.eval (.tmp 43) = .int .i64 ((0 : Nat) : Int) ∧ aa.eval (.tmp 44) = .bool (false) ∧ aa.eval (.tmp 45) = .bool (false) ∧ aa.eval (.tmp 46) = .pointer (some ⟨g_1, 0, none⟩) ∧ aa.eval (.tmp 47) = .int .i64 ((ev : Nat) : Int) ∧ aa.eval (.tmp 48) = .pointer (some ⟨g_3, 0, none⟩) ∧ aa.eval (.tmp 49) = .pointer (some ⟨g_2, 0, none⟩) ∧ aa.eval (.tmp 50) = .int .i64 ((ev : Nat) : Int) ∧ aa.eval (.tmp 51) = .pointer (some ⟨g_4, 0, none⟩) ∧ aa.eval (.tmp 52) = .int .i64 ((ev : Nat) : Int) ∧ aa.eval (.tmp 53) = .int .i64 ((2 * ev : Nat) : Int) ∧ aa.eval (.tmp 54) = .int .i64 (((2 * ev) + 1 : Nat) : Int) ∧ aa.eval (.tmp 55) = .int .i64 ((K : Nat) : Int) ∧ K ≤ 2 * ev + 1 ∧ WriterAt ww Mw g_3 g_1 (putsL co (List.replicate K xa)) ∧ ReaderAt ww Mr g_4 g_2 (Rd.at0 (putsL co (List.replicate K xa)) []) ∧ Sep Mw Mr ∧ Ge w Mw ∧ Ge w Mr ∧ Below w.heap.size w ww) (2 * ev + 1 - 0) ?_ ?_
  · exact ⟨0, M_3, M_4, rfl, (by rw [putsR_size]; exact hs), (by rw [putsR_defers]; exact hd), ((pm rfl).trans t0), ((pm rfl).trans t1), (pe hs rfl rfl), (pe hs rfl rfl), (pe hs rfl rfl), (pe hs rfl rfl), (pe hs rfl rfl), (pe hs rfl rfl), (pe hs rfl rfl), (pe hs rfl rfl), (pe hs rfl rfl), (pe hs rfl rfl), (pe hs rfl rfl), (pe hs rfl rfl), (pe hs rfl rfl), (pe hs rfl rfl), (pe hs rfl rfl), (pe hs rfl rfl), (pe hs rfl rfl), (pe hs rfl rfl), (pe hs rfl rfl), (pe hs rfl rfl), (pe hs rfl rfl), (pe hs rfl rfl), (pe hs rfl rfl), (pe hs rfl rfl), (pe hs rfl rfl), (pe hs rfl rfl), (pe hs rfl rfl), (pe hs rfl rfl), (pe hs rfl rfl), (pe hs rfl rfl), (pe hs rfl rfl), (pe hs rfl rfl), (pe hs rfl rfl), (pe hs rfl rfl), (pe hs rfl rfl), (pe hs rfl rfl), (pe hs rfl rfl), (pe hs rfl rfl), (pe hs rfl rfl), (pe hs rfl rfl), (pe hs rfl rfl), (pe hs rfl rfl), (pe hs rfl rfl), (pe hs rfl rfl), Nat.zero_le _, hW_1, hW_2, sp_7, gg_3, gg_4, HB_4⟩
  · skip
    clear t0 t1 t2 hd ho_1 hW_1 hW_2 HB_4
    rintro nna_1 a_1 w_6 ⟨K, Mw, Mr, hm_1, hs_1, hd_1, ta_1_0, ta_1_1, ta_1_2, ta_1_7, ta_1_8, ta_1_9, ta_1_10, ta_1_11, ta_1_12, ta_1_13, ta_1_19, ta_1_20, ta_1_21, ta_1_23, ta_1_24, ta_1_25, ta_1_26, ta_1_27, ta_1_28, ta_1_29, ta_1_30, ta_1_31, ta_1_32, ta_1_33, ta_1_34, ta_1_35, ta_1_36, ta_1_37, ta_1_38, ta_1_39, ta_1_40, ta_1_41, ta_1_42, ta_1_43, ta_1_44, ta_1_45, ta_1_46, ta_1_47, ta_1_48, ta_1_49, ta_1_50, ta_1_51, ta_1_52, ta_1_53, ta_1_54, ta_1_55, hK, hLw, hLr, sLwr, gLw, gLr, HBL⟩ K_14 hK_14
    subst hm_1
    refine w2_seq (fun K_15 hK_15 => ?_)
    refine x_region (by kernel_rfl) ?_
    refine op_val (d := 56) (v := .bool (decide (K < ((2 * ev) + 1)))) rfl rfl (o_lss (m := K) (n := ((2 * ev) + 1)) rfl ((pm rfl).trans ta_1_55) ((pm rfl).trans ta_1_54)) ?_
    refine x_nil ?_
    refine hK_15 _ _ ?_
    refine w2_seq (fun K_16 hK_16 => ?_)
    refine w2_split (pe hs_1 rfl rfl) (fun h_1 => ?_) (fun h_1 => ?_)
    · simp only [decide_eq_true_eq, decide_eq_false_iff_not, Bool.not_eq_true', Bool.not_eq_false', Bool.not_true, Bool.not_false, Nat.not_lt, Nat.not_le] at h_1
      have hlt : K < 2 * ev + 1 := h_1
      have hpn : (putsL co (List.replicate K xa)).n = 2 * K := by rw [putsL_n, List.length_replicate]; omega
      have hpc : (putsL co (List.replicate K xa)).cnt = K := by rw [putsL_cnt, List.length_replicate]; omega
      refine w2_skip ?_
      refine hK_16 _ _ ?_
      refine w2_seq (fun K_17 hK_17 => ?_)
      refine w2_block (fun K_18 hK_18 => ?_)
      refine w2_seq (fun K_19 hK_19 => ?_)
      refine x_region (by kernel_rfl) ?_
      refine op_val (d := 57) (v := .int .i64 ((K : Nat) : Int)) rfl rfl (o_move rfl ((pm rfl).trans ta_1_55)) ?_
      refine op_val (d := 14) (v := .int .i64 ((K : Nat) : Int)) rfl rfl (o_assign rfl (pe hs_1 rfl rfl)) ?_
      refine x_nil ?_
      refine hK_19 _ _ ?_
      refine w2_seq (fun K_20 hK_20 => ?_)
      refine x_region (by kernel_rfl) ?_
      refine op_val (d := 59) (v := .pointer (some ⟨g_3, 0, none⟩)) rfl rfl (o_move rfl ((pm rfl).trans ta_1_12)) ?_
      refine op_val (d := 60) (v := .slice A1 (la) (c1)) rfl rfl (o_move rfl ((pm rfl).trans ta_1_1)) ?_
      refine op_call (vs := #[.pointer (some ⟨g_3, 0, none⟩), .slice A1 (la) (c1)]) rfl rfl (exec_call Try.func38 (by kernel_rfl) (by kernel_rfl) _ rfl _ _ (args2 (pe hs_1 rfl rfl) (pe hs_1 rfl rfl))) (Put_any _ hLw (h1.below HBL) hla (by omega) (by omega) (by omega)) (fun e_6 w_7 hR_6 => ?_)
      obtain ⟨A_2, c_2, rfl, ho_2, ⟨M_5, hW_3, hN_3, hs_2⟩, hX_1⟩ := hR_6
      have hl_1 : (recL (putsL co (List.replicate K xa)) xa).length = sizeN la + 34 := by rw [recL_length _ (by have h9 : (xa).length = la := hla; omega)]; rw [show (xa).length = la from hla]
      have sp_8 : Sep Mr M_5 := hN_3.sep (sLwr.symm) hLr.lt
      have sp_9 : Sep (blkA A_2) Mr := (Sep.new hLr.lt ho_2.ge').symm
      replace hLr := hLr.keepM hX_1 (sLwr.symm)
      have gg_5 := hN_3.ge gLw HBL.size
      replace ho_2 := ho_2.mono HBL.size
      have HB_5 := hX_1.below HBL HBL.size gLw
      refine ⟨_, rfl, ?_⟩
      refine op_val (d := 58) (v := .tuple #[.slice A_2 (sizeN la + 34) (c_2), .int .i64 ((0 : Nat) : Int)]) rfl rfl (o_move rfl (pe hs_1 rfl rfl)) ?_
      refine op_val (d := 62) (v := .slice A_2 (sizeN la + 34) (c_2)) rfl rfl (o_extract rfl (pe hs_1 rfl rfl) rfl) ?_
      refine op_val (d := 63) (v := .int .i64 ((0 : Nat) : Int)) rfl rfl (o_extract rfl (pe hs_1 rfl rfl) rfl) ?_
      refine op_val (d := 15) (v := .slice A_2 (sizeN la + 34) (c_2)) rfl rfl (o_assign rfl (pe hs_1 rfl rfl)) ?_
      refine op_val (d := 16) (v := .int .i64 ((0 : Nat) : Int)) rfl rfl (o_assign rfl (pe hs_1 rfl rfl)) ?_
      refine x_nil ?_
      refine hK_20 _ _ ?_
      refine w2_seq (fun K_21 hK_21 => ?_)
      refine x_region (by kernel_rfl) ?_
      refine op_val (d := 65) (v := .pointer (some ⟨g_4, 0, none⟩)) rfl rfl (o_move rfl ((pm rfl).trans ta_1_13)) ?_
      refine op_val (d := 66) (v := .slice A_2 (sizeN la + 34) (c_2)) rfl rfl (o_move rfl (pe hs_1 rfl rfl)) ?_
      refine op_call (vs := #[.pointer (some ⟨g_4, 0, none⟩), .slice A_2 (sizeN la + 34) (c_2)]) rfl rfl (exec_call Try.func41 (by kernel_rfl) (by kernel_rfl) _ rfl _ _ (args2 (pe hs_1 rfl rfl) (pe hs_1 rfl rfl))) (Feed_any _ hLr rfl (ho_2).bs hl_1 (feed_one _ (by omega)) (by show (putsL co (List.replicate K xa)).n + (0 + (sizeN la + 34)) < _; omega) (by show (putsL co (List.replicate K xa)).cnt + (0 + (sizeN la + 34)) < _; omega) (by show (0 + (sizeN la + 34)) ≤ _; omega)) (fun e_7 w_8 hR_7 => ?_)
      obtain ⟨ps_1, A_3, c_3, rfl, hm_2, hRw_1, hAO_1, ⟨M_6, hR_8, hN_4, hs_3, hs_4⟩, hX_2⟩ := hR_7
      obtain ⟨p_1, rfl, hp_1⟩ := map_one hm_2
      have sp_10 : Sep M_5 M_6 := hN_4.sep (sp_8.symm) hW_3.lt
      have sp_11 : Sep (blkA A_3) M_5 := (Sep.new hW_3.lt hRw_1.ge').symm
      have sp_12 : Sep (blkP ([p_1])) M_5 := (Sep.new hW_3.lt hAO_1.ge').symm
      have sp_13 : Sep (blkA A_2) M_6 := hN_4.sep (sp_9) ho_2.lt
      have sp_14 : Sep (blkA A_3) (blkA A_2) := (Sep.new ho_2.lt hRw_1.ge').symm
      have sp_15 : Sep (blkP ([p_1])) (blkA A_2) := (Sep.new ho_2.lt hAO_1.ge').symm
      replace hW_3 := hW_3.keepM hX_2 (sp_8.symm)
      replace ho_2 := ho_2.keepM hX_2 (sp_9)
      have gg_6 := hN_4.ge gLr HB_5.size
      replace hRw_1 := hRw_1.mono HB_5.size
      replace hAO_1 := hAO_1.mono HB_5.size
      have HB_6 := hX_2.below HB_5 HB_5.size gLr
      obtain ⟨g_5, cur_1, rfl, hB_1, hcu_1⟩ := hRw_1.at (i := 0) (by simp)
      have hOp_1 := hAO_1 p_1 (by simp)
      refine ⟨_, rfl, ?_⟩
      refine op_val (d := 64) (v := .tuple #[.slice ((some ⟨g_5, 0, none⟩)) (1) (c_3), .int .i64 ((0 : Nat) : Int)]) rfl rfl (o_move rfl (pe hs_1 rfl rfl)) ?_
      refine op_val (d := 68) (v := .slice ((some ⟨g_5, 0, none⟩)) (1) (c_3)) rfl rfl (o_extract rfl (pe hs_1 rfl rfl) rfl) ?_
      refine op_val (d := 69) (v := .int .i64 ((0 : Nat) : Int)) rfl rfl (o_extract rfl (pe hs_1 rfl rfl) rfl) ?_
      refine op_val (d := 17) (v := .slice ((some ⟨g_5, 0, none⟩)) (1) (c_3)) rfl rfl (o_assign rfl (pe hs_1 rfl rfl)) ?_
      refine op_val (d := 18) (v := .int .i64 ((0 : Nat) : Int)) rfl rfl (o_assign rfl (pe hs_1 rfl rfl)) ?_
      refine x_nil ?_
      refine hK_21 _ _ ?_
      refine w2_seq (fun K_22 hK_22 => ?_)
      have hcw : (putsL co (List.replicate K xa)).put.cnt = K + 1 := by rw [put_cnt]; omega
      have hcr : (Rd.at0 (putsL co (List.replicate K xa)).put []).co.cnt = K + 1 := hcw
      refine x_drawn 32 [fun _ v => v = .int .i64 ((0 : Nat) : Int), fun _ v => v = .bool (false), fun _ v => v = .bool (false), fun _ v => v = .int .i64 ((0 : Nat) : Int), fun _ v => v = .bool (false), fun _ v => v = .bool (false), fun _ v => v = .bool (false), fun _ v => v = .slice ((some ⟨g_5, 0, none⟩)) (1) (c_3), fun _ v => v = .int .i64 ((1 : Nat) : Int), fun _ v => v = .bool (false), fun _ v => v = .bool (false), fun _ v => v = .bool (false), fun _ v => v = .slice ((some ⟨g_5, 0, none⟩)) (1) (c_3), fun _ v => v = .pointer (some ⟨g_5, 0, none⟩), fun _ v => v = .slice p_1.A (p_1.xs.length) (p_1.c), fun _ v => v = .string (strB p_1.xs), fun _ v => v = .slice A1 (la) (c1), fun _ v => v = .string (strB xa), fun _ v => v = .bool (false), fun _ v => v = .bool (false), fun _ v => v = .bool (false), fun _ v => v = .pointer (some ⟨g_4, 0, none⟩), fun ww vv => vv = .int .i64 (((Rd.at0 (putsL co (List.replicate K xa)).put []).co.cnt : Nat) : Int), fun _ v => v = .int .i64 ((K : Nat) : Int), fun _ v => v = .int .i64 ((K + 1 : Nat) : Int), fun _ v => v = .bool (false), fun _ v => v = .bool (false), fun _ v => v = .bool (false), fun _ v => v = .pointer (some ⟨g_3, 0, none⟩), fun ww vv => vv = .int .i64 ((((putsL co (List.replicate K xa)).put).cnt : Nat) : Int), fun _ v => v = .int .i64 ((K : Nat) : Int), fun _ v => v = .int .i64 ((K + 1 : Nat) : Int)] [70, 71, 72, 73, 74, 75, 76, 77, 78, 79, 80, 81, 82, 83, 84, 85, 86, 87, 88, 89, 90, 91, 92, 93, 94, 95, 96, 97, 98, 99, 100, 101] hs_1 hd_1 (by kernel_rfl) (by kernel_rfl) (by kernel_rfl) (by kernel_rfl) (by kernel_rfl) ⟨stLit, stLit, stLit, stLit, stLit, stLit, stLit, stLit, stLit, stLit, stLit, stLit, stLit, stLit, stLit, stLit, stLit, stLit, stLit, stLit, stLit, stLit, stLit, stLit, stLit, stLit, stLit, stLit, stLit, stLit, stLit, stLit, trivial⟩ ⟨(step_ok rfl (fun a' w' hb' hO hD => by
          have d_1 : a'.eval (.tmp 16) = .int .i64 ((0 : Nat) : Int) := (hO 16 (by decide)).trans (pe hs_1 rfl rfl)
          exact .inl ⟨_, _, (o_move rfl d_1), rfl, Below.refl _ _⟩)),
(step_ok rfl (fun a' w' hb' hO hD => by
          have d_2 : a'.eval (.tmp 70) = .int .i64 ((0 : Nat) : Int) := hD 0 70 (by kernel_rfl) rfl
          exact .inl ⟨_, _, (o_eq (o_neq (m := 0) (n := 0) rfl d_2 rfl) rfl), rfl, Below.refl _ _⟩)),
(step_ok rfl (fun a' w' hb' hO hD => by
          have d_3 : a'.eval (.tmp 71) = .bool (false) := hD 1 71 (by kernel_rfl) rfl
          exact .inl ⟨_, _, (o_move rfl d_3), rfl, Below.refl _ _⟩)),
(step_yes 2 false 72 rfl rfl (by kernel_rfl) (fun _ _ h => h) (fun a' w' hb' hO hD => by
          have d_4 : a'.eval (.tmp 18) = .int .i64 ((0 : Nat) : Int) := (hO 18 (by decide)).trans (pe hs_1 rfl rfl)
          exact .inl ⟨_, _, (o_move rfl d_4), rfl, Below.refl _ _⟩)),
(step_yes 2 false 72 rfl rfl (by kernel_rfl) (fun _ _ h => h) (fun a' w' hb' hO hD => by
          have d_5 : a'.eval (.tmp 73) = .int .i64 ((0 : Nat) : Int) := hD 3 73 (by kernel_rfl) rfl
          exact .inl ⟨_, _, (o_eq (o_neq (m := 0) (n := 0) rfl d_5 rfl) rfl), rfl, Below.refl _ _⟩)),
(step_ok rfl (fun a' w' hb' hO hD => by
          have d_6 : a'.eval (.tmp 72) = .bool (false) := hD 2 72 (by kernel_rfl) rfl
          have d_7 : a'.eval (.tmp 74) = .bool (false) := hD 4 74 (by kernel_rfl) rfl
          exact .inl ⟨_, _, (o_pickF rfl d_6 d_7), rfl, Below.refl _ _⟩)),
(step_ok rfl (fun a' w' hb' hO hD => by
          have d_8 : a'.eval (.tmp 75) = .bool (false) := hD 5 75 (by kernel_rfl) rfl
          exact .inl ⟨_, _, (o_move rfl d_8), rfl, Below.refl _ _⟩)),
(step_yes 6 false 76 rfl rfl (by kernel_rfl) (fun _ _ h => h) (fun a' w' hb' hO hD => by
          have d_9 : a'.eval (.tmp 17) = .slice ((some ⟨g_5, 0, none⟩)) (1) (c_3) := (hO 17 (by decide)).trans (pe hs_1 rfl rfl)
          exact .inl ⟨_, _, (o_move rfl d_9), rfl, Below.refl _ _⟩)),
(step_yes 6 false 76 rfl rfl (by kernel_rfl) (fun _ _ h => h) (fun a' w' hb' hO hD => by
          have d_10 : a'.eval (.tmp 77) = .slice ((some ⟨g_5, 0, none⟩)) (1) (c_3) := hD 7 77 (by kernel_rfl) rfl
          exact .inl ⟨_, _, (o_lenS rfl d_10), rfl, Below.refl _ _⟩)),
(step_yes 6 false 76 rfl rfl (by kernel_rfl) (fun _ _ h => h) (fun a' w' hb' hO hD => by
          have d_11 : a'.eval (.tmp 78) = .int .i64 ((1 : Nat) : Int) := hD 8 78 (by kernel_rfl) rfl
          exact .inl ⟨_, _, (o_eq (o_neq (m := 1) (n := 1) rfl d_11 rfl) rfl), rfl, Below.refl _ _⟩)),
(step_ok rfl (fun a' w' hb' hO hD => by
          have d_12 : a'.eval (.tmp 76) = .bool (false) := hD 6 76 (by kernel_rfl) rfl
          have d_13 : a'.eval (.tmp 79) = .bool (false) := hD 9 79 (by kernel_rfl) rfl
          exact .inl ⟨_, _, (o_pickF rfl d_12 d_13), rfl, Below.refl _ _⟩)),
(step_ok rfl (fun a' w' hb' hO hD => by
          have d_14 : a'.eval (.tmp 80) = .bool (false) := hD 10 80 (by kernel_rfl) rfl
          exact .inl ⟨_, _, (o_move rfl d_14), rfl, Below.refl _ _⟩)),
(step_yes 11 false 81 rfl rfl (by kernel_rfl) (fun _ _ h => h) (fun a' w' hb' hO hD => by
          have d_15 : a'.eval (.tmp 17) = .slice ((some ⟨g_5, 0, none⟩)) (1) (c_3) := (hO 17 (by decide)).trans (pe hs_1 rfl rfl)
          exact .inl ⟨_, _, (o_move rfl d_15), rfl, Below.refl _ _⟩)),
(step_yes 11 false 81 rfl rfl (by kernel_rfl) (fun _ _ h => h) (fun a' w' hb' hO hD => by
          have d_16 : a'.eval (.tmp 82) = .slice ((some ⟨g_5, 0, none⟩)) (1) (c_3) := hD 12 82 (by kernel_rfl) rfl
          exact .inl ⟨_, _, (zero_off (o_ixS (off := 0) (i := 0) rfl d_16 rfl (by omega))), rfl, Below.refl _ _⟩)),
(step_yes 11 false 81 rfl rfl (by kernel_rfl) (fun _ _ h => h) (fun a' w' hb' hO hD => by
          have d_17 : a'.eval (.tmp 83) = .pointer (some ⟨g_5, 0, none⟩) := hD 13 83 (by kernel_rfl) rfl
          exact .inl ⟨_, _, (o_load1 rfl d_17 (hB_1.nx hb') hcu_1 ⟨by kernel_rfl, by kernel_rfl⟩), rfl, Below.refl _ _⟩)),
(step_yes 11 false 81 rfl rfl (by kernel_rfl) (fun _ _ h => h) (fun a' w' hb' hO hD => by
          have d_18 : a'.eval (.tmp 84) = .slice p_1.A (p_1.xs.length) (p_1.c) := hD 14 84 (by kernel_rfl) rfl
          exact .inl ⟨_, _, (o_str rfl d_18 ((hOp_1.nx hb')).bs rfl), rfl, Below.refl _ _⟩)),
(step_yes 11 false 81 rfl rfl (by kernel_rfl) (fun _ _ h => h) (fun a' w' hb' hO hD => by
          have d_19 : a'.eval (.tmp 1) = .slice A1 (la) (c1) := (hO 1 (by decide)).trans ((pm rfl).trans ta_1_1)
          exact .inl ⟨_, _, (o_move rfl d_19), rfl, Below.refl _ _⟩)),
(step_yes 11 false 81 rfl rfl (by kernel_rfl) (fun _ _ h => h) (fun a' w' hb' hO hD => by
          have d_20 : a'.eval (.tmp 86) = .slice A1 (la) (c1) := hD 16 86 (by kernel_rfl) rfl
          exact .inl ⟨_, _, (o_str rfl d_20 (h1.below (below_from HB_6 hb')) hla), rfl, Below.refl _ _⟩)),
(step_yes 11 false 81 rfl rfl (by kernel_rfl) (fun _ _ h => h) (fun a' w' hb' hO hD => by
          have d_21 : a'.eval (.tmp 85) = .string (strB p_1.xs) := hD 15 85 (by kernel_rfl) rfl
          have d_22 : a'.eval (.tmp 87) = .string (strB xa) := hD 17 87 (by kernel_rfl) rfl
          exact .inl ⟨_, _, (o_neS rfl d_21 d_22 (by rw [hp_1])), rfl, Below.refl _ _⟩)),
(step_ok rfl (fun a' w' hb' hO hD => by
          have d_23 : a'.eval (.tmp 81) = .bool (false) := hD 11 81 (by kernel_rfl) rfl
          have d_24 : a'.eval (.tmp 88) = .bool (false) := hD 18 88 (by kernel_rfl) rfl
          exact .inl ⟨_, _, (o_pickF rfl d_23 d_24), rfl, Below.refl _ _⟩)),
(step_ok rfl (fun a' w' hb' hO hD => by
          have d_25 : a'.eval (.tmp 89) = .bool (false) := hD 19 89 (by kernel_rfl) rfl
          exact .inl ⟨_, _, (o_move rfl d_25), rfl, Below.refl _ _⟩)),
(step_yes 20 false 90 rfl rfl (by kernel_rfl) (fun _ _ h => h) (fun a' w' hb' hO hD => by
          have d_26 : a'.eval (.tmp 13) = .pointer (some ⟨g_4, 0, none⟩) := (hO 13 (by decide)).trans ((pm rfl).trans ta_1_13)
          exact .inl ⟨_, _, (o_move rfl d_26), rfl, Below.refl _ _⟩)),
(step_yes 20 false 90 rfl rfl (by kernel_rfl) (fun _ _ h => h) (fun a' w' hb' hO hD => by
          have d_27 : a'.eval (.tmp 91) = .pointer (some ⟨g_4, 0, none⟩) := hD 21 91 (by kernel_rfl) rfl
          exact .inr ⟨_, #[.pointer (some ⟨g_4, 0, none⟩)], (exec_call Try.func46 (by kernel_rfl) (by kernel_rfl) _ rfl _ _ (args1 d_27)), Calls.mono (RCount_any _ (hR_8.nx hb')) (fun e w'' hR => by obtain ⟨rfl, rfl⟩ := hR; exact ⟨_, rfl, rfl, (Below.refl _ _)⟩)⟩)),
(step_yes 20 false 90 rfl rfl (by kernel_rfl) (fun _ _ h => h) (fun a' w' hb' hO hD => by
          have d_28 : a'.eval (.tmp 14) = .int .i64 ((K : Nat) : Int) := (hO 14 (by decide)).trans (pe hs_1 rfl rfl)
          exact .inl ⟨_, _, (o_move rfl d_28), rfl, Below.refl _ _⟩)),
(step_yes 20 false 90 rfl rfl (by kernel_rfl) (fun _ _ h => h) (fun a' w' hb' hO hD => by
          have d_29 : a'.eval (.tmp 93) = .int .i64 ((K : Nat) : Int) := hD 23 93 (by kernel_rfl) rfl
          exact .inl ⟨_, _, (o_add64 (m := K) (n := 1) rfl d_29 rfl (by omega)), rfl, Below.refl _ _⟩)),
(step_yes 20 false 90 rfl rfl (by kernel_rfl) (fun _ _ h => h) (fun a' w' hb' hO hD => by
          have d_30 : a'.eval (.tmp 92) = .int .i64 (((Rd.at0 (putsL co (List.replicate K xa)).put []).co.cnt : Nat) : Int) := hD 22 92 (by kernel_rfl) rfl
          have d_31 : a'.eval (.tmp 94) = .int .i64 ((K + 1 : Nat) : Int) := hD 24 94 (by kernel_rfl) rfl
          have e0 : (.bool (!decide (((Rd.at0 (putsL co (List.replicate K xa)).put []).co.cnt) = (K + 1))) : Value) = .bool (false) := (by rw [decide_eq_true hcr]; rfl)
          exact .inl ⟨_, _, (o_neq (m := ((Rd.at0 (putsL co (List.replicate K xa)).put []).co.cnt)) (n := (K + 1)) rfl d_30 d_31), e0, Below.refl _ _⟩)),
(step_ok rfl (fun a' w' hb' hO hD => by
          have d_32 : a'.eval (.tmp 90) = .bool (false) := hD 20 90 (by kernel_rfl) rfl
          have d_33 : a'.eval (.tmp 95) = .bool (false) := hD 25 95 (by kernel_rfl) rfl
          exact .inl ⟨_, _, (o_pickF rfl d_32 d_33), rfl, Below.refl _ _⟩)),
(step_ok rfl (fun a' w' hb' hO hD => by
          have d_34 : a'.eval (.tmp 96) = .bool (false) := hD 26 96 (by kernel_rfl) rfl
          exact .inl ⟨_, _, (o_move rfl d_34), rfl, Below.refl _ _⟩)),
(step_yes 27 false 97 rfl rfl (by kernel_rfl) (fun _ _ h => h) (fun a' w' hb' hO hD => by
          have d_35 : a'.eval (.tmp 12) = .pointer (some ⟨g_3, 0, none⟩) := (hO 12 (by decide)).trans ((pm rfl).trans ta_1_12)
          exact .inl ⟨_, _, (o_move rfl d_35), rfl, Below.refl _ _⟩)),
(step_yes 27 false 97 rfl rfl (by kernel_rfl) (fun _ _ h => h) (fun a' w' hb' hO hD => by
          have d_36 : a'.eval (.tmp 98) = .pointer (some ⟨g_3, 0, none⟩) := hD 28 98 (by kernel_rfl) rfl
          exact .inr ⟨_, #[.pointer (some ⟨g_3, 0, none⟩)], (exec_call Try.func39 (by kernel_rfl) (by kernel_rfl) _ rfl _ _ (args1 d_36)), Calls.mono (WCount_any _ (hW_3.nx hb')) (fun e w'' hR => by obtain ⟨rfl, rfl⟩ := hR; exact ⟨_, rfl, rfl, (Below.refl _ _)⟩)⟩)),
(step_yes 27 false 97 rfl rfl (by kernel_rfl) (fun _ _ h => h) (fun a' w' hb' hO hD => by
          have d_37 : a'.eval (.tmp 14) = .int .i64 ((K : Nat) : Int) := (hO 14 (by decide)).trans (pe hs_1 rfl rfl)
          exact .inl ⟨_, _, (o_move rfl d_37), rfl, Below.refl _ _⟩)),
(step_yes 27 false 97 rfl rfl (by kernel_rfl) (fun _ _ h => h) (fun a' w' hb' hO hD => by
          have d_38 : a'.eval (.tmp 100) = .int .i64 ((K : Nat) : Int) := hD 30 100 (by kernel_rfl) rfl
          exact .inl ⟨_, _, (o_add64 (m := K) (n := 1) rfl d_38 rfl (by omega)), rfl, Below.refl _ _⟩)), trivial⟩ (fun a_2 w_9 hs_5 hd_2 hb_8 hO_1 hV_1 => ?_)
      have ta_2_0 : a_2.eval (.tmp 0) = .slice A0 (m) (c0) := (hO_1 0 (by decide)).trans ((pm rfl).trans ta_1_0)
      have ta_2_1 : a_2.eval (.tmp 1) = .slice A1 (la) (c1) := (hO_1 1 (by decide)).trans ((pm rfl).trans ta_1_1)
      have ta_2_2 : a_2.eval (.tmp 2) = .int .i64 ((ev : Nat) : Int) := (hO_1 2 (by decide)).trans ((pm rfl).trans ta_1_2)
      have ta_2_19 : a_2.eval (.tmp 19) = .slice A1 (la) (c1) := (hO_1 19 (by decide)).trans ((pm rfl).trans ta_1_19)
      have ta_2_20 : a_2.eval (.tmp 20) = .int .i64 ((la : Nat) : Int) := (hO_1 20 (by decide)).trans ((pm rfl).trans ta_1_20)
      have ta_2_21 : a_2.eval (.tmp 21) = .bool (false) := (hO_1 21 (by decide)).trans ((pm rfl).trans ta_1_21)
      have ta_2_23 : a_2.eval (.tmp 23) = .int .i64 (z) := (hO_1 23 (by decide)).trans ((pm rfl).trans ta_1_23)
      have ta_2_24 : a_2.eval (.tmp 24) = .int .u64 ((at64 z : Nat) : Int) := (hO_1 24 (by decide)).trans ((pm rfl).trans ta_1_24)
      have ta_2_25 : a_2.eval (.tmp 25) = .int .u64 (((at64 z) % 4 : Nat) : Int) := (hO_1 25 (by decide)).trans ((pm rfl).trans ta_1_25)
      have ta_2_26 : a_2.eval (.tmp 26) = .int .i64 (((at64 z) % 4 : Nat) : Int) := (hO_1 26 (by decide)).trans ((pm rfl).trans ta_1_26)
      have ta_2_27 : a_2.eval (.tmp 27) = .int .i64 ((1 + ((at64 z) % 4) : Nat) : Int) := (hO_1 27 (by decide)).trans ((pm rfl).trans ta_1_27)
      have ta_2_28 : a_2.eval (.tmp 28) = .slice A0 (m) (c0) := (hO_1 28 (by decide)).trans ((pm rfl).trans ta_1_28)
      have ta_2_29 : a_2.eval (.tmp 29) = .slice A_1 (32) (c_1) := (hO_1 29 (by decide)).trans ((pm rfl).trans ta_1_29)
      have ta_2_7 : a_2.eval (.tmp 7) = .slice A_1 (32) (c_1) := (hO_1 7 (by decide)).trans ((pm rfl).trans ta_1_7)
      have ta_2_31 : a_2.eval (.tmp 31) = .slice A_1 (32) (c_1) := (hO_1 31 (by decide)).trans ((pm rfl).trans ta_1_31)
      have ta_2_32 : a_2.eval (.tmp 32) = .tuple #[.pointer (some ⟨g_1, 0, none⟩), .int .i64 ((0 : Nat) : Int)] := (hO_1 32 (by decide)).trans ((pm rfl).trans ta_1_32)
      have ta_2_30 : a_2.eval (.tmp 30) = .tuple #[.pointer (some ⟨g_1, 0, none⟩), .int .i64 ((0 : Nat) : Int)] := (hO_1 30 (by decide)).trans ((pm rfl).trans ta_1_30)
      have ta_2_33 : a_2.eval (.tmp 33) = .pointer (some ⟨g_1, 0, none⟩) := (hO_1 33 (by decide)).trans ((pm rfl).trans ta_1_33)
      have ta_2_34 : a_2.eval (.tmp 34) = .int .i64 ((0 : Nat) : Int) := (hO_1 34 (by decide)).trans ((pm rfl).trans ta_1_34)
      have ta_2_8 : a_2.eval (.tmp 8) = .pointer (some ⟨g_1, 0, none⟩) := (hO_1 8 (by decide)).trans ((pm rfl).trans ta_1_8)
      have ta_2_9 : a_2.eval (.tmp 9) = .int .i64 ((0 : Nat) : Int) := (hO_1 9 (by decide)).trans ((pm rfl).trans ta_1_9)
      have ta_2_36 : a_2.eval (.tmp 36) = .slice A_1 (32) (c_1) := (hO_1 36 (by decide)).trans ((pm rfl).trans ta_1_36)
      have ta_2_37 : a_2.eval (.tmp 37) = .tuple #[.pointer (some ⟨g_2, 0, none⟩), .int .i64 ((0 : Nat) : Int)] := (hO_1 37 (by decide)).trans ((pm rfl).trans ta_1_37)
      have ta_2_35 : a_2.eval (.tmp 35) = .tuple #[.pointer (some ⟨g_2, 0, none⟩), .int .i64 ((0 : Nat) : Int)] := (hO_1 35 (by decide)).trans ((pm rfl).trans ta_1_35)
      have ta_2_38 : a_2.eval (.tmp 38) = .pointer (some ⟨g_2, 0, none⟩) := (hO_1 38 (by decide)).trans ((pm rfl).trans ta_1_38)
      have ta_2_39 : a_2.eval (.tmp 39) = .int .i64 ((0 : Nat) : Int) := (hO_1 39 (by decide)).trans ((pm rfl).trans ta_1_39)
      have ta_2_10 : a_2.eval (.tmp 10) = .pointer (some ⟨g_2, 0, none⟩) := (hO_1 10 (by decide)).trans ((pm rfl).trans ta_1_10)
      have ta_2_11 : a_2.eval (.tmp 11) = .int .i64 ((0 : Nat) : Int) := (hO_1 11 (by decide)).trans ((pm rfl).trans ta_1_11)
      have ta_2_40 : a_2.eval (.tmp 40) = .int .i64 ((0 : Nat) : Int) := (hO_1 40 (by decide)).trans ((pm rfl).trans ta_1_40)
      have ta_2_41 : a_2.eval (.tmp 41) = .bool (false) := (hO_1 41 (by decide)).trans ((pm rfl).trans ta_1_41)
      have ta_2_42 : a_2.eval (.tmp 42) = .bool (false) := (hO_1 42 (by decide)).trans ((pm rfl).trans ta_1_42)
      have ta_2_43 : a_2.eval (.tmp 43) = .int .i64 ((0 : Nat) : Int) := (hO_1 43 (by decide)).trans ((pm rfl).trans ta_1_43)
      have ta_2_44 : a_2.eval (.tmp 44) = .bool (false) := (hO_1 44 (by decide)).trans ((pm rfl).trans ta_1_44)
      have ta_2_45 : a_2.eval (.tmp 45) = .bool (false) := (hO_1 45 (by decide)).trans ((pm rfl).trans ta_1_45)
      have ta_2_46 : a_2.eval (.tmp 46) = .pointer (some ⟨g_1, 0, none⟩) := (hO_1 46 (by decide)).trans ((pm rfl).trans ta_1_46)
      have ta_2_47 : a_2.eval (.tmp 47) = .int .i64 ((ev : Nat) : Int) := (hO_1 47 (by decide)).trans ((pm rfl).trans ta_1_47)
      have ta_2_48 : a_2.eval (.tmp 48) = .pointer (some ⟨g_3, 0, none⟩) := (hO_1 48 (by decide)).trans ((pm rfl).trans ta_1_48)
      have ta_2_49 : a_2.eval (.tmp 49) = .pointer (some ⟨g_2, 0, none⟩) := (hO_1 49 (by decide)).trans ((pm rfl).trans ta_1_49)
      have ta_2_50 : a_2.eval (.tmp 50) = .int .i64 ((ev : Nat) : Int) := (hO_1 50 (by decide)).trans ((pm rfl).trans ta_1_50)
      have ta_2_51 : a_2.eval (.tmp 51) = .pointer (some ⟨g_4, 0, none⟩) := (hO_1 51 (by decide)).trans ((pm rfl).trans ta_1_51)
      have ta_2_12 : a_2.eval (.tmp 12) = .pointer (some ⟨g_3, 0, none⟩) := (hO_1 12 (by decide)).trans ((pm rfl).trans ta_1_12)
      have ta_2_13 : a_2.eval (.tmp 13) = .pointer (some ⟨g_4, 0, none⟩) := (hO_1 13 (by decide)).trans ((pm rfl).trans ta_1_13)
      have ta_2_52 : a_2.eval (.tmp 52) = .int .i64 ((ev : Nat) : Int) := (hO_1 52 (by decide)).trans ((pm rfl).trans ta_1_52)
      have ta_2_53 : a_2.eval (.tmp 53) = .int .i64 ((2 * ev : Nat) : Int) := (hO_1 53 (by decide)).trans ((pm rfl).trans ta_1_53)
      have ta_2_54 : a_2.eval (.tmp 54) = .int .i64 (((2 * ev) + 1 : Nat) : Int) := (hO_1 54 (by decide)).trans ((pm rfl).trans ta_1_54)
      have ta_2_55 : a_2.eval (.tmp 55) = .int .i64 ((K : Nat) : Int) := (hO_1 55 (by decide)).trans ((pm rfl).trans ta_1_55)
      have ta_2_56 : a_2.eval (.tmp 56) = .bool (decide (K < ((2 * ev) + 1))) := (hO_1 56 (by decide)).trans (pe hs_1 rfl rfl)
      have ta_2_57 : a_2.eval (.tmp 57) = .int .i64 ((K : Nat) : Int) := (hO_1 57 (by decide)).trans (pe hs_1 rfl rfl)
      have ta_2_14 : a_2.eval (.tmp 14) = .int .i64 ((K : Nat) : Int) := (hO_1 14 (by decide)).trans (pe hs_1 rfl rfl)
      have ta_2_59 : a_2.eval (.tmp 59) = .pointer (some ⟨g_3, 0, none⟩) := (hO_1 59 (by decide)).trans (pe hs_1 rfl rfl)
      have ta_2_60 : a_2.eval (.tmp 60) = .slice A1 (la) (c1) := (hO_1 60 (by decide)).trans (pe hs_1 rfl rfl)
      have ta_2_61 : a_2.eval (.tmp 61) = .tuple #[.slice A_2 (sizeN la + 34) (c_2), .int .i64 ((0 : Nat) : Int)] := (hO_1 61 (by decide)).trans (pe hs_1 rfl rfl)
      have ta_2_58 : a_2.eval (.tmp 58) = .tuple #[.slice A_2 (sizeN la + 34) (c_2), .int .i64 ((0 : Nat) : Int)] := (hO_1 58 (by decide)).trans (pe hs_1 rfl rfl)
      have ta_2_62 : a_2.eval (.tmp 62) = .slice A_2 (sizeN la + 34) (c_2) := (hO_1 62 (by decide)).trans (pe hs_1 rfl rfl)
      have ta_2_63 : a_2.eval (.tmp 63) = .int .i64 ((0 : Nat) : Int) := (hO_1 63 (by decide)).trans (pe hs_1 rfl rfl)
      have ta_2_15 : a_2.eval (.tmp 15) = .slice A_2 (sizeN la + 34) (c_2) := (hO_1 15 (by decide)).trans (pe hs_1 rfl rfl)
      have ta_2_16 : a_2.eval (.tmp 16) = .int .i64 ((0 : Nat) : Int) := (hO_1 16 (by decide)).trans (pe hs_1 rfl rfl)
      have ta_2_65 : a_2.eval (.tmp 65) = .pointer (some ⟨g_4, 0, none⟩) := (hO_1 65 (by decide)).trans (pe hs_1 rfl rfl)
      have ta_2_66 : a_2.eval (.tmp 66) = .slice A_2 (sizeN la + 34) (c_2) := (hO_1 66 (by decide)).trans (pe hs_1 rfl rfl)
      have ta_2_67 : a_2.eval (.tmp 67) = .tuple #[.slice ((some ⟨g_5, 0, none⟩)) (1) (c_3), .int .i64 ((0 : Nat) : Int)] := (hO_1 67 (by decide)).trans (pe hs_1 rfl rfl)
      have ta_2_64 : a_2.eval (.tmp 64) = .tuple #[.slice ((some ⟨g_5, 0, none⟩)) (1) (c_3), .int .i64 ((0 : Nat) : Int)] := (hO_1 64 (by decide)).trans (pe hs_1 rfl rfl)
      have ta_2_68 : a_2.eval (.tmp 68) = .slice ((some ⟨g_5, 0, none⟩)) (1) (c_3) := (hO_1 68 (by decide)).trans (pe hs_1 rfl rfl)
      have ta_2_69 : a_2.eval (.tmp 69) = .int .i64 ((0 : Nat) : Int) := (hO_1 69 (by decide)).trans (pe hs_1 rfl rfl)
      have ta_2_17 : a_2.eval (.tmp 17) = .slice ((some ⟨g_5, 0, none⟩)) (1) (c_3) := (hO_1 17 (by decide)).trans (pe hs_1 rfl rfl)
      have ta_2_18 : a_2.eval (.tmp 18) = .int .i64 ((0 : Nat) : Int) := (hO_1 18 (by decide)).trans (pe hs_1 rfl rfl)
      clear ta_1_0 ta_1_1 ta_1_2 ta_1_19 ta_1_20 ta_1_21 ta_1_23 ta_1_24 ta_1_25 ta_1_26 ta_1_27 ta_1_28 ta_1_29 ta_1_7 ta_1_31 ta_1_32 ta_1_30 ta_1_33 ta_1_34 ta_1_8 ta_1_9 ta_1_36 ta_1_37 ta_1_35 ta_1_38 ta_1_39 ta_1_10 ta_1_11 ta_1_40 ta_1_41 ta_1_42 ta_1_43 ta_1_44 ta_1_45 ta_1_46 ta_1_47 ta_1_48 ta_1_49 ta_1_50 ta_1_51 ta_1_12 ta_1_13 ta_1_52 ta_1_53 ta_1_54 ta_1_55 hd_1
      replace hW_3 := hW_3.nx hb_8
      replace ho_2 := ho_2.nx hb_8
      replace hR_8 := hR_8.nx hb_8
      replace hRw_1 := hRw_1.nx hb_8
      replace hAO_1 := hAO_1.nx hb_8
      replace hB_1 := hB_1.nx hb_8
      replace hOp_1 := hOp_1.nx hb_8
      have HB_7 := below_from HB_6 hb_8
      have ta_2_70 : a_2.eval (.tmp 70) = .int .i64 ((0 : Nat) : Int) := hV_1 0 70 rfl rfl
      have ta_2_71 : a_2.eval (.tmp 71) = .bool (false) := hV_1 1 71 rfl rfl
      have ta_2_72 : a_2.eval (.tmp 72) = .bool (false) := hV_1 2 72 rfl rfl
      have ta_2_73 : a_2.eval (.tmp 73) = .int .i64 ((0 : Nat) : Int) := hV_1 3 73 rfl rfl
      have ta_2_74 : a_2.eval (.tmp 74) = .bool (false) := hV_1 4 74 rfl rfl
      have ta_2_75 : a_2.eval (.tmp 75) = .bool (false) := hV_1 5 75 rfl rfl
      have ta_2_76 : a_2.eval (.tmp 76) = .bool (false) := hV_1 6 76 rfl rfl
      have ta_2_77 : a_2.eval (.tmp 77) = .slice ((some ⟨g_5, 0, none⟩)) (1) (c_3) := hV_1 7 77 rfl rfl
      have ta_2_78 : a_2.eval (.tmp 78) = .int .i64 ((1 : Nat) : Int) := hV_1 8 78 rfl rfl
      have ta_2_79 : a_2.eval (.tmp 79) = .bool (false) := hV_1 9 79 rfl rfl
      have ta_2_80 : a_2.eval (.tmp 80) = .bool (false) := hV_1 10 80 rfl rfl
      have ta_2_81 : a_2.eval (.tmp 81) = .bool (false) := hV_1 11 81 rfl rfl
      have ta_2_82 : a_2.eval (.tmp 82) = .slice ((some ⟨g_5, 0, none⟩)) (1) (c_3) := hV_1 12 82 rfl rfl
      have ta_2_83 : a_2.eval (.tmp 83) = .pointer (some ⟨g_5, 0, none⟩) := hV_1 13 83 rfl rfl
      have ta_2_84 : a_2.eval (.tmp 84) = .slice p_1.A (p_1.xs.length) (p_1.c) := hV_1 14 84 rfl rfl
      have ta_2_85 : a_2.eval (.tmp 85) = .string (strB p_1.xs) := hV_1 15 85 rfl rfl
      have ta_2_86 : a_2.eval (.tmp 86) = .slice A1 (la) (c1) := hV_1 16 86 rfl rfl
      have ta_2_87 : a_2.eval (.tmp 87) = .string (strB xa) := hV_1 17 87 rfl rfl
      have ta_2_88 : a_2.eval (.tmp 88) = .bool (false) := hV_1 18 88 rfl rfl
      have ta_2_89 : a_2.eval (.tmp 89) = .bool (false) := hV_1 19 89 rfl rfl
      have ta_2_90 : a_2.eval (.tmp 90) = .bool (false) := hV_1 20 90 rfl rfl
      have ta_2_91 : a_2.eval (.tmp 91) = .pointer (some ⟨g_4, 0, none⟩) := hV_1 21 91 rfl rfl
      have ta_2_92 : a_2.eval (.tmp 92) = .int .i64 (((Rd.at0 (putsL co (List.replicate K xa)).put []).co.cnt : Nat) : Int) := hV_1 22 92 rfl rfl
      have ta_2_93 : a_2.eval (.tmp 93) = .int .i64 ((K : Nat) : Int) := hV_1 23 93 rfl rfl
      have ta_2_94 : a_2.eval (.tmp 94) = .int .i64 ((K + 1 : Nat) : Int) := hV_1 24 94 rfl rfl
      have ta_2_95 : a_2.eval (.tmp 95) = .bool (false) := hV_1 25 95 rfl rfl
      have ta_2_96 : a_2.eval (.tmp 96) = .bool (false) := hV_1 26 96 rfl rfl
      have ta_2_97 : a_2.eval (.tmp 97) = .bool (false) := hV_1 27 97 rfl rfl
      have ta_2_98 : a_2.eval (.tmp 98) = .pointer (some ⟨g_3, 0, none⟩) := hV_1 28 98 rfl rfl
      have ta_2_99 : a_2.eval (.tmp 99) = .int .i64 ((((putsL co (List.replicate K xa)).put).cnt : Nat) : Int) := hV_1 29 99 rfl rfl
      have ta_2_100 : a_2.eval (.tmp 100) = .int .i64 ((K : Nat) : Int) := hV_1 30 100 rfl rfl
      have ta_2_101 : a_2.eval (.tmp 101) = .int .i64 ((K + 1 : Nat) : Int) := hV_1 31 101 rfl rfl
      clear hV_1 hO_1
      simp only [List.drop_succ_cons, List.drop_zero]
      refine op_valG (e := 97) (d := 102) (v := .bool (false)) rfl rfl (by kernel_rfl) ((pm rfl).trans ta_2_97) (o_eq (o_neq (m := (((putsL co (List.replicate K xa)).put).cnt)) (n := (K + 1)) rfl ((pm rfl).trans ta_2_99) ((pm rfl).trans ta_2_101)) (by rw [decide_eq_true hcw]; rfl)) ?_
      refine op_val (d := 103) (v := .bool (false)) rfl rfl (o_pickF rfl ((pm rfl).trans ta_2_97) (pe hs_5 rfl rfl)) ?_
      refine x_nil ?_
      refine hK_22 _ _ ?_
      refine w2_condF (pe hs_5 rfl rfl) ?_
      refine w2_skip ?_
      refine hK_18 _ _ ?_
      refine hK_17 _ _ ?_
      refine x_region (by kernel_rfl) ?_
      refine op_val (d := 104) (v := .int .i64 ((K + 1 : Nat) : Int)) rfl rfl (o_add64 (m := K) (n := 1) rfl ((pm rfl).trans ta_2_55) rfl (by omega)) ?_
      refine op_val (d := 55) (v := .int .i64 ((K + 1 : Nat) : Int)) rfl rfl (o_move rfl (pe hs_5 rfl rfl)) ?_
      refine x_nil ?_
      refine hK_14 _ _ _ ⟨K + 1, M_5, M_6, rfl, (by rw [putsR_size]; exact hs_5), (by rw [putsR_defers]; exact hd_2), ((pm rfl).trans ta_2_0), ((pm rfl).trans ta_2_1), ((pm rfl).trans ta_2_2), ((pm rfl).trans ta_2_7), ((pm rfl).trans ta_2_8), ((pm rfl).trans ta_2_9), ((pm rfl).trans ta_2_10), ((pm rfl).trans ta_2_11), ((pm rfl).trans ta_2_12), ((pm rfl).trans ta_2_13), ((pm rfl).trans ta_2_19), ((pm rfl).trans ta_2_20), ((pm rfl).trans ta_2_21), ((pm rfl).trans ta_2_23), ((pm rfl).trans ta_2_24), ((pm rfl).trans ta_2_25), ((pm rfl).trans ta_2_26), ((pm rfl).trans ta_2_27), ((pm rfl).trans ta_2_28), ((pm rfl).trans ta_2_29), ((pm rfl).trans ta_2_30), ((pm rfl).trans ta_2_31), ((pm rfl).trans ta_2_32), ((pm rfl).trans ta_2_33), ((pm rfl).trans ta_2_34), ((pm rfl).trans ta_2_35), ((pm rfl).trans ta_2_36), ((pm rfl).trans ta_2_37), ((pm rfl).trans ta_2_38), ((pm rfl).trans ta_2_39), ((pm rfl).trans ta_2_40), ((pm rfl).trans ta_2_41), ((pm rfl).trans ta_2_42), ((pm rfl).trans ta_2_43), ((pm rfl).trans ta_2_44), ((pm rfl).trans ta_2_45), ((pm rfl).trans ta_2_46), ((pm rfl).trans ta_2_47), ((pm rfl).trans ta_2_48), ((pm rfl).trans ta_2_49), ((pm rfl).trans ta_2_50), ((pm rfl).trans ta_2_51), ((pm rfl).trans ta_2_52), ((pm rfl).trans ta_2_53), ((pm rfl).trans ta_2_54), (pe hs_5 rfl rfl), (by omega), (by rw [putsL_rep]; exact hW_3), (by rw [putsL_rep]; exact hR_8), sp_10, gg_5, gg_6, HB_7⟩ ?_
      omega
    · simp only [decide_eq_true_eq, decide_eq_false_iff_not, Bool.not_eq_true', Bool.not_eq_false', Bool.not_true, Bool.not_false, Nat.not_lt, Nat.not_le] at h_1
      have hKe : K = 2 * ev + 1 := by omega
      have hpn : (putsL co (List.replicate K xa)).n = 2 * (2 * ev + 1) := by rw [putsL_n, List.length_replicate]; omega
      refine w2_exit ?_
      refine thn_exit ?_
      refine thn_exit ?_
      refine exb_hit ?_
      refine hK_13 _ _ ?_
      refine hK_11 _ _ ?_
      refine w2_seq (fun K_23 hK_23 => ?_)
      refine x_region (by kernel_rfl) ?_
      refine op_val (d := 105) (v := .pointer (some ⟨g_1, 0, none⟩)) rfl rfl (o_move rfl ((pm rfl).trans ta_1_8)) ?_
      refine op_call (vs := #[.pointer (some ⟨g_1, 0, none⟩)]) rfl rfl (exec_call Try.func47 (by kernel_rfl) (by kernel_rfl) _ rfl _ _ (args1 (pe hs_1 rfl rfl))) ((hLw.cipher.elim fun _ h => CCount_any _ h)) (fun e_8 w_10 hR_9 => ?_)
      obtain ⟨rfl, rfl⟩ := hR_9
      refine ⟨_, rfl, ?_⟩
      refine op_val (d := 107) (v := .int .i64 ((ev : Nat) : Int)) rfl rfl (o_move rfl ((pm rfl).trans ta_1_2)) ?_
      refine op_val (d := 108) (v := .int .i64 ((2 * ev : Nat) : Int)) rfl rfl (o_mul64 (m := 2) (n := ev) rfl rfl (pe hs_1 rfl rfl) (by omega)) ?_
      refine op_val (d := 109) (v := .int .i64 (((2 * ev) + 1 : Nat) : Int)) rfl rfl (o_add64 (m := (2 * ev)) (n := 1) rfl (pe hs_1 rfl rfl) rfl (by omega)) ?_
      refine op_val (d := 110) (v := .int .i64 ((2 * ((2 * ev) + 1) : Nat) : Int)) rfl rfl (o_mul64 (m := 2) (n := ((2 * ev) + 1)) rfl rfl (pe hs_1 rfl rfl) (by omega)) ?_
      refine op_val (d := 111) (v := .int .u64 ((2 * ((2 * ev) + 1) : Nat) : Int)) rfl rfl (o_conv (m := (2 * ((2 * ev) + 1))) (r := 2 * ((2 * ev) + 1)) rfl (pe hs_1 rfl rfl) ⟨.int .i64, fun _ => by kernel_rfl⟩ (fun _ => by kernel_rfl) (by rw [IntKind.wrap_u64]; omega)) ?_
      refine op_val (d := 112) (v := .bool (true)) rfl rfl (o_eq (o_eql (m := ((putsL co (List.replicate K xa)).n)) (n := (2 * ((2 * ev) + 1))) rfl (pe hs_1 rfl rfl) (pe hs_1 rfl rfl)) (by rw [decide_eq_true hpn])) ?_
      refine op_val (d := 113) (v := .bool (true)) rfl rfl (o_move rfl (pe hs_1 rfl rfl)) ?_
      refine op_valG (e := 113) (d := 114) (v := .pointer (some ⟨g_2, 0, none⟩)) rfl rfl (by kernel_rfl) (pe hs_1 rfl rfl) (o_move rfl ((pm rfl).trans ta_1_10)) ?_
      refine op_callG (e := 113) (vs := #[.pointer (some ⟨g_2, 0, none⟩)]) rfl rfl (by kernel_rfl) (pe hs_1 rfl rfl) (exec_call Try.func47 (by kernel_rfl) (by kernel_rfl) _ rfl _ _ (args1 (pe hs_1 rfl rfl))) ((hLr.cipher.elim fun _ h => CCount_any _ h)) (fun e_9 w_11 hR_10 => ?_)
      obtain ⟨rfl, rfl⟩ := hR_10
      refine ⟨_, rfl, ?_⟩
      refine op_valG (e := 113) (d := 116) (v := .pointer (some ⟨g_1, 0, none⟩)) rfl rfl (by kernel_rfl) (pe hs_1 rfl rfl) (o_move rfl ((pm rfl).trans ta_1_8)) ?_
      refine op_callG (e := 113) (vs := #[.pointer (some ⟨g_1, 0, none⟩)]) rfl rfl (by kernel_rfl) (pe hs_1 rfl rfl) (exec_call Try.func47 (by kernel_rfl) (by kernel_rfl) _ rfl _ _ (args1 (pe hs_1 rfl rfl))) ((hLw.cipher.elim fun _ h => CCount_any _ h)) (fun e_10 w_12 hR_11 => ?_)
      obtain ⟨rfl, rfl⟩ := hR_11
      refine ⟨_, rfl, ?_⟩
      refine op_valG (e := 113) (d := 118) (v := .bool (true)) rfl rfl (by kernel_rfl) (pe hs_1 rfl rfl) (o_eq (o_eql (m := ((Rd.at0 (putsL co (List.replicate K xa)) []).co.n)) (n := ((putsL co (List.replicate K xa)).n)) rfl (pe hs_1 rfl rfl) (pe hs_1 rfl rfl)) (congrArg Value.bool (decide_eq_true rfl))) ?_
      refine op_val (d := 119) (v := .bool (true)) rfl rfl (o_pickT rfl (pe hs_1 rfl rfl) (pe hs_1 rfl rfl)) ?_
      refine op_val (d := 120) (v := .bool (true)) rfl rfl (o_move rfl (pe hs_1 rfl rfl)) ?_
      refine op_callG (e := 120) (vs := #[]) rfl rfl (by kernel_rfl) (pe hs_1 rfl rfl) (exec_call Try.func34 (by kernel_rfl) (by kernel_rfl) _ rfl _ _ (args0)) (awake12_any _) (fun e_11 w_13 hR_12 => ?_)
      obtain ⟨rfl, hb_13⟩ := hR_12
      replace hLw := hLw.nx hb_13
      replace hLr := hLr.nx hb_13
      have HB_8 := below_from HBL hb_13
      refine ⟨_, rfl, ?_⟩
      refine op_val (d := 122) (v := .bool (true)) rfl rfl (o_pickT rfl (pe hs_1 rfl rfl) (pe hs_1 rfl rfl)) ?_
      refine op_val (d := 6) (v := .bool (true)) rfl rfl (o_assign rfl (pe hs_1 rfl rfl)) ?_
      refine x_nil ?_
      refine hK_23 _ _ ?_
      refine w2_ret ?_
      refine ret1 rfl hd_1 (pe hs_1 rfl rfl) ?_
      exact ⟨rfl, HB_8⟩
end Go.Proofs.Ytoiamaljkodlnaa
