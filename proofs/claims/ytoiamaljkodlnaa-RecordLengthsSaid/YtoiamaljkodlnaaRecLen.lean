/-
  WALKS: sapperlaw12.RecordLengths.
-/
import Derived.Test.YtoiamaljkodlnaaAwake12
import Derived.Test.YtoiamaljkodlnaaRow
namespace Go.Proofs.Ytoiamaljkodlnaa
open Go.RowKit
set_option linter.unusedVariables false
set_option linter.unusedSimpArgs false
set_option maxRecDepth 100000
attribute [local irreducible] wpList wpListIn putsR

theorem Bs.first {w : World} {A : Option Addr} {c n : Nat} {xs : List Nat} (h : Bs w A c xs) (hn : n ≤ xs.length) : Bs w (subA A 0 c) c (xs.take n) := by
  have h1 := Bs.sub h (l := 0) (q := n) (m := c) (by omega) (by have := h.le; omega) (Nat.le_refl _)
  rwa [List.drop_zero, Nat.sub_zero, Nat.sub_zero] at h1
theorem same_rec {co : Co} {xa xb : List Nat} {n : Nat} (hA : (xa.take n).length = n) (hB : (xb.take n).length = n) (hn : n ≤ 4096) (ha : ∀ x ∈ xa, x < 256) (hb : ∀ x ∈ xb, x < 256) (h1 : ∀ x ∈ recL co (xa.take n), x < 256) (h2 : ∀ x ∈ recL co (xb.take n), x < 256) :
    (decide (strB (recL co (xa.take n)) = strB (recL co (xb.take n))) == decide (strB (xa.take n) = strB (xb.take n))) = true := by
  have e1 : (strB (recL co (xa.take n)) = strB (recL co (xb.take n))) = (strB (xa.take n) = strB (xb.take n)) := by
    rw [strB_inj h1 h2, strB_inj (fun x hx => ha x (List.mem_of_mem_take hx)) (fun x hx => hb x (List.mem_of_mem_take hx))]
    exact propext (recL_inj co (by rw [hA, hB]) (by rw [hA]; exact hn))
  simp [e1]
theorem RecLenA {A0 A1 A2 : Option Addr} {c0 c1 c2 m la lb nn : Nat} {ks xa xb : List Nat} (z : Int) (w : World) (h0 : Bs w A0 c0 ks) (h1 : Bs w A1 c1 xa) (h2 : Bs w A2 c2 xb) (hm : ks.length = m) (hla : xa.length = la) (hlb : xb.length = lb) (hnn : min la lb = nn) (hbig : 4096 < nn) :
    Calls Try.prog 8 #[.slice A0 (m) (c0), .slice A1 (la) (c1), .slice A2 (lb) (c2), .int .i64 (z)] w fun e w' => e = .returned (.bool true) ∧ Below w.heap.size w w' := by
  refine x_enter 127 Try.func8 rfl rfl (fun a hs hd ha0 => ?_)
  have t0 : a.eval (.tmp 0) = .slice A0 (m) (c0) := ha0 0 _ rfl
  have t1 : a.eval (.tmp 1) = .slice A1 (la) (c1) := ha0 1 _ rfl
  have t2 : a.eval (.tmp 2) = .slice A2 (lb) (c2) := ha0 2 _ rfl
  have t3 : a.eval (.tmp 3) = .int .i64 (z) := ha0 3 _ rfl
  clear ha0
  refine w2_seq (fun K_1 hK_1 => ?_)
  refine x_region (by kernel_rfl) ?_
  refine op_val (d := 8) (v := .bool (false)) rfl rfl (o_assign rfl rfl) ?_
  refine x_nil ?_
  refine hK_1 _ _ ?_
  refine w2_seq (fun K_2 hK_2 => ?_)
  refine x_region (by kernel_rfl) ?_
  refine op_val (d := 23) (v := .slice A1 (la) (c1)) rfl rfl (o_move rfl ((pm rfl).trans t1)) ?_
  refine op_val (d := 24) (v := .int .i64 ((la : Nat) : Int)) rfl rfl (o_len rfl (pe hs rfl rfl)) ?_
  refine op_val (d := 25) (v := .slice A2 (lb) (c2)) rfl rfl (o_move rfl ((pm rfl).trans t2)) ?_
  refine op_val (d := 26) (v := .int .i64 ((lb : Nat) : Int)) rfl rfl (o_len rfl (pe hs rfl rfl)) ?_
  refine op_val (d := 27) (v := .int .i64 ((nn : Nat) : Int)) rfl rfl (o_eq (o_min rfl (pe hs rfl rfl) (pe hs rfl rfl)) (by rw [hnn])) ?_
  refine op_val (d := 9) (v := .int .i64 ((nn : Nat) : Int)) rfl rfl (o_assign rfl (pe hs rfl rfl)) ?_
  refine x_nil ?_
  refine hK_2 _ _ ?_
  refine w2_seq (fun K_3 hK_3 => ?_)
  refine w2_seq (fun K_4 hK_4 => ?_)
  refine x_region (by kernel_rfl) ?_
  refine op_val (d := 28) (v := .int .i64 ((nn : Nat) : Int)) rfl rfl (o_move rfl (pe hs rfl rfl)) ?_
  refine op_val (d := 29) (v := .bool (true)) rfl rfl (o_eq (o_gtr (m := nn) (n := 4096) rfl (pe hs rfl rfl) rfl) (by rw [decide_eq_true hbig])) ?_
  refine x_nil ?_
  refine hK_4 _ _ ?_
  refine w2_condT (pe hs rfl rfl) ?_
  refine w2_seq (fun K_5 hK_5 => ?_)
  refine x_region (by kernel_rfl) ?_
  refine op_call (vs := #[]) rfl rfl (exec_call Try.func34 (by kernel_rfl) (by kernel_rfl) _ rfl _ _ (args0)) (awake12_any _) (fun e_1 w_1 hR_1 => ?_)
  obtain ⟨rfl, hb_2⟩ := hR_1
  refine ⟨_, rfl, ?_⟩
  refine op_val (d := 8) (v := .bool (true)) rfl rfl (o_assign rfl (pe hs rfl rfl)) ?_
  refine x_nil ?_
  refine hK_5 _ _ ?_
  refine w2_ret ?_
  refine thn_ret ?_
  refine ret1 rfl hd (pe hs rfl rfl) ?_
  exact ⟨rfl, hb_2⟩
set_option maxHeartbeats 1000000 in
theorem RecLenB {A0 A1 A2 : Option Addr} {c0 c1 c2 m la lb nn : Nat} {ks xa xb : List Nat} (z : Int) (w : World) (h0 : Bs w A0 c0 ks) (h1 : Bs w A1 c1 xa) (h2 : Bs w A2 c2 xb) (hm : ks.length = m) (hla : xa.length = la) (hlb : xb.length = lb) (hnn : min la lb = nn) (hbig : nn ≤ 4096) :
    Calls Try.prog 8 #[.slice A0 (m) (c0), .slice A1 (la) (c1), .slice A2 (lb) (c2), .int .i64 (z)] w fun e w' => e = .returned (.bool true) ∧ Below w.heap.size w w' := by
  have hc1 := h1.le
  have hc2 := h2.le
  have hSa := h1.first (n := nn) (by omega)
  have hSb := h2.first (n := nn) (by omega)
  have hal : (xa.take nn).length = nn := List.length_take_of_le (by omega)
  have hbl : (xb.take nn).length = nn := List.length_take_of_le (by omega)
  refine x_enter 127 Try.func8 rfl rfl (fun a hs hd ha0 => ?_)
  have t0 : a.eval (.tmp 0) = .slice A0 (m) (c0) := ha0 0 _ rfl
  have t1 : a.eval (.tmp 1) = .slice A1 (la) (c1) := ha0 1 _ rfl
  have t2 : a.eval (.tmp 2) = .slice A2 (lb) (c2) := ha0 2 _ rfl
  have t3 : a.eval (.tmp 3) = .int .i64 (z) := ha0 3 _ rfl
  clear ha0
  refine w2_seq (fun K_1 hK_1 => ?_)
  refine x_region (by kernel_rfl) ?_
  refine op_val (d := 8) (v := .bool (false)) rfl rfl (o_assign rfl rfl) ?_
  refine x_nil ?_
  refine hK_1 _ _ ?_
  refine w2_seq (fun K_2 hK_2 => ?_)
  refine x_region (by kernel_rfl) ?_
  refine op_val (d := 23) (v := .slice A1 (la) (c1)) rfl rfl (o_move rfl ((pm rfl).trans t1)) ?_
  refine op_val (d := 24) (v := .int .i64 ((la : Nat) : Int)) rfl rfl (o_len rfl (pe hs rfl rfl)) ?_
  refine op_val (d := 25) (v := .slice A2 (lb) (c2)) rfl rfl (o_move rfl ((pm rfl).trans t2)) ?_
  refine op_val (d := 26) (v := .int .i64 ((lb : Nat) : Int)) rfl rfl (o_len rfl (pe hs rfl rfl)) ?_
  refine op_val (d := 27) (v := .int .i64 ((nn : Nat) : Int)) rfl rfl (o_eq (o_min rfl (pe hs rfl rfl) (pe hs rfl rfl)) (by rw [hnn])) ?_
  refine op_val (d := 9) (v := .int .i64 ((nn : Nat) : Int)) rfl rfl (o_assign rfl (pe hs rfl rfl)) ?_
  refine x_nil ?_
  refine hK_2 _ _ ?_
  refine w2_seq (fun K_3 hK_3 => ?_)
  refine w2_seq (fun K_4 hK_4 => ?_)
  refine x_region (by kernel_rfl) ?_
  refine op_val (d := 28) (v := .int .i64 ((nn : Nat) : Int)) rfl rfl (o_move rfl (pe hs rfl rfl)) ?_
  refine op_val (d := 29) (v := .bool (false)) rfl rfl (o_eq (o_gtr (m := nn) (n := 4096) rfl (pe hs rfl rfl) rfl) (by rw [decide_eq_false (by omega)])) ?_
  refine x_nil ?_
  refine hK_4 _ _ ?_
  refine w2_condF (pe hs rfl rfl) ?_
  refine w2_skip ?_
  refine hK_3 _ _ ?_
  refine w2_seq (fun K_5 hK_5 => ?_)
  refine x_region (by kernel_rfl) ?_
  refine op_val (d := 31) (v := .slice A0 (m) (c0)) rfl rfl (o_move rfl ((pm rfl).trans t0)) ?_
  refine op_call (vs := #[.slice A0 (m) (c0)]) rfl rfl (exec_call Try.func35 (by kernel_rfl) (by kernel_rfl) _ rfl _ _ (args1 (pe hs rfl rfl))) (Key_any _ h0 hm) (fun e_1 w_1 hR_1 => ?_)
  obtain ⟨A_1, c_1, rfl, ho_1, hb_1⟩ := hR_1
  refine ⟨_, rfl, ?_⟩
  refine op_val (d := 10) (v := .slice A_1 (32) (c_1)) rfl rfl (o_assign rfl (pe hs rfl rfl)) ?_
  refine x_nil ?_
  refine hK_5 _ _ ?_
  refine w2_seq (fun K_6 hK_6 => ?_)
  refine x_region (by kernel_rfl) ?_
  refine op_val (d := 34) (v := .slice A_1 (32) (c_1)) rfl rfl (o_move rfl (pe hs rfl rfl)) ?_
  refine op_call (vs := #[.slice A_1 (32) (c_1)]) rfl rfl (exec_call Try.func36 (by kernel_rfl) (by kernel_rfl) _ rfl _ _ (args1 (pe hs rfl rfl))) (NewCipher_any _ (ho_1).bs (by simp only [padTo_length]) rfl) (fun e_2 w_2 hR_2 => ?_)
  obtain ⟨M_1, g_1, rfl, hC_1, hge_1, hb_2⟩ := hR_2
  have sp_1 : Sep (blkA A_1) M_1 := Sep.new ho_1.lt hge_1
  have gg_1 := hge_1.down hb_1.size
  replace ho_1 := ho_1.nx hb_2
  have HB_1 := below_from hb_1 hb_2
  refine ⟨_, rfl, ?_⟩
  refine op_val (d := 33) (v := .tuple #[.pointer (some ⟨g_1, 0, none⟩), .int .i64 ((0 : Nat) : Int)]) rfl rfl (o_move rfl (pe hs rfl rfl)) ?_
  refine op_val (d := 36) (v := .pointer (some ⟨g_1, 0, none⟩)) rfl rfl (o_extract rfl (pe hs rfl rfl) rfl) ?_
  refine op_val (d := 37) (v := .int .i64 ((0 : Nat) : Int)) rfl rfl (o_extract rfl (pe hs rfl rfl) rfl) ?_
  refine op_val (d := 11) (v := .pointer (some ⟨g_1, 0, none⟩)) rfl rfl (o_assign rfl (pe hs rfl rfl)) ?_
  refine op_val (d := 12) (v := .int .i64 ((0 : Nat) : Int)) rfl rfl (o_assign rfl (pe hs rfl rfl)) ?_
  refine x_nil ?_
  refine hK_6 _ _ ?_
  refine w2_seq (fun K_7 hK_7 => ?_)
  refine x_region (by kernel_rfl) ?_
  refine op_val (d := 39) (v := .slice A_1 (32) (c_1)) rfl rfl (o_move rfl (pe hs rfl rfl)) ?_
  refine op_call (vs := #[.slice A_1 (32) (c_1)]) rfl rfl (exec_call Try.func36 (by kernel_rfl) (by kernel_rfl) _ rfl _ _ (args1 (pe hs rfl rfl))) (NewCipher_any _ (ho_1).bs (by simp only [padTo_length]) rfl) (fun e_3 w_3 hR_3 => ?_)
  obtain ⟨M_2, g_2, rfl, hC_2, hge_2, hb_3⟩ := hR_3
  have sp_2 : Sep (blkA A_1) M_2 := Sep.new ho_1.lt hge_2
  have sp_3 : Sep M_1 M_2 := Sep.new hC_1.lt hge_2
  have gg_2 := hge_2.down HB_1.size
  replace ho_1 := ho_1.nx hb_3
  replace hC_1 := hC_1.nx hb_3
  have HB_2 := below_from HB_1 hb_3
  refine ⟨_, rfl, ?_⟩
  refine op_val (d := 38) (v := .tuple #[.pointer (some ⟨g_2, 0, none⟩), .int .i64 ((0 : Nat) : Int)]) rfl rfl (o_move rfl (pe hs rfl rfl)) ?_
  refine op_val (d := 41) (v := .pointer (some ⟨g_2, 0, none⟩)) rfl rfl (o_extract rfl (pe hs rfl rfl) rfl) ?_
  refine op_val (d := 42) (v := .int .i64 ((0 : Nat) : Int)) rfl rfl (o_extract rfl (pe hs rfl rfl) rfl) ?_
  refine op_val (d := 13) (v := .pointer (some ⟨g_2, 0, none⟩)) rfl rfl (o_assign rfl (pe hs rfl rfl)) ?_
  refine op_val (d := 14) (v := .int .i64 ((0 : Nat) : Int)) rfl rfl (o_assign rfl (pe hs rfl rfl)) ?_
  refine x_nil ?_
  refine hK_7 _ _ ?_
  refine w2_seq (fun K_8 hK_8 => ?_)
  refine w2_seq (fun K_9 hK_9 => ?_)
  refine x_region (by kernel_rfl) ?_
  refine op_val (d := 43) (v := .int .i64 ((0 : Nat) : Int)) rfl rfl (o_move rfl (pe hs rfl rfl)) ?_
  refine op_val (d := 44) (v := .bool (false)) rfl rfl (o_eq (o_neq (m := 0) (n := 0) rfl (pe hs rfl rfl) rfl) rfl) ?_
  refine op_val (d := 45) (v := .bool (false)) rfl rfl (o_move rfl (pe hs rfl rfl)) ?_
  refine op_valG (e := 45) (d := 46) (v := .int .i64 ((0 : Nat) : Int)) rfl rfl (by kernel_rfl) (pe hs rfl rfl) (o_move rfl (pe hs rfl rfl)) ?_
  refine op_valG (e := 45) (d := 47) (v := .bool (false)) rfl rfl (by kernel_rfl) (pe hs rfl rfl) (o_eq (o_neq (m := 0) (n := 0) rfl (pe hs rfl rfl) rfl) rfl) ?_
  refine op_val (d := 48) (v := .bool (false)) rfl rfl (o_pickF rfl (pe hs rfl rfl) (pe hs rfl rfl)) ?_
  refine x_nil ?_
  refine hK_9 _ _ ?_
  refine w2_condF (pe hs rfl rfl) ?_
  refine w2_skip ?_
  refine hK_8 _ _ ?_
  refine w2_seq (fun K_10 hK_10 => ?_)
  refine x_region (by kernel_rfl) ?_
  refine op_val (d := 49) (v := .pointer (some ⟨g_1, 0, none⟩)) rfl rfl (o_move rfl (pe hs rfl rfl)) ?_
  refine op_call (vs := #[.pointer (some ⟨g_1, 0, none⟩), .int .i64 ((3 : Nat) : Int)]) rfl rfl (exec_call Try.func37 (by kernel_rfl) (by kernel_rfl) _ rfl _ _ (args2 (pe hs rfl rfl) rfl)) (NewWriter_any (((3 : Nat) : Int) : Int) _ hC_1) (fun e_4 w_4 hR_4 => ?_)
  obtain ⟨M_3, g_3, rfl, hW_1, hN_1, hb_4⟩ := hR_4
  have sp_4 : Sep (blkA A_1) M_3 := hN_1.sep (sp_1) ho_1.lt
  have sp_5 : Sep M_2 M_3 := hN_1.sep (sp_3.symm) hC_2.lt
  have gg_3 := hN_1.ge gg_1 HB_2.size
  replace ho_1 := ho_1.nx hb_4
  replace hC_2 := hC_2.nx hb_4
  have HB_3 := below_from HB_2 hb_4
  refine ⟨_, rfl, ?_⟩
  refine op_val (d := 51) (v := .pointer (some ⟨g_2, 0, none⟩)) rfl rfl (o_move rfl (pe hs rfl rfl)) ?_
  refine op_call (vs := #[.pointer (some ⟨g_2, 0, none⟩), .int .i64 ((3 : Nat) : Int)]) rfl rfl (exec_call Try.func37 (by kernel_rfl) (by kernel_rfl) _ rfl _ _ (args2 (pe hs rfl rfl) rfl)) (NewWriter_any (((3 : Nat) : Int) : Int) _ hC_2) (fun e_5 w_5 hR_5 => ?_)
  obtain ⟨M_4, g_4, rfl, hW_2, hN_2, hb_5⟩ := hR_5
  have sp_6 : Sep (blkA A_1) M_4 := hN_2.sep (sp_2) ho_1.lt
  have sp_7 : Sep M_3 M_4 := hN_2.sep (sp_5.symm) hW_1.lt
  have gg_4 := hN_2.ge gg_2 HB_3.size
  replace ho_1 := ho_1.nx hb_5
  replace hW_1 := hW_1.nx hb_5
  have HB_4 := below_from HB_3 hb_5
  refine ⟨_, rfl, ?_⟩
  refine op_val (d := 15) (v := .pointer (some ⟨g_3, 0, none⟩)) rfl rfl (o_assign rfl (pe hs rfl rfl)) ?_
  refine op_val (d := 16) (v := .pointer (some ⟨g_4, 0, none⟩)) rfl rfl (o_assign rfl (pe hs rfl rfl)) ?_
  refine x_nil ?_
  refine hK_10 _ _ ?_
  refine w2_seq (fun K_11 hK_11 => ?_)
  have hz := at64_lt z
  refine x_region (by kernel_rfl) ?_
  refine op_val (d := 54) (v := .pointer (some ⟨g_3, 0, none⟩)) rfl rfl (o_move rfl (pe hs rfl rfl)) ?_
  refine op_val (d := 55) (v := .int .i64 (z)) rfl rfl (o_move rfl ((pm rfl).trans t3)) ?_
  refine op_val (d := 56) (v := .int .u64 ((at64 z : Nat) : Int)) rfl rfl (o_convZ rfl (pe hs rfl rfl) ⟨.int .i64, fun _ => by kernel_rfl⟩ (fun _ => by kernel_rfl)) ?_
  refine op_val (d := 57) (v := .int .u64 (((at64 z) % 50 : Nat) : Int)) rfl rfl (o_rem (m := (at64 z)) (n := 50) rfl (pe hs rfl rfl) rfl (by omega) (by rw [IntKind.wrap_u64]; omega)) ?_
  refine op_val (d := 58) (v := .int .i64 (((at64 z) % 50 : Nat) : Int)) rfl rfl (o_conv (m := ((at64 z) % 50)) (r := (at64 z) % 50) rfl (pe hs rfl rfl) ⟨.int .u64, fun _ => by kernel_rfl⟩ (fun _ => by kernel_rfl) (IntWalk.i64_in _ (by omega))) ?_
  refine op_val (d := 59) (v := .int .i64 ((4097 + ((at64 z) % 50) : Nat) : Int)) rfl rfl (o_add64 (m := 4097) (n := ((at64 z) % 50)) rfl rfl (pe hs rfl rfl) (by omega)) ?_
  refine op_ex (d := 60) rfl rfl (o_makeN (n := 4097 + ((at64 z) % 50)) rfl (pe hs rfl rfl) (pe hs rfl rfl) (by omega)) (fun v_1 w_6 hR_6 => ?_)
  obtain ⟨g_5, rfl, ho_2, hb_6⟩ := hR_6
  replace ho_1 := ho_1.nx hb_6
  replace hW_1 := hW_1.nx hb_6
  replace hW_2 := hW_2.nx hb_6
  have HB_5 := below_from HB_4 hb_6
  refine op_call (vs := #[.pointer (some ⟨g_3, 0, none⟩), .slice ((some ⟨g_5, 0, none⟩)) (4097 + ((at64 z) % 50)) (4097 + ((at64 z) % 50))]) rfl rfl (exec_call Try.func38 (by kernel_rfl) (by kernel_rfl) _ rfl _ _ (args2 (pe hs rfl rfl) (pe hs rfl rfl))) (Put_gt _ (ho_2).bs (by simp only [List.length_replicate]) (by omega)) (fun e_6 w_7 hR_7 => ?_)
  obtain ⟨rfl, rfl⟩ := hR_7
  refine ⟨_, rfl, ?_⟩
  refine op_val (d := 53) (v := .tuple #[.slice none (0) (0), .int .i64 ((7 : Nat) : Int)]) rfl rfl (o_move rfl (pe hs rfl rfl)) ?_
  refine op_val (d := 62) (v := .slice none (0) (0)) rfl rfl (o_extract rfl (pe hs rfl rfl) rfl) ?_
  refine op_val (d := 63) (v := .int .i64 ((7 : Nat) : Int)) rfl rfl (o_extract rfl (pe hs rfl rfl) rfl) ?_
  refine op_val (d := 17) (v := .slice none (0) (0)) rfl rfl (o_assign rfl (pe hs rfl rfl)) ?_
  refine op_val (d := 18) (v := .int .i64 ((7 : Nat) : Int)) rfl rfl (o_assign rfl (pe hs rfl rfl)) ?_
  refine x_nil ?_
  refine hK_11 _ _ ?_
  refine w2_seq (fun K_12 hK_12 => ?_)
  refine x_region (by kernel_rfl) ?_
  refine op_val (d := 65) (v := .pointer (some ⟨g_3, 0, none⟩)) rfl rfl (o_move rfl (pe hs rfl rfl)) ?_
  refine op_val (d := 66) (v := .slice A1 (la) (c1)) rfl rfl (o_move rfl ((pm rfl).trans t1)) ?_
  refine op_val (d := 67) (v := .int .i64 ((nn : Nat) : Int)) rfl rfl (o_move rfl (pe hs rfl rfl)) ?_
  refine op_val (d := 68) (v := .slice ((subA A1 0 c1)) (nn) (c1)) rfl rfl (o_sliceH rfl (pe hs rfl rfl) (pe hs rfl rfl) (by omega)) ?_
  refine op_call (vs := #[.pointer (some ⟨g_3, 0, none⟩), .slice ((subA A1 0 c1)) (nn) (c1)]) rfl rfl (exec_call Try.func38 (by kernel_rfl) (by kernel_rfl) _ rfl _ _ (args2 (pe hs rfl rfl) (pe hs rfl rfl))) (Put_any _ hW_1 (hSa.below HB_5) hal (by omega) (by show 0 < _; decide) (by show 0 < _; decide)) (fun e_7 w_8 hR_8 => ?_)
  obtain ⟨A_2, c_2, rfl, ho_3, ⟨M_5, hW_3, hN_3, hs_1⟩, hX_1⟩ := hR_8
  have hl_1 : (recL (⟨padTo 32 ks, 0, everyN 3, 0⟩) (xa.take nn)).length = sizeN nn + 34 := by rw [recL_length _ (by have h9 : (xa.take nn).length = nn := hal; omega)]; rw [show (xa.take nn).length = nn from hal]
  have sp_8 : Sep (blkA A_1) M_5 := hN_3.sep (sp_4) ho_1.lt
  have sp_9 : Sep (blkA A_2) (blkA A_1) := (Sep.new ho_1.lt ho_3.ge').symm
  have sp_10 : Sep M_4 M_5 := hN_3.sep (sp_7.symm) hW_2.lt
  have sp_11 : Sep (blkA A_2) M_4 := (Sep.new hW_2.lt ho_3.ge').symm
  replace ho_1 := ho_1.keepM hX_1 (sp_4)
  replace hW_2 := hW_2.keepM hX_1 (sp_7.symm)
  have gg_5 := hN_3.ge gg_3 HB_5.size
  replace ho_3 := ho_3.mono HB_5.size
  have HB_6 := hX_1.below HB_5 HB_5.size gg_3
  refine ⟨_, rfl, ?_⟩
  refine op_val (d := 64) (v := .tuple #[.slice A_2 (sizeN nn + 34) (c_2), .int .i64 ((0 : Nat) : Int)]) rfl rfl (o_move rfl (pe hs rfl rfl)) ?_
  refine op_val (d := 70) (v := .slice A_2 (sizeN nn + 34) (c_2)) rfl rfl (o_extract rfl (pe hs rfl rfl) rfl) ?_
  refine op_val (d := 71) (v := .int .i64 ((0 : Nat) : Int)) rfl rfl (o_extract rfl (pe hs rfl rfl) rfl) ?_
  refine op_val (d := 19) (v := .slice A_2 (sizeN nn + 34) (c_2)) rfl rfl (o_assign rfl (pe hs rfl rfl)) ?_
  refine op_val (d := 20) (v := .int .i64 ((0 : Nat) : Int)) rfl rfl (o_assign rfl (pe hs rfl rfl)) ?_
  refine x_nil ?_
  refine hK_12 _ _ ?_
  refine w2_seq (fun K_13 hK_13 => ?_)
  refine x_region (by kernel_rfl) ?_
  refine op_val (d := 73) (v := .pointer (some ⟨g_4, 0, none⟩)) rfl rfl (o_move rfl (pe hs rfl rfl)) ?_
  refine op_val (d := 74) (v := .slice A2 (lb) (c2)) rfl rfl (o_move rfl ((pm rfl).trans t2)) ?_
  refine op_val (d := 75) (v := .int .i64 ((nn : Nat) : Int)) rfl rfl (o_move rfl (pe hs rfl rfl)) ?_
  refine op_val (d := 76) (v := .slice ((subA A2 0 c2)) (nn) (c2)) rfl rfl (o_sliceH rfl (pe hs rfl rfl) (pe hs rfl rfl) (by omega)) ?_
  refine op_call (vs := #[.pointer (some ⟨g_4, 0, none⟩), .slice ((subA A2 0 c2)) (nn) (c2)]) rfl rfl (exec_call Try.func38 (by kernel_rfl) (by kernel_rfl) _ rfl _ _ (args2 (pe hs rfl rfl) (pe hs rfl rfl))) (Put_any _ hW_2 (hSb.below HB_6) hbl (by omega) (by show 0 < _; decide) (by show 0 < _; decide)) (fun e_8 w_9 hR_9 => ?_)
  obtain ⟨A_3, c_3, rfl, ho_4, ⟨M_6, hW_4, hN_4, hs_2⟩, hX_2⟩ := hR_9
  have hl_2 : (recL (⟨padTo 32 ks, 0, everyN 3, 0⟩) (xb.take nn)).length = sizeN nn + 34 := by rw [recL_length _ (by have h9 : (xb.take nn).length = nn := hbl; omega)]; rw [show (xb.take nn).length = nn from hbl]
  have sp_12 : Sep (blkA A_1) M_6 := hN_4.sep (sp_6) ho_1.lt
  have sp_13 : Sep (blkA A_3) (blkA A_1) := (Sep.new ho_1.lt ho_4.ge').symm
  have sp_14 : Sep M_5 M_6 := hN_4.sep (sp_10.symm) hW_3.lt
  have sp_15 : Sep (blkA A_3) M_5 := (Sep.new hW_3.lt ho_4.ge').symm
  have sp_16 : Sep (blkA A_2) M_6 := hN_4.sep (sp_11) ho_3.lt
  have sp_17 : Sep (blkA A_3) (blkA A_2) := (Sep.new ho_3.lt ho_4.ge').symm
  replace ho_1 := ho_1.keepM hX_2 (sp_6)
  replace hW_3 := hW_3.keepM hX_2 (sp_10.symm)
  replace ho_3 := ho_3.keepM hX_2 (sp_11)
  have gg_6 := hN_4.ge gg_4 HB_6.size
  replace ho_4 := ho_4.mono HB_6.size
  have HB_7 := hX_2.below HB_6 HB_6.size gg_4
  refine ⟨_, rfl, ?_⟩
  refine op_val (d := 72) (v := .tuple #[.slice A_3 (sizeN nn + 34) (c_3), .int .i64 ((0 : Nat) : Int)]) rfl rfl (o_move rfl (pe hs rfl rfl)) ?_
  refine op_val (d := 78) (v := .slice A_3 (sizeN nn + 34) (c_3)) rfl rfl (o_extract rfl (pe hs rfl rfl) rfl) ?_
  refine op_val (d := 79) (v := .int .i64 ((0 : Nat) : Int)) rfl rfl (o_extract rfl (pe hs rfl rfl) rfl) ?_
  refine op_val (d := 21) (v := .slice A_3 (sizeN nn + 34) (c_3)) rfl rfl (o_assign rfl (pe hs rfl rfl)) ?_
  refine op_val (d := 22) (v := .int .i64 ((0 : Nat) : Int)) rfl rfl (o_assign rfl (pe hs rfl rfl)) ?_
  refine x_nil ?_
  refine hK_13 _ _ ?_
  refine w2_seq (fun K_14 hK_14 => ?_)
  have hsame := same_rec (co := ⟨padTo 32 ks, 0, everyN 3, 0⟩) hal hbl (by omega) h1.b8 h2.b8 ho_3.b8 ho_4.b8
  refine x_drawn 32 [fun _ v => v = .int .i64 ((7 : Nat) : Int), fun _ v => v = .bool (true), fun _ v => v = .bool (true), fun _ v => v = .int .i64 ((0 : Nat) : Int), fun _ v => v = .bool (true), fun _ v => v = .bool (true), fun _ v => v = .bool (true), fun _ v => v = .int .i64 ((0 : Nat) : Int), fun _ v => v = .bool (true), fun _ v => v = .bool (true), fun _ v => v = .bool (true), fun _ v => v = .slice A_2 (sizeN nn + 34) (c_2), fun _ v => v = .int .i64 ((sizeN nn + 34 : Nat) : Int), fun _ v => v = .slice A_3 (sizeN nn + 34) (c_3), fun _ v => v = .int .i64 ((sizeN nn + 34 : Nat) : Int), fun _ v => v = .bool (true), fun _ v => v = .bool (true), fun _ v => v = .bool (true), fun _ v => v = .slice A_2 (sizeN nn + 34) (c_2), fun _ v => v = .string (strB (recL (⟨padTo 32 ks, 0, everyN 3, 0⟩) (xa.take nn))), fun _ v => v = .slice A_3 (sizeN nn + 34) (c_3), fun _ v => v = .string (strB (recL (⟨padTo 32 ks, 0, everyN 3, 0⟩) (xb.take nn))), fun _ v => v = .bool (decide (strB (recL (⟨padTo 32 ks, 0, everyN 3, 0⟩) (xa.take nn)) = strB (recL (⟨padTo 32 ks, 0, everyN 3, 0⟩) (xb.take nn)))), fun _ v => v = .slice A1 (la) (c1), fun _ v => v = .int .i64 ((nn : Nat) : Int), fun _ v => v = .slice ((subA A1 0 c1)) (nn) (c1), fun _ v => v = .string (strB (xa.take nn)), fun _ v => v = .slice A2 (lb) (c2), fun _ v => v = .int .i64 ((nn : Nat) : Int), fun _ v => v = .slice ((subA A2 0 c2)) (nn) (c2), fun _ v => v = .string (strB (xb.take nn)), fun _ v => v = .bool (decide (strB (xa.take nn) = strB (xb.take nn)))] [80, 81, 82, 83, 84, 85, 86, 87, 88, 89, 90, 91, 92, 93, 94, 95, 96, 97, 98, 99, 100, 101, 102, 103, 104, 105, 106, 107, 108, 109, 110, 111] hs hd (by kernel_rfl) (by kernel_rfl) (by kernel_rfl) (by kernel_rfl) (by kernel_rfl) ⟨stLit, stLit, stLit, stLit, stLit, stLit, stLit, stLit, stLit, stLit, stLit, stLit, stLit, stLit, stLit, stLit, stLit, stLit, stLit, stLit, stLit, stLit, stLit, stLit, stLit, stLit, stLit, stLit, stLit, stLit, stLit, stLit, trivial⟩ ⟨(step_ok rfl (fun a' w' hb' hO hD => by
      have d_1 : a'.eval (.tmp 18) = .int .i64 ((7 : Nat) : Int) := (hO 18 (by decide)).trans (pe hs rfl rfl)
      exact .inl ⟨_, _, (o_move rfl d_1), rfl, Below.refl _ _⟩)),
(step_ok rfl (fun a' w' hb' hO hD => by
      have d_2 : a'.eval (.tmp 80) = .int .i64 ((7 : Nat) : Int) := hD 0 80 (by kernel_rfl) rfl
      exact .inl ⟨_, _, (o_eq (o_eql (m := 7) (n := 7) rfl d_2 rfl) rfl), rfl, Below.refl _ _⟩)),
(step_ok rfl (fun a' w' hb' hO hD => by
      have d_3 : a'.eval (.tmp 81) = .bool (true) := hD 1 81 (by kernel_rfl) rfl
      exact .inl ⟨_, _, (o_move rfl d_3), rfl, Below.refl _ _⟩)),
(step_yes 2 true 82 rfl rfl (by kernel_rfl) (fun _ _ h => h) (fun a' w' hb' hO hD => by
      have d_4 : a'.eval (.tmp 20) = .int .i64 ((0 : Nat) : Int) := (hO 20 (by decide)).trans (pe hs rfl rfl)
      exact .inl ⟨_, _, (o_move rfl d_4), rfl, Below.refl _ _⟩)),
(step_yes 2 true 82 rfl rfl (by kernel_rfl) (fun _ _ h => h) (fun a' w' hb' hO hD => by
      have d_5 : a'.eval (.tmp 83) = .int .i64 ((0 : Nat) : Int) := hD 3 83 (by kernel_rfl) rfl
      exact .inl ⟨_, _, (o_eq (o_eql (m := 0) (n := 0) rfl d_5 rfl) rfl), rfl, Below.refl _ _⟩)),
(step_ok rfl (fun a' w' hb' hO hD => by
      have d_6 : a'.eval (.tmp 82) = .bool (true) := hD 2 82 (by kernel_rfl) rfl
      have d_7 : a'.eval (.tmp 84) = .bool (true) := hD 4 84 (by kernel_rfl) rfl
      exact .inl ⟨_, _, (o_pickT rfl d_6 d_7), rfl, Below.refl _ _⟩)),
(step_ok rfl (fun a' w' hb' hO hD => by
      have d_8 : a'.eval (.tmp 85) = .bool (true) := hD 5 85 (by kernel_rfl) rfl
      exact .inl ⟨_, _, (o_move rfl d_8), rfl, Below.refl _ _⟩)),
(step_yes 6 true 86 rfl rfl (by kernel_rfl) (fun _ _ h => h) (fun a' w' hb' hO hD => by
      have d_9 : a'.eval (.tmp 22) = .int .i64 ((0 : Nat) : Int) := (hO 22 (by decide)).trans (pe hs rfl rfl)
      exact .inl ⟨_, _, (o_move rfl d_9), rfl, Below.refl _ _⟩)),
(step_yes 6 true 86 rfl rfl (by kernel_rfl) (fun _ _ h => h) (fun a' w' hb' hO hD => by
      have d_10 : a'.eval (.tmp 87) = .int .i64 ((0 : Nat) : Int) := hD 7 87 (by kernel_rfl) rfl
      exact .inl ⟨_, _, (o_eq (o_eql (m := 0) (n := 0) rfl d_10 rfl) rfl), rfl, Below.refl _ _⟩)),
(step_ok rfl (fun a' w' hb' hO hD => by
      have d_11 : a'.eval (.tmp 86) = .bool (true) := hD 6 86 (by kernel_rfl) rfl
      have d_12 : a'.eval (.tmp 88) = .bool (true) := hD 8 88 (by kernel_rfl) rfl
      exact .inl ⟨_, _, (o_pickT rfl d_11 d_12), rfl, Below.refl _ _⟩)),
(step_ok rfl (fun a' w' hb' hO hD => by
      have d_13 : a'.eval (.tmp 89) = .bool (true) := hD 9 89 (by kernel_rfl) rfl
      exact .inl ⟨_, _, (o_move rfl d_13), rfl, Below.refl _ _⟩)),
(step_yes 10 true 90 rfl rfl (by kernel_rfl) (fun _ _ h => h) (fun a' w' hb' hO hD => by
      have d_14 : a'.eval (.tmp 19) = .slice A_2 (sizeN nn + 34) (c_2) := (hO 19 (by decide)).trans (pe hs rfl rfl)
      exact .inl ⟨_, _, (o_move rfl d_14), rfl, Below.refl _ _⟩)),
(step_yes 10 true 90 rfl rfl (by kernel_rfl) (fun _ _ h => h) (fun a' w' hb' hO hD => by
      have d_15 : a'.eval (.tmp 91) = .slice A_2 (sizeN nn + 34) (c_2) := hD 11 91 (by kernel_rfl) rfl
      exact .inl ⟨_, _, (o_len rfl d_15), rfl, Below.refl _ _⟩)),
(step_yes 10 true 90 rfl rfl (by kernel_rfl) (fun _ _ h => h) (fun a' w' hb' hO hD => by
      have d_16 : a'.eval (.tmp 21) = .slice A_3 (sizeN nn + 34) (c_3) := (hO 21 (by decide)).trans (pe hs rfl rfl)
      exact .inl ⟨_, _, (o_move rfl d_16), rfl, Below.refl _ _⟩)),
(step_yes 10 true 90 rfl rfl (by kernel_rfl) (fun _ _ h => h) (fun a' w' hb' hO hD => by
      have d_17 : a'.eval (.tmp 93) = .slice A_3 (sizeN nn + 34) (c_3) := hD 13 93 (by kernel_rfl) rfl
      exact .inl ⟨_, _, (o_len rfl d_17), rfl, Below.refl _ _⟩)),
(step_yes 10 true 90 rfl rfl (by kernel_rfl) (fun _ _ h => h) (fun a' w' hb' hO hD => by
      have d_18 : a'.eval (.tmp 92) = .int .i64 ((sizeN nn + 34 : Nat) : Int) := hD 12 92 (by kernel_rfl) rfl
      have d_19 : a'.eval (.tmp 94) = .int .i64 ((sizeN nn + 34 : Nat) : Int) := hD 14 94 (by kernel_rfl) rfl
      have e0 : (.bool (decide ((sizeN nn + 34) = (sizeN nn + 34))) : Value) = .bool (true) := (by rw [decide_eq_true rfl])
      exact .inl ⟨_, _, (o_eql (m := (sizeN nn + 34)) (n := (sizeN nn + 34)) rfl d_18 d_19), e0, Below.refl _ _⟩)),
(step_ok rfl (fun a' w' hb' hO hD => by
      have d_20 : a'.eval (.tmp 90) = .bool (true) := hD 10 90 (by kernel_rfl) rfl
      have d_21 : a'.eval (.tmp 95) = .bool (true) := hD 15 95 (by kernel_rfl) rfl
      exact .inl ⟨_, _, (o_pickT rfl d_20 d_21), rfl, Below.refl _ _⟩)),
(step_ok rfl (fun a' w' hb' hO hD => by
      have d_22 : a'.eval (.tmp 96) = .bool (true) := hD 16 96 (by kernel_rfl) rfl
      exact .inl ⟨_, _, (o_move rfl d_22), rfl, Below.refl _ _⟩)),
(step_yes 17 true 97 rfl rfl (by kernel_rfl) (fun _ _ h => h) (fun a' w' hb' hO hD => by
      have d_23 : a'.eval (.tmp 19) = .slice A_2 (sizeN nn + 34) (c_2) := (hO 19 (by decide)).trans (pe hs rfl rfl)
      exact .inl ⟨_, _, (o_move rfl d_23), rfl, Below.refl _ _⟩)),
(step_yes 17 true 97 rfl rfl (by kernel_rfl) (fun _ _ h => h) (fun a' w' hb' hO hD => by
      have d_24 : a'.eval (.tmp 98) = .slice A_2 (sizeN nn + 34) (c_2) := hD 18 98 (by kernel_rfl) rfl
      exact .inl ⟨_, _, (o_str rfl d_24 ((ho_3.nx hb')).bs hl_1), rfl, Below.refl _ _⟩)),
(step_yes 17 true 97 rfl rfl (by kernel_rfl) (fun _ _ h => h) (fun a' w' hb' hO hD => by
      have d_25 : a'.eval (.tmp 21) = .slice A_3 (sizeN nn + 34) (c_3) := (hO 21 (by decide)).trans (pe hs rfl rfl)
      exact .inl ⟨_, _, (o_move rfl d_25), rfl, Below.refl _ _⟩)),
(step_yes 17 true 97 rfl rfl (by kernel_rfl) (fun _ _ h => h) (fun a' w' hb' hO hD => by
      have d_26 : a'.eval (.tmp 100) = .slice A_3 (sizeN nn + 34) (c_3) := hD 20 100 (by kernel_rfl) rfl
      exact .inl ⟨_, _, (o_str rfl d_26 ((ho_4.nx hb')).bs hl_2), rfl, Below.refl _ _⟩)),
(step_yes 17 true 97 rfl rfl (by kernel_rfl) (fun _ _ h => h) (fun a' w' hb' hO hD => by
      have d_27 : a'.eval (.tmp 99) = .string (strB (recL (⟨padTo 32 ks, 0, everyN 3, 0⟩) (xa.take nn))) := hD 19 99 (by kernel_rfl) rfl
      have d_28 : a'.eval (.tmp 101) = .string (strB (recL (⟨padTo 32 ks, 0, everyN 3, 0⟩) (xb.take nn))) := hD 21 101 (by kernel_rfl) rfl
      exact .inl ⟨_, _, (o_eqSD rfl d_27 d_28), rfl, Below.refl _ _⟩)),
(step_yes 17 true 97 rfl rfl (by kernel_rfl) (fun _ _ h => h) (fun a' w' hb' hO hD => by
      have d_29 : a'.eval (.tmp 1) = .slice A1 (la) (c1) := (hO 1 (by decide)).trans ((pm rfl).trans t1)
      exact .inl ⟨_, _, (o_move rfl d_29), rfl, Below.refl _ _⟩)),
(step_yes 17 true 97 rfl rfl (by kernel_rfl) (fun _ _ h => h) (fun a' w' hb' hO hD => by
      have d_30 : a'.eval (.tmp 9) = .int .i64 ((nn : Nat) : Int) := (hO 9 (by decide)).trans (pe hs rfl rfl)
      exact .inl ⟨_, _, (o_move rfl d_30), rfl, Below.refl _ _⟩)),
(step_yes 17 true 97 rfl rfl (by kernel_rfl) (fun _ _ h => h) (fun a' w' hb' hO hD => by
      have d_31 : a'.eval (.tmp 103) = .slice A1 (la) (c1) := hD 23 103 (by kernel_rfl) rfl
      have d_32 : a'.eval (.tmp 104) = .int .i64 ((nn : Nat) : Int) := hD 24 104 (by kernel_rfl) rfl
      exact .inl ⟨_, _, (o_sliceH rfl d_31 d_32 (by omega)), rfl, Below.refl _ _⟩)),
(step_yes 17 true 97 rfl rfl (by kernel_rfl) (fun _ _ h => h) (fun a' w' hb' hO hD => by
      have d_33 : a'.eval (.tmp 105) = .slice ((subA A1 0 c1)) (nn) (c1) := hD 25 105 (by kernel_rfl) rfl
      exact .inl ⟨_, _, (o_str rfl d_33 (hSa.below (below_from HB_7 hb')) hal), rfl, Below.refl _ _⟩)),
(step_yes 17 true 97 rfl rfl (by kernel_rfl) (fun _ _ h => h) (fun a' w' hb' hO hD => by
      have d_34 : a'.eval (.tmp 2) = .slice A2 (lb) (c2) := (hO 2 (by decide)).trans ((pm rfl).trans t2)
      exact .inl ⟨_, _, (o_move rfl d_34), rfl, Below.refl _ _⟩)),
(step_yes 17 true 97 rfl rfl (by kernel_rfl) (fun _ _ h => h) (fun a' w' hb' hO hD => by
      have d_35 : a'.eval (.tmp 9) = .int .i64 ((nn : Nat) : Int) := (hO 9 (by decide)).trans (pe hs rfl rfl)
      exact .inl ⟨_, _, (o_move rfl d_35), rfl, Below.refl _ _⟩)),
(step_yes 17 true 97 rfl rfl (by kernel_rfl) (fun _ _ h => h) (fun a' w' hb' hO hD => by
      have d_36 : a'.eval (.tmp 107) = .slice A2 (lb) (c2) := hD 27 107 (by kernel_rfl) rfl
      have d_37 : a'.eval (.tmp 108) = .int .i64 ((nn : Nat) : Int) := hD 28 108 (by kernel_rfl) rfl
      exact .inl ⟨_, _, (o_sliceH rfl d_36 d_37 (by omega)), rfl, Below.refl _ _⟩)),
(step_yes 17 true 97 rfl rfl (by kernel_rfl) (fun _ _ h => h) (fun a' w' hb' hO hD => by
      have d_38 : a'.eval (.tmp 109) = .slice ((subA A2 0 c2)) (nn) (c2) := hD 29 109 (by kernel_rfl) rfl
      exact .inl ⟨_, _, (o_str rfl d_38 (hSb.below (below_from HB_7 hb')) hbl), rfl, Below.refl _ _⟩)),
(step_yes 17 true 97 rfl rfl (by kernel_rfl) (fun _ _ h => h) (fun a' w' hb' hO hD => by
      have d_39 : a'.eval (.tmp 106) = .string (strB (xa.take nn)) := hD 26 106 (by kernel_rfl) rfl
      have d_40 : a'.eval (.tmp 110) = .string (strB (xb.take nn)) := hD 30 110 (by kernel_rfl) rfl
      exact .inl ⟨_, _, (o_eqSD rfl d_39 d_40), rfl, Below.refl _ _⟩)), trivial⟩ (fun a_1 w_10 hs_3 hd_1 hb_8 hO_1 hV_1 => ?_)
  have ta_1_0 : a_1.eval (.tmp 0) = .slice A0 (m) (c0) := (hO_1 0 (by decide)).trans ((pm rfl).trans t0)
  have ta_1_1 : a_1.eval (.tmp 1) = .slice A1 (la) (c1) := (hO_1 1 (by decide)).trans ((pm rfl).trans t1)
  have ta_1_2 : a_1.eval (.tmp 2) = .slice A2 (lb) (c2) := (hO_1 2 (by decide)).trans ((pm rfl).trans t2)
  have ta_1_3 : a_1.eval (.tmp 3) = .int .i64 (z) := (hO_1 3 (by decide)).trans ((pm rfl).trans t3)
  have ta_1_8 : a_1.eval (.tmp 8) = .bool (false) := (hO_1 8 (by decide)).trans (pe hs rfl rfl)
  have ta_1_23 : a_1.eval (.tmp 23) = .slice A1 (la) (c1) := (hO_1 23 (by decide)).trans (pe hs rfl rfl)
  have ta_1_24 : a_1.eval (.tmp 24) = .int .i64 ((la : Nat) : Int) := (hO_1 24 (by decide)).trans (pe hs rfl rfl)
  have ta_1_25 : a_1.eval (.tmp 25) = .slice A2 (lb) (c2) := (hO_1 25 (by decide)).trans (pe hs rfl rfl)
  have ta_1_26 : a_1.eval (.tmp 26) = .int .i64 ((lb : Nat) : Int) := (hO_1 26 (by decide)).trans (pe hs rfl rfl)
  have ta_1_27 : a_1.eval (.tmp 27) = .int .i64 ((nn : Nat) : Int) := (hO_1 27 (by decide)).trans (pe hs rfl rfl)
  have ta_1_9 : a_1.eval (.tmp 9) = .int .i64 ((nn : Nat) : Int) := (hO_1 9 (by decide)).trans (pe hs rfl rfl)
  have ta_1_28 : a_1.eval (.tmp 28) = .int .i64 ((nn : Nat) : Int) := (hO_1 28 (by decide)).trans (pe hs rfl rfl)
  have ta_1_29 : a_1.eval (.tmp 29) = .bool (false) := (hO_1 29 (by decide)).trans (pe hs rfl rfl)
  have ta_1_31 : a_1.eval (.tmp 31) = .slice A0 (m) (c0) := (hO_1 31 (by decide)).trans (pe hs rfl rfl)
  have ta_1_32 : a_1.eval (.tmp 32) = .slice A_1 (32) (c_1) := (hO_1 32 (by decide)).trans (pe hs rfl rfl)
  have ta_1_10 : a_1.eval (.tmp 10) = .slice A_1 (32) (c_1) := (hO_1 10 (by decide)).trans (pe hs rfl rfl)
  have ta_1_34 : a_1.eval (.tmp 34) = .slice A_1 (32) (c_1) := (hO_1 34 (by decide)).trans (pe hs rfl rfl)
  have ta_1_35 : a_1.eval (.tmp 35) = .tuple #[.pointer (some ⟨g_1, 0, none⟩), .int .i64 ((0 : Nat) : Int)] := (hO_1 35 (by decide)).trans (pe hs rfl rfl)
  have ta_1_33 : a_1.eval (.tmp 33) = .tuple #[.pointer (some ⟨g_1, 0, none⟩), .int .i64 ((0 : Nat) : Int)] := (hO_1 33 (by decide)).trans (pe hs rfl rfl)
  have ta_1_36 : a_1.eval (.tmp 36) = .pointer (some ⟨g_1, 0, none⟩) := (hO_1 36 (by decide)).trans (pe hs rfl rfl)
  have ta_1_37 : a_1.eval (.tmp 37) = .int .i64 ((0 : Nat) : Int) := (hO_1 37 (by decide)).trans (pe hs rfl rfl)
  have ta_1_11 : a_1.eval (.tmp 11) = .pointer (some ⟨g_1, 0, none⟩) := (hO_1 11 (by decide)).trans (pe hs rfl rfl)
  have ta_1_12 : a_1.eval (.tmp 12) = .int .i64 ((0 : Nat) : Int) := (hO_1 12 (by decide)).trans (pe hs rfl rfl)
  have ta_1_39 : a_1.eval (.tmp 39) = .slice A_1 (32) (c_1) := (hO_1 39 (by decide)).trans (pe hs rfl rfl)
  have ta_1_40 : a_1.eval (.tmp 40) = .tuple #[.pointer (some ⟨g_2, 0, none⟩), .int .i64 ((0 : Nat) : Int)] := (hO_1 40 (by decide)).trans (pe hs rfl rfl)
  have ta_1_38 : a_1.eval (.tmp 38) = .tuple #[.pointer (some ⟨g_2, 0, none⟩), .int .i64 ((0 : Nat) : Int)] := (hO_1 38 (by decide)).trans (pe hs rfl rfl)
  have ta_1_41 : a_1.eval (.tmp 41) = .pointer (some ⟨g_2, 0, none⟩) := (hO_1 41 (by decide)).trans (pe hs rfl rfl)
  have ta_1_42 : a_1.eval (.tmp 42) = .int .i64 ((0 : Nat) : Int) := (hO_1 42 (by decide)).trans (pe hs rfl rfl)
  have ta_1_13 : a_1.eval (.tmp 13) = .pointer (some ⟨g_2, 0, none⟩) := (hO_1 13 (by decide)).trans (pe hs rfl rfl)
  have ta_1_14 : a_1.eval (.tmp 14) = .int .i64 ((0 : Nat) : Int) := (hO_1 14 (by decide)).trans (pe hs rfl rfl)
  have ta_1_43 : a_1.eval (.tmp 43) = .int .i64 ((0 : Nat) : Int) := (hO_1 43 (by decide)).trans (pe hs rfl rfl)
  have ta_1_44 : a_1.eval (.tmp 44) = .bool (false) := (hO_1 44 (by decide)).trans (pe hs rfl rfl)
  have ta_1_45 : a_1.eval (.tmp 45) = .bool (false) := (hO_1 45 (by decide)).trans (pe hs rfl rfl)
  have ta_1_46 : a_1.eval (.tmp 46) = .int .i64 ((0 : Nat) : Int) := (hO_1 46 (by decide)).trans (pe hs rfl rfl)
  have ta_1_47 : a_1.eval (.tmp 47) = .bool (false) := (hO_1 47 (by decide)).trans (pe hs rfl rfl)
  have ta_1_48 : a_1.eval (.tmp 48) = .bool (false) := (hO_1 48 (by decide)).trans (pe hs rfl rfl)
  have ta_1_49 : a_1.eval (.tmp 49) = .pointer (some ⟨g_1, 0, none⟩) := (hO_1 49 (by decide)).trans (pe hs rfl rfl)
  have ta_1_50 : a_1.eval (.tmp 50) = .pointer (some ⟨g_3, 0, none⟩) := (hO_1 50 (by decide)).trans (pe hs rfl rfl)
  have ta_1_51 : a_1.eval (.tmp 51) = .pointer (some ⟨g_2, 0, none⟩) := (hO_1 51 (by decide)).trans (pe hs rfl rfl)
  have ta_1_52 : a_1.eval (.tmp 52) = .pointer (some ⟨g_4, 0, none⟩) := (hO_1 52 (by decide)).trans (pe hs rfl rfl)
  have ta_1_15 : a_1.eval (.tmp 15) = .pointer (some ⟨g_3, 0, none⟩) := (hO_1 15 (by decide)).trans (pe hs rfl rfl)
  have ta_1_16 : a_1.eval (.tmp 16) = .pointer (some ⟨g_4, 0, none⟩) := (hO_1 16 (by decide)).trans (pe hs rfl rfl)
  have ta_1_54 : a_1.eval (.tmp 54) = .pointer (some ⟨g_3, 0, none⟩) := (hO_1 54 (by decide)).trans (pe hs rfl rfl)
  have ta_1_55 : a_1.eval (.tmp 55) = .int .i64 (z) := (hO_1 55 (by decide)).trans (pe hs rfl rfl)
  have ta_1_56 : a_1.eval (.tmp 56) = .int .u64 ((at64 z : Nat) : Int) := (hO_1 56 (by decide)).trans (pe hs rfl rfl)
  have ta_1_57 : a_1.eval (.tmp 57) = .int .u64 (((at64 z) % 50 : Nat) : Int) := (hO_1 57 (by decide)).trans (pe hs rfl rfl)
  have ta_1_58 : a_1.eval (.tmp 58) = .int .i64 (((at64 z) % 50 : Nat) : Int) := (hO_1 58 (by decide)).trans (pe hs rfl rfl)
  have ta_1_59 : a_1.eval (.tmp 59) = .int .i64 ((4097 + ((at64 z) % 50) : Nat) : Int) := (hO_1 59 (by decide)).trans (pe hs rfl rfl)
  have ta_1_60 : a_1.eval (.tmp 60) = .slice ((some ⟨g_5, 0, none⟩)) (4097 + ((at64 z) % 50)) (4097 + ((at64 z) % 50)) := (hO_1 60 (by decide)).trans (pe hs rfl rfl)
  have ta_1_61 : a_1.eval (.tmp 61) = .tuple #[.slice none (0) (0), .int .i64 ((7 : Nat) : Int)] := (hO_1 61 (by decide)).trans (pe hs rfl rfl)
  have ta_1_53 : a_1.eval (.tmp 53) = .tuple #[.slice none (0) (0), .int .i64 ((7 : Nat) : Int)] := (hO_1 53 (by decide)).trans (pe hs rfl rfl)
  have ta_1_62 : a_1.eval (.tmp 62) = .slice none (0) (0) := (hO_1 62 (by decide)).trans (pe hs rfl rfl)
  have ta_1_63 : a_1.eval (.tmp 63) = .int .i64 ((7 : Nat) : Int) := (hO_1 63 (by decide)).trans (pe hs rfl rfl)
  have ta_1_18 : a_1.eval (.tmp 18) = .int .i64 ((7 : Nat) : Int) := (hO_1 18 (by decide)).trans (pe hs rfl rfl)
  have ta_1_65 : a_1.eval (.tmp 65) = .pointer (some ⟨g_3, 0, none⟩) := (hO_1 65 (by decide)).trans (pe hs rfl rfl)
  have ta_1_66 : a_1.eval (.tmp 66) = .slice A1 (la) (c1) := (hO_1 66 (by decide)).trans (pe hs rfl rfl)
  have ta_1_67 : a_1.eval (.tmp 67) = .int .i64 ((nn : Nat) : Int) := (hO_1 67 (by decide)).trans (pe hs rfl rfl)
  have ta_1_68 : a_1.eval (.tmp 68) = .slice ((subA A1 0 c1)) (nn) (c1) := (hO_1 68 (by decide)).trans (pe hs rfl rfl)
  have ta_1_69 : a_1.eval (.tmp 69) = .tuple #[.slice A_2 (sizeN nn + 34) (c_2), .int .i64 ((0 : Nat) : Int)] := (hO_1 69 (by decide)).trans (pe hs rfl rfl)
  have ta_1_64 : a_1.eval (.tmp 64) = .tuple #[.slice A_2 (sizeN nn + 34) (c_2), .int .i64 ((0 : Nat) : Int)] := (hO_1 64 (by decide)).trans (pe hs rfl rfl)
  have ta_1_70 : a_1.eval (.tmp 70) = .slice A_2 (sizeN nn + 34) (c_2) := (hO_1 70 (by decide)).trans (pe hs rfl rfl)
  have ta_1_71 : a_1.eval (.tmp 71) = .int .i64 ((0 : Nat) : Int) := (hO_1 71 (by decide)).trans (pe hs rfl rfl)
  have ta_1_19 : a_1.eval (.tmp 19) = .slice A_2 (sizeN nn + 34) (c_2) := (hO_1 19 (by decide)).trans (pe hs rfl rfl)
  have ta_1_20 : a_1.eval (.tmp 20) = .int .i64 ((0 : Nat) : Int) := (hO_1 20 (by decide)).trans (pe hs rfl rfl)
  have ta_1_73 : a_1.eval (.tmp 73) = .pointer (some ⟨g_4, 0, none⟩) := (hO_1 73 (by decide)).trans (pe hs rfl rfl)
  have ta_1_74 : a_1.eval (.tmp 74) = .slice A2 (lb) (c2) := (hO_1 74 (by decide)).trans (pe hs rfl rfl)
  have ta_1_75 : a_1.eval (.tmp 75) = .int .i64 ((nn : Nat) : Int) := (hO_1 75 (by decide)).trans (pe hs rfl rfl)
  have ta_1_76 : a_1.eval (.tmp 76) = .slice ((subA A2 0 c2)) (nn) (c2) := (hO_1 76 (by decide)).trans (pe hs rfl rfl)
  have ta_1_77 : a_1.eval (.tmp 77) = .tuple #[.slice A_3 (sizeN nn + 34) (c_3), .int .i64 ((0 : Nat) : Int)] := (hO_1 77 (by decide)).trans (pe hs rfl rfl)
  have ta_1_72 : a_1.eval (.tmp 72) = .tuple #[.slice A_3 (sizeN nn + 34) (c_3), .int .i64 ((0 : Nat) : Int)] := (hO_1 72 (by decide)).trans (pe hs rfl rfl)
  have ta_1_78 : a_1.eval (.tmp 78) = .slice A_3 (sizeN nn + 34) (c_3) := (hO_1 78 (by decide)).trans (pe hs rfl rfl)
  have ta_1_79 : a_1.eval (.tmp 79) = .int .i64 ((0 : Nat) : Int) := (hO_1 79 (by decide)).trans (pe hs rfl rfl)
  have ta_1_21 : a_1.eval (.tmp 21) = .slice A_3 (sizeN nn + 34) (c_3) := (hO_1 21 (by decide)).trans (pe hs rfl rfl)
  have ta_1_22 : a_1.eval (.tmp 22) = .int .i64 ((0 : Nat) : Int) := (hO_1 22 (by decide)).trans (pe hs rfl rfl)
  clear t0 t1 t2 t3 hd
  replace ho_1 := ho_1.nx hb_8
  replace hW_3 := hW_3.nx hb_8
  replace ho_3 := ho_3.nx hb_8
  replace hW_4 := hW_4.nx hb_8
  replace ho_4 := ho_4.nx hb_8
  have HB_8 := below_from HB_7 hb_8
  have ta_1_80 : a_1.eval (.tmp 80) = .int .i64 ((7 : Nat) : Int) := hV_1 0 80 rfl rfl
  have ta_1_81 : a_1.eval (.tmp 81) = .bool (true) := hV_1 1 81 rfl rfl
  have ta_1_82 : a_1.eval (.tmp 82) = .bool (true) := hV_1 2 82 rfl rfl
  have ta_1_83 : a_1.eval (.tmp 83) = .int .i64 ((0 : Nat) : Int) := hV_1 3 83 rfl rfl
  have ta_1_84 : a_1.eval (.tmp 84) = .bool (true) := hV_1 4 84 rfl rfl
  have ta_1_85 : a_1.eval (.tmp 85) = .bool (true) := hV_1 5 85 rfl rfl
  have ta_1_86 : a_1.eval (.tmp 86) = .bool (true) := hV_1 6 86 rfl rfl
  have ta_1_87 : a_1.eval (.tmp 87) = .int .i64 ((0 : Nat) : Int) := hV_1 7 87 rfl rfl
  have ta_1_88 : a_1.eval (.tmp 88) = .bool (true) := hV_1 8 88 rfl rfl
  have ta_1_89 : a_1.eval (.tmp 89) = .bool (true) := hV_1 9 89 rfl rfl
  have ta_1_90 : a_1.eval (.tmp 90) = .bool (true) := hV_1 10 90 rfl rfl
  have ta_1_91 : a_1.eval (.tmp 91) = .slice A_2 (sizeN nn + 34) (c_2) := hV_1 11 91 rfl rfl
  have ta_1_92 : a_1.eval (.tmp 92) = .int .i64 ((sizeN nn + 34 : Nat) : Int) := hV_1 12 92 rfl rfl
  have ta_1_93 : a_1.eval (.tmp 93) = .slice A_3 (sizeN nn + 34) (c_3) := hV_1 13 93 rfl rfl
  have ta_1_94 : a_1.eval (.tmp 94) = .int .i64 ((sizeN nn + 34 : Nat) : Int) := hV_1 14 94 rfl rfl
  have ta_1_95 : a_1.eval (.tmp 95) = .bool (true) := hV_1 15 95 rfl rfl
  have ta_1_96 : a_1.eval (.tmp 96) = .bool (true) := hV_1 16 96 rfl rfl
  have ta_1_97 : a_1.eval (.tmp 97) = .bool (true) := hV_1 17 97 rfl rfl
  have ta_1_98 : a_1.eval (.tmp 98) = .slice A_2 (sizeN nn + 34) (c_2) := hV_1 18 98 rfl rfl
  have ta_1_99 : a_1.eval (.tmp 99) = .string (strB (recL (⟨padTo 32 ks, 0, everyN 3, 0⟩) (xa.take nn))) := hV_1 19 99 rfl rfl
  have ta_1_100 : a_1.eval (.tmp 100) = .slice A_3 (sizeN nn + 34) (c_3) := hV_1 20 100 rfl rfl
  have ta_1_101 : a_1.eval (.tmp 101) = .string (strB (recL (⟨padTo 32 ks, 0, everyN 3, 0⟩) (xb.take nn))) := hV_1 21 101 rfl rfl
  have ta_1_102 : a_1.eval (.tmp 102) = .bool (decide (strB (recL (⟨padTo 32 ks, 0, everyN 3, 0⟩) (xa.take nn)) = strB (recL (⟨padTo 32 ks, 0, everyN 3, 0⟩) (xb.take nn)))) := hV_1 22 102 rfl rfl
  have ta_1_103 : a_1.eval (.tmp 103) = .slice A1 (la) (c1) := hV_1 23 103 rfl rfl
  have ta_1_104 : a_1.eval (.tmp 104) = .int .i64 ((nn : Nat) : Int) := hV_1 24 104 rfl rfl
  have ta_1_105 : a_1.eval (.tmp 105) = .slice ((subA A1 0 c1)) (nn) (c1) := hV_1 25 105 rfl rfl
  have ta_1_106 : a_1.eval (.tmp 106) = .string (strB (xa.take nn)) := hV_1 26 106 rfl rfl
  have ta_1_107 : a_1.eval (.tmp 107) = .slice A2 (lb) (c2) := hV_1 27 107 rfl rfl
  have ta_1_108 : a_1.eval (.tmp 108) = .int .i64 ((nn : Nat) : Int) := hV_1 28 108 rfl rfl
  have ta_1_109 : a_1.eval (.tmp 109) = .slice ((subA A2 0 c2)) (nn) (c2) := hV_1 29 109 rfl rfl
  have ta_1_110 : a_1.eval (.tmp 110) = .string (strB (xb.take nn)) := hV_1 30 110 rfl rfl
  have ta_1_111 : a_1.eval (.tmp 111) = .bool (decide (strB (xa.take nn) = strB (xb.take nn))) := hV_1 31 111 rfl rfl
  clear hV_1 hO_1
  simp only [List.drop_succ_cons, List.drop_zero]
  refine op_valG (e := 97) (d := 112) (v := .bool (true)) rfl rfl (by kernel_rfl) ((pm rfl).trans ta_1_97) (o_eq (o_eqB rfl ((pm rfl).trans ta_1_102) ((pm rfl).trans ta_1_111) (fun _ => by kernel_rfl)) (by rw [hsame])) ?_
  refine op_val (d := 113) (v := .bool (true)) rfl rfl (o_pickT rfl ((pm rfl).trans ta_1_97) (pe hs_3 rfl rfl)) ?_
  refine op_val (d := 114) (v := .bool (true)) rfl rfl (o_move rfl (pe hs_3 rfl rfl)) ?_
  refine op_valG (e := 114) (d := 115) (v := .pointer (some ⟨g_3, 0, none⟩)) rfl rfl (by kernel_rfl) (pe hs_3 rfl rfl) (o_move rfl ((pm rfl).trans ta_1_15)) ?_
  refine op_callG (e := 114) (vs := #[.pointer (some ⟨g_3, 0, none⟩)]) rfl rfl (by kernel_rfl) (pe hs_3 rfl rfl) (exec_call Try.func39 (by kernel_rfl) (by kernel_rfl) _ rfl _ _ (args1 (pe hs_3 rfl rfl))) (WCount_any _ hW_3) (fun e_9 w_11 hR_10 => ?_)
  obtain ⟨rfl, rfl⟩ := hR_10
  refine ⟨_, rfl, ?_⟩
  refine op_valG (e := 114) (d := 117) (v := .bool (true)) rfl rfl (by kernel_rfl) (pe hs_3 rfl rfl) (o_eq (o_eql (m := 1) (n := 1) rfl (pe hs_3 rfl rfl) rfl) rfl) ?_
  refine op_val (d := 118) (v := .bool (true)) rfl rfl (o_pickT rfl (pe hs_3 rfl rfl) (pe hs_3 rfl rfl)) ?_
  refine op_val (d := 119) (v := .bool (true)) rfl rfl (o_move rfl (pe hs_3 rfl rfl)) ?_
  refine op_valG (e := 119) (d := 120) (v := .pointer (some ⟨g_4, 0, none⟩)) rfl rfl (by kernel_rfl) (pe hs_3 rfl rfl) (o_move rfl ((pm rfl).trans ta_1_16)) ?_
  refine op_callG (e := 119) (vs := #[.pointer (some ⟨g_4, 0, none⟩)]) rfl rfl (by kernel_rfl) (pe hs_3 rfl rfl) (exec_call Try.func39 (by kernel_rfl) (by kernel_rfl) _ rfl _ _ (args1 (pe hs_3 rfl rfl))) (WCount_any _ hW_4) (fun e_10 w_12 hR_11 => ?_)
  obtain ⟨rfl, rfl⟩ := hR_11
  refine ⟨_, rfl, ?_⟩
  refine op_valG (e := 119) (d := 122) (v := .bool (true)) rfl rfl (by kernel_rfl) (pe hs_3 rfl rfl) (o_eq (o_eql (m := 1) (n := 1) rfl (pe hs_3 rfl rfl) rfl) rfl) ?_
  refine op_val (d := 123) (v := .bool (true)) rfl rfl (o_pickT rfl (pe hs_3 rfl rfl) (pe hs_3 rfl rfl)) ?_
  refine op_val (d := 124) (v := .bool (true)) rfl rfl (o_move rfl (pe hs_3 rfl rfl)) ?_
  refine op_callG (e := 124) (vs := #[]) rfl rfl (by kernel_rfl) (pe hs_3 rfl rfl) (exec_call Try.func34 (by kernel_rfl) (by kernel_rfl) _ rfl _ _ (args0)) (awake12_any _) (fun e_11 w_13 hR_12 => ?_)
  obtain ⟨rfl, hb_12⟩ := hR_12
  replace ho_1 := ho_1.nx hb_12
  replace hW_3 := hW_3.nx hb_12
  replace ho_3 := ho_3.nx hb_12
  replace hW_4 := hW_4.nx hb_12
  replace ho_4 := ho_4.nx hb_12
  have HB_9 := below_from HB_8 hb_12
  refine ⟨_, rfl, ?_⟩
  refine op_val (d := 126) (v := .bool (true)) rfl rfl (o_pickT rfl (pe hs_3 rfl rfl) (pe hs_3 rfl rfl)) ?_
  refine op_val (d := 8) (v := .bool (true)) rfl rfl (o_assign rfl (pe hs_3 rfl rfl)) ?_
  refine x_nil ?_
  refine hK_14 _ _ ?_
  refine w2_ret ?_
  refine ret1 rfl hd_1 (pe hs_3 rfl rfl) ?_
  exact ⟨rfl, HB_9⟩
end Go.Proofs.Ytoiamaljkodlnaa
