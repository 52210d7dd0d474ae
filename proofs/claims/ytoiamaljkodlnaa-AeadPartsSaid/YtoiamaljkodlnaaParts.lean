/-
  WALKS: sapperlaw9.AeadParts.
-/
import Derived.Test.YtoiamaljkodlnaaApart
import Derived.Test.YtoiamaljkodlnaaOps7
namespace Go.Proofs.Ytoiamaljkodlnaa
open Go.RowKit
set_option linter.unusedVariables false
set_option linter.unusedSimpArgs false
set_option maxRecDepth 100000
attribute [local irreducible] wpList wpListIn putsR

theorem parts_mac (xs : List Nat) (q K : Nat) (hq : xs.length = q) (hK : K = (16 - q % 16) % 16) (hl : q ≤ 300) :
    (xs ++ List.replicate K 0) ++ [0, 0, 0, 0, 0, 0, 0, 0, q % 256, q / 2 ^ 8 % 256, 0, 0, 0, 0, 0, 0] = macIn [] xs := by
  have h1 : fillL ([] : List Nat) = [] := by decide
  have h2 : putL ([] : List Nat).length 8 = [0, 0, 0, 0, 0, 0, 0, 0] := by decide
  have h3 : putL q 8 = [q % 256, q / 2 ^ 8 % 256, 0, 0, 0, 0, 0, 0] := by
    simp only [putL, List.nil_append, List.cons_append, List.cons.injEq, and_true]
    clear hK
    refine ⟨?_, ?_, ?_, ?_, ?_, ?_, ?_, ?_⟩ <;> first | omega | (simp only [Nat.reduceMul, Nat.reducePow, Nat.div_one]; done) | (simp only [Nat.reduceMul, Nat.reducePow, Nat.div_one]; omega)
  unfold macIn
  rw [h1, h2, hq, h3, fillL, hq, hK]
  simp
set_option maxHeartbeats 1000000 in
theorem Parts_le {A0 A1 A2 : Option Addr} {c0 c1 c2 m k q : Nat} {ks ns bs : List Nat} (w : World) (h0 : Bs w A0 c0 ks) (h1 : Bs w A1 c1 ns) (h2 : Bs w A2 c2 bs) (hm : ks.length = m) (hk : ns.length = k) (hq : bs.length = q) :
    Calls Try.prog 6 #[.slice A0 (m) (c0), .slice A1 (k) (c1), .slice A2 (q) (c2)] w fun e w' => e = .returned (.bool true) ∧ Below w.heap.size w w' := by
  refine x_enter 111 Try.func6 rfl rfl (fun a hs hd ha0 => ?_)
  have t0 : a.eval (.tmp 0) = .slice A0 (m) (c0) := ha0 0 _ rfl
  have t1 : a.eval (.tmp 1) = .slice A1 (k) (c1) := ha0 1 _ rfl
  have t2 : a.eval (.tmp 2) = .slice A2 (q) (c2) := ha0 2 _ rfl
  clear ha0
  refine w2_seq (fun K_1 hK_1 => ?_)
  refine x_region (by kernel_rfl) ?_
  refine op_val (d := 6) (v := .bool (false)) rfl rfl (o_assign rfl rfl) ?_
  refine x_nil ?_
  refine hK_1 _ _ ?_
  refine w2_seq (fun K_2 hK_2 => ?_)
  refine w2_seq (fun K_3 hK_3 => ?_)
  refine x_region (by kernel_rfl) ?_
  refine op_val (d := 18) (v := .slice A2 (q) (c2)) rfl rfl (o_move rfl ((pm rfl).trans t2)) ?_
  refine op_val (d := 19) (v := .int .i64 ((q : Nat) : Int)) rfl rfl (o_len rfl (pe hs rfl rfl)) ?_
  refine op_val (d := 20) (v := .bool (decide (300 < q))) rfl rfl (o_gtr (m := q) (n := 300) rfl (pe hs rfl rfl) rfl) ?_
  refine x_nil ?_
  refine hK_3 _ _ ?_
  refine w2_split (pe hs rfl rfl) (fun h_1 => ?_) (fun h_1 => ?_)
  · simp only [decide_eq_true_eq, decide_eq_false_iff_not, Bool.not_eq_true', Bool.not_eq_false', Bool.not_true, Bool.not_false, Nat.not_lt, Nat.not_le] at h_1
    refine w2_seq (fun K_4 hK_4 => ?_)
    refine x_region (by kernel_rfl) ?_
    refine op_call (vs := #[]) rfl rfl (exec_call Try.func22 (by kernel_rfl) (by kernel_rfl) _ rfl _ _ (args0)) (awake_any _) (fun e_1 w_1 hR_1 => ?_)
    obtain ⟨rfl, hb_2⟩ := hR_1
    refine ⟨_, rfl, ?_⟩
    refine op_val (d := 6) (v := .bool (true)) rfl rfl (o_assign rfl (pe hs rfl rfl)) ?_
    refine x_nil ?_
    refine hK_4 _ _ ?_
    refine w2_ret ?_
    refine thn_ret ?_
    refine ret1 rfl hd (pe hs rfl rfl) ?_
    exact ⟨rfl, hb_2⟩
  · simp only [decide_eq_true_eq, decide_eq_false_iff_not, Bool.not_eq_true', Bool.not_eq_false', Bool.not_true, Bool.not_false, Nat.not_lt, Nat.not_le] at h_1
    have hl : q ≤ 300 := by omega
    refine w2_skip ?_
    refine hK_2 _ _ ?_
    refine w2_seq (fun K_5 hK_5 => ?_)
    refine x_region (by kernel_rfl) ?_
    refine op_val (d := 22) (v := .slice A0 (m) (c0)) rfl rfl (o_move rfl ((pm rfl).trans t0)) ?_
    refine op_call (vs := #[.slice A0 (m) (c0), .int .i64 ((32 : Nat) : Int)]) rfl rfl (exec_call Try.func23 (by kernel_rfl) (by kernel_rfl) _ rfl _ _ (args2 (pe hs rfl rfl) rfl)) (lbytes32 _ h0 hm) (fun e_2 w_2 hR_2 => ?_)
    obtain ⟨A_1, c_1, rfl, ho_1, hb_3⟩ := hR_2
    refine ⟨_, rfl, ?_⟩
    refine op_val (d := 24) (v := .slice A1 (k) (c1)) rfl rfl (o_move rfl ((pm rfl).trans t1)) ?_
    refine op_call (vs := #[.slice A1 (k) (c1), .int .i64 ((12 : Nat) : Int)]) rfl rfl (exec_call Try.func23 (by kernel_rfl) (by kernel_rfl) _ rfl _ _ (args2 (pe hs rfl rfl) rfl)) (lbytes12 _ (h1.below hb_3) hk) (fun e_3 w_3 hR_3 => ?_)
    obtain ⟨A_2, c_2, rfl, ho_2, hb_4⟩ := hR_3
    replace ho_2 := ho_2.mono hb_3.size
    replace ho_1 := ho_1.nx hb_4
    have HB_1 := below_from hb_3 hb_4
    refine ⟨_, rfl, ?_⟩
    refine op_val (d := 7) (v := .slice A_1 (32) (c_1)) rfl rfl (o_assign rfl (pe hs rfl rfl)) ?_
    refine op_val (d := 8) (v := .slice A_2 (12) (c_2)) rfl rfl (o_assign rfl (pe hs rfl rfl)) ?_
    refine x_nil ?_
    refine hK_5 _ _ ?_
    refine w2_seq (fun K_6 hK_6 => ?_)
    refine x_region (by kernel_rfl) ?_
    refine op_val (d := 27) (v := .slice A_1 (32) (c_1)) rfl rfl (o_move rfl (pe hs rfl rfl)) ?_
    refine op_val (d := 28) (v := .slice A_2 (12) (c_2)) rfl rfl (o_move rfl (pe hs rfl rfl)) ?_
    refine op_val (d := 29) (v := .slice A2 (q) (c2)) rfl rfl (o_move rfl ((pm rfl).trans t2)) ?_
    refine op_call (vs := #[.slice A_1 (32) (c_1), .slice A_2 (12) (c_2), .slice none (0) (0), .slice A2 (q) (c2)]) rfl rfl (exec_call Try.func24 (by kernel_rfl) (by kernel_rfl) _ rfl _ _ (args4 (pe hs rfl rfl) (pe hs rfl rfl) rfl (pe hs rfl rfl))) (Seal_full _ (ho_1).bs (ho_2).bs (Bs.nil _) (h2.below HB_1) (by simp only [padTo_length]) (by simp only [padTo_length]) (by simp only [List.length_nil]) hq rfl rfl (by omega) (by omega)) (fun e_4 w_4 hR_4 => ?_)
    obtain ⟨A_3, c_3, rfl, ho_3, hb_5⟩ := hR_4
    replace ho_3 := ho_3.mono HB_1.size
    replace ho_1 := ho_1.nx hb_5
    replace ho_2 := ho_2.nx hb_5
    have HB_2 := below_from HB_1 hb_5
    refine ⟨_, rfl, ?_⟩
    refine op_val (d := 26) (v := .tuple #[.slice A_3 (q + 16) (c_3), .int .i64 ((0 : Nat) : Int)]) rfl rfl (o_move rfl (pe hs rfl rfl)) ?_
    refine op_val (d := 31) (v := .slice A_3 (q + 16) (c_3)) rfl rfl (o_extract rfl (pe hs rfl rfl) rfl) ?_
    refine op_val (d := 32) (v := .int .i64 ((0 : Nat) : Int)) rfl rfl (o_extract rfl (pe hs rfl rfl) rfl) ?_
    refine op_val (d := 9) (v := .slice A_3 (q + 16) (c_3)) rfl rfl (o_assign rfl (pe hs rfl rfl)) ?_
    refine op_val (d := 10) (v := .int .i64 ((0 : Nat) : Int)) rfl rfl (o_assign rfl (pe hs rfl rfl)) ?_
    refine x_nil ?_
    refine hK_6 _ _ ?_
    refine w2_seq (fun K_7 hK_7 => ?_)
    refine x_region (by kernel_rfl) ?_
    refine op_val (d := 34) (v := .slice A_1 (32) (c_1)) rfl rfl (o_move rfl (pe hs rfl rfl)) ?_
    refine op_val (d := 35) (v := .slice A_2 (12) (c_2)) rfl rfl (o_move rfl (pe hs rfl rfl)) ?_
    refine op_val (d := 36) (v := .slice A2 (q) (c2)) rfl rfl (o_move rfl ((pm rfl).trans t2)) ?_
    refine op_call (vs := #[.slice A_1 (32) (c_1), .slice A_2 (12) (c_2), .int .u32 ((1 : Nat) : Int), .slice A2 (q) (c2)]) rfl rfl (exec_call Try.func31 (by kernel_rfl) (by kernel_rfl) _ rfl _ _ (args4 (pe hs rfl rfl) (pe hs rfl rfl) rfl (pe hs rfl rfl))) (Xor_full 1 _ (ho_1).bs (ho_2).bs (h2.below HB_2) (by simp only [padTo_length]) (by simp only [padTo_length]) hq (by omega) rfl rfl (by omega)) (fun e_5 w_5 hR_5 => ?_)
    obtain ⟨A_4, c_4, rfl, ho_4, hb_6⟩ := hR_5
    replace ho_4 := ho_4.mono HB_2.size
    replace ho_1 := ho_1.nx hb_6
    replace ho_2 := ho_2.nx hb_6
    replace ho_3 := ho_3.nx hb_6
    have HB_3 := below_from HB_2 hb_6
    refine ⟨_, rfl, ?_⟩
    refine op_val (d := 33) (v := .tuple #[.slice A_4 (q) (c_4), .int .i64 ((0 : Nat) : Int)]) rfl rfl (o_move rfl (pe hs rfl rfl)) ?_
    refine op_val (d := 38) (v := .slice A_4 (q) (c_4)) rfl rfl (o_extract rfl (pe hs rfl rfl) rfl) ?_
    refine op_val (d := 39) (v := .int .i64 ((0 : Nat) : Int)) rfl rfl (o_extract rfl (pe hs rfl rfl) rfl) ?_
    refine op_val (d := 11) (v := .slice A_4 (q) (c_4)) rfl rfl (o_assign rfl (pe hs rfl rfl)) ?_
    refine op_val (d := 12) (v := .int .i64 ((0 : Nat) : Int)) rfl rfl (o_assign rfl (pe hs rfl rfl)) ?_
    refine x_nil ?_
    refine hK_7 _ _ ?_
    refine w2_seq (fun K_8 hK_8 => ?_)
    refine x_region (by kernel_rfl) ?_
    refine op_val (d := 41) (v := .slice A_1 (32) (c_1)) rfl rfl (o_move rfl (pe hs rfl rfl)) ?_
    refine op_val (d := 42) (v := .slice A_2 (12) (c_2)) rfl rfl (o_move rfl (pe hs rfl rfl)) ?_
    refine op_call (vs := #[.slice A_1 (32) (c_1), .slice A_2 (12) (c_2), .int .u32 ((0 : Nat) : Int)]) rfl rfl (exec_call Try.func32 (by kernel_rfl) (by kernel_rfl) _ rfl _ _ (args3 (pe hs rfl rfl) (pe hs rfl rfl) rfl)) (Block_full 0 _ (ho_1).bs (ho_2).bs (by simp only [padTo_length]) (by simp only [padTo_length]) (by omega) rfl rfl) (fun e_6 w_6 hR_6 => ?_)
    obtain ⟨A_5, c_5, rfl, ho_5, hb_7⟩ := hR_6
    replace ho_5 := ho_5.mono HB_3.size
    replace ho_1 := ho_1.nx hb_7
    replace ho_2 := ho_2.nx hb_7
    replace ho_3 := ho_3.nx hb_7
    replace ho_4 := ho_4.nx hb_7
    have HB_4 := below_from HB_3 hb_7
    refine ⟨_, rfl, ?_⟩
    refine op_val (d := 40) (v := .tuple #[.slice A_5 (64) (c_5), .int .i64 ((0 : Nat) : Int)]) rfl rfl (o_move rfl (pe hs rfl rfl)) ?_
    refine op_val (d := 44) (v := .slice A_5 (64) (c_5)) rfl rfl (o_extract rfl (pe hs rfl rfl) rfl) ?_
    refine op_val (d := 45) (v := .int .i64 ((0 : Nat) : Int)) rfl rfl (o_extract rfl (pe hs rfl rfl) rfl) ?_
    refine op_val (d := 13) (v := .slice A_5 (64) (c_5)) rfl rfl (o_assign rfl (pe hs rfl rfl)) ?_
    refine op_val (d := 14) (v := .int .i64 ((0 : Nat) : Int)) rfl rfl (o_assign rfl (pe hs rfl rfl)) ?_
    refine x_nil ?_
    refine hK_8 _ _ ?_
    refine w2_seq (fun K_9 hK_9 => ?_)
    refine w2_seq (fun K_10 hK_10 => ?_)
    refine x_region (by kernel_rfl) ?_
    refine op_val (d := 46) (v := .int .i64 ((0 : Nat) : Int)) rfl rfl (o_move rfl (pe hs rfl rfl)) ?_
    refine op_val (d := 47) (v := .bool (false)) rfl rfl (o_eq (o_neq (m := 0) (n := 0) rfl (pe hs rfl rfl) rfl) rfl) ?_
    refine op_val (d := 48) (v := .bool (false)) rfl rfl (o_move rfl (pe hs rfl rfl)) ?_
    refine op_valG (e := 48) (d := 49) (v := .int .i64 ((0 : Nat) : Int)) rfl rfl (by kernel_rfl) (pe hs rfl rfl) (o_move rfl (pe hs rfl rfl)) ?_
    refine op_valG (e := 48) (d := 50) (v := .bool (false)) rfl rfl (by kernel_rfl) (pe hs rfl rfl) (o_eq (o_neq (m := 0) (n := 0) rfl (pe hs rfl rfl) rfl) rfl) ?_
    refine op_val (d := 51) (v := .bool (false)) rfl rfl (o_pickF rfl (pe hs rfl rfl) (pe hs rfl rfl)) ?_
    refine op_val (d := 52) (v := .bool (false)) rfl rfl (o_move rfl (pe hs rfl rfl)) ?_
    refine op_valG (e := 52) (d := 53) (v := .int .i64 ((0 : Nat) : Int)) rfl rfl (by kernel_rfl) (pe hs rfl rfl) (o_move rfl (pe hs rfl rfl)) ?_
    refine op_valG (e := 52) (d := 54) (v := .bool (false)) rfl rfl (by kernel_rfl) (pe hs rfl rfl) (o_eq (o_neq (m := 0) (n := 0) rfl (pe hs rfl rfl) rfl) rfl) ?_
    refine op_val (d := 55) (v := .bool (false)) rfl rfl (o_pickF rfl (pe hs rfl rfl) (pe hs rfl rfl)) ?_
    refine op_val (d := 56) (v := .bool (false)) rfl rfl (o_move rfl (pe hs rfl rfl)) ?_
    refine op_valG (e := 56) (d := 57) (v := .slice A_3 (q + 16) (c_3)) rfl rfl (by kernel_rfl) (pe hs rfl rfl) (o_move rfl (pe hs rfl rfl)) ?_
    refine op_valG (e := 56) (d := 58) (v := .int .i64 ((q + 16 : Nat) : Int)) rfl rfl (by kernel_rfl) (pe hs rfl rfl) (o_len rfl (pe hs rfl rfl)) ?_
    refine op_valG (e := 56) (d := 59) (v := .slice A2 (q) (c2)) rfl rfl (by kernel_rfl) (pe hs rfl rfl) (o_move rfl ((pm rfl).trans t2)) ?_
    refine op_valG (e := 56) (d := 60) (v := .int .i64 ((q : Nat) : Int)) rfl rfl (by kernel_rfl) (pe hs rfl rfl) (o_len rfl (pe hs rfl rfl)) ?_
    refine op_valG (e := 56) (d := 61) (v := .int .i64 ((q + 16 : Nat) : Int)) rfl rfl (by kernel_rfl) (pe hs rfl rfl) (o_add64 (m := q) (n := 16) rfl (pe hs rfl rfl) rfl (by omega)) ?_
    refine op_valG (e := 56) (d := 62) (v := .bool (false)) rfl rfl (by kernel_rfl) (pe hs rfl rfl) (o_eq (o_neq (m := (q + 16)) (n := (q + 16)) rfl (pe hs rfl rfl) (pe hs rfl rfl)) (by simp)) ?_
    refine op_val (d := 63) (v := .bool (false)) rfl rfl (o_pickF rfl (pe hs rfl rfl) (pe hs rfl rfl)) ?_
    refine op_val (d := 64) (v := .bool (false)) rfl rfl (o_move rfl (pe hs rfl rfl)) ?_
    refine op_valG (e := 64) (d := 65) (v := .slice A_5 (64) (c_5)) rfl rfl (by kernel_rfl) (pe hs rfl rfl) (o_move rfl (pe hs rfl rfl)) ?_
    refine op_valG (e := 64) (d := 66) (v := .int .i64 ((64 : Nat) : Int)) rfl rfl (by kernel_rfl) (pe hs rfl rfl) (o_len rfl (pe hs rfl rfl)) ?_
    refine op_valG (e := 64) (d := 67) (v := .bool (false)) rfl rfl (by kernel_rfl) (pe hs rfl rfl) (o_eq (o_neq (m := 64) (n := 64) rfl (pe hs rfl rfl) rfl) rfl) ?_
    refine op_val (d := 68) (v := .bool (false)) rfl rfl (o_pickF rfl (pe hs rfl rfl) (pe hs rfl rfl)) ?_
    refine x_nil ?_
    refine hK_10 _ _ ?_
    refine w2_condF (pe hs rfl rfl) ?_
    refine w2_skip ?_
    refine hK_9 _ _ ?_
    refine w2_seq (fun K_11 hK_11 => ?_)
    replace h0 := h0.below HB_4
    replace h1 := h1.below HB_4
    replace h2 := h2.below HB_4
    obtain ⟨wz, hwz⟩ : ∃ q : World, q = w := ⟨w, rfl⟩
    subst hwz
    obtain ⟨w, hw⟩ : ∃ q : World, q = w_6 := ⟨w_6, rfl⟩
    subst hw
    refine x_region (by kernel_rfl) ?_
    refine op_ex (d := 69) rfl rfl (o_build0  rfl  ) (fun v_1 w_7 hR_7 => ?_)
    obtain ⟨g_1, rfl, ho_6, hb_8⟩ := hR_7
    refine op_val (d := 70) (v := .slice A_4 (q) (c_4)) rfl rfl (o_move rfl (pe hs rfl rfl)) ?_
    refine op_ex (d := 71) rfl rfl (o_append rfl (pe hs rfl rfl) (pe hs rfl rfl) ho_6 ((ho_4.below hb_8)).bs (by rw [List.length_nil]) (by simp only [xorS_length, hq]) (by omega) hb_8.size) (fun v_2 w_8 hR_8 => ?_)
    obtain ⟨A_6, c_6, rfl, ho_7, hb_9, hg_1, hat_1⟩ := hR_8
    have HB_5 : Below w.heap.size w w_8 := (hb_8).trans hb_9
    clear hg_1 hat_1 ho_6
    refine op_val (d := 15) (v := .slice A_6 (0 + q) (c_6)) rfl rfl (o_assign rfl (pe hs rfl rfl)) ?_
    refine x_nil ?_
    refine hK_11 _ _ ?_
    refine w2_seq (fun K_12 hK_12 => ?_)
    refine w2_block (fun K_13 hK_13 => ?_)
    refine x_loop (fun nn aa ww => ∃ (K n1 c9 : Nat) (A9 : Option Addr), nn = (16 - (q + K) % 16) % 16 ∧ aa.tmps.size = 111 ∧ aa.defers = [] ∧ aa.eval (.tmp 0) = .slice A0 (m) (c0) ∧ aa.eval (.tmp 1) = .slice A1 (k) (c1) ∧ aa.eval (.tmp 2) = .slice A2 (q) (c2) ∧ aa.eval (.tmp 6) = .bool (false) ∧ aa.eval (.tmp 7) = .slice A_1 (32) (c_1) ∧ aa.eval (.tmp 8) = .slice A_2 (12) (c_2) ∧ aa.eval (.tmp 9) = .slice A_3 (q + 16) (c_3) ∧ aa.eval (.tmp 10) = .int .i64 ((0 : Nat) : Int) ∧ aa.eval (.tmp 11) = .slice A_4 (q) (c_4) ∧ aa.eval (.tmp 12) = .int .i64 ((0 : Nat) : Int) ∧ aa.eval (.tmp 13) = .slice A_5 (64) (c_5) ∧ aa.eval (.tmp 14) = .int .i64 ((0 : Nat) : Int) ∧ aa.eval (.tmp 15) = .slice A9 (n1) (c9) ∧ aa.eval (.tmp 18) = .slice A2 (q) (c2) ∧ aa.eval (.tmp 19) = .int .i64 ((q : Nat) : Int) ∧ aa.eval (.tmp 20) = .bool (decide (300 < q)) ∧ aa.eval (.tmp 22) = .slice A0 (m) (c0) ∧ aa.eval (.tmp 23) = .slice A_1 (32) (c_1) ∧ aa.eval (.tmp 24) = .slice A1 (k) (c1) ∧ aa.eval (.tmp 25) = .slice A_2 (12) (c_2) ∧ aa.eval (.tmp 26) = .tuple #[.slice A_3 (q + 16) (c_3), .int .i64 ((0 : Nat) : Int)] ∧ aa.eval (.tmp 27) = .slice A_1 (32) (c_1) ∧ aa.eval (.tmp 28) = .slice A_2 (12) (c_2) ∧ aa.eval (.tmp 29) = .slice A2 (q) (c2) ∧ aa.eval (.tmp 30) = .tuple #[.slice A_3 (q + 16) (c_3), .int .i64 ((0 : Nat) : Int)] ∧ aa.eval (.tmp 31) = .slice A_3 (q + 16) (c_3) ∧ aa.eval (.tmp 32) = .int .i64 ((0 : Nat) : Int) ∧ aa.eval (.tmp 33) = .tuple #[.slice A_4 (q) (c_4), .int .i64 ((0 : Nat) : Int)] ∧ aa.eval (.tmp 34) = .slice A_1 (32) (c_1) ∧ aa.eval (.tmp 35) = .slice A_2 (12) (c_2) ∧ aa.eval (.tmp 36) = .slice A2 (q) (c2) ∧ aa.eval (.tmp 37) = .tuple #[.slice A_4 (q) (c_4), .int .i64 ((0 : Nat) : Int)] ∧ aa.eval (.tmp 38) = .slice A_4 (q) (c_4) ∧ aa.eval (.tmp 39) = .int .i64 ((0 : Nat) : Int) ∧ aa.eval (.tmp 40) = .tuple #[.slice A_5 (64) (c_5), .int .i64 ((0 : Nat) : Int)] ∧ aa.eval (.tmp 41) = .slice A_1 (32) (c_1) ∧ aa.eval (.tmp 42) = .slice A_2 (12) (c_2) ∧ aa.eval (.tmp 43) = .tuple #[.slice A_5 (64) (c_5), .int .i64 ((0 : Nat) : Int)] ∧ aa.eval (.tmp 44) = .slice A_5 (64) (c_5) ∧ aa.eval (.tmp 45) = .int .i64 ((0 : Nat) : Int) ∧ aa.eval (.tmp 46) = .int .i64 ((0 : Nat) : Int) ∧ aa.eval (.tmp 47) = .bool (false) ∧ aa.eval (.tmp 48) = .bool (false) ∧ aa.eval (.tmp 49) = .int .i64 ((0 : Nat) : Int) ∧ aa.eval (.tmp 50) = .bool (false) ∧ aa.eval (.tmp 51) = .bool (false) ∧ aa.eval (.tmp 52) = .bool (false) ∧ aa.eval (.tmp 53) = .int .i64 ((0 : Nat) : Int) ∧ aa.eval (.tmp 54) = .bool (false) ∧ aa.eval (.tmp 55) = .bool (false) ∧ aa.eval (.tmp 56) = .bool (false) ∧ aa.eval (.tmp 57) = .slice A_3 (q + 16) (c_3) ∧ aa.eval (.tmp 58) = .int .i64 ((q + 16 : Nat) : Int) ∧ aa.eval (.tmp 59) = .slice A2 (q) (c2) ∧ aa.eval (.tmp 60) = .int .i64 ((q : Nat) : Int) ∧ aa.eval (.tmp 61) = .int .i64 ((q + 16 : Nat) : Int) ∧ aa.eval (.tmp 62) = .bool (false) ∧ aa.eval (.tmp 63) = .bool (false) ∧ aa.eval (.tmp 64) = .bool (false) ∧ aa.eval (.tmp 65) = .slice A_5 (64) (c_5) ∧ aa.eval (.tmp 66) = .int .i64 ((64 : Nat) : Int) ∧ aa.eval (.tmp 67) = .bool (false) ∧ aa.eval (.tmp 68) = .bool (false) ∧ aa.eval (.tmp 69) = .slice ((some ⟨g_1, 0, none⟩)) (0) (0) ∧ aa.eval (.tmp 70) = .slice A_4 (q) (c_4) ∧ aa.eval (.tmp 71) = .slice A_6 (0 + q) (c_6) ∧ K ≤ (16 - q % 16) % 16 ∧ n1 = q + K ∧ Own ww w.heap.size A9 c9 (xorS (padTo 32 ks) (padTo 12 ns) 1 bs ++ List.replicate K 0) ∧ Below w.heap.size w ww) ((16 - (q + 0) % 16) % 16) ?_ ?_
    · exact ⟨0, _, c_6, A_6, rfl, (by rw [putsR_size]; exact hs), (by rw [putsR_defers]; exact hd), ((pm rfl).trans t0), ((pm rfl).trans t1), ((pm rfl).trans t2), (pe hs rfl rfl), (pe hs rfl rfl), (pe hs rfl rfl), (pe hs rfl rfl), (pe hs rfl rfl), (pe hs rfl rfl), (pe hs rfl rfl), (pe hs rfl rfl), (pe hs rfl rfl), (pe hs rfl rfl), (pe hs rfl rfl), (pe hs rfl rfl), (pe hs rfl rfl), (pe hs rfl rfl), (pe hs rfl rfl), (pe hs rfl rfl), (pe hs rfl rfl), (pe hs rfl rfl), (pe hs rfl rfl), (pe hs rfl rfl), (pe hs rfl rfl), (pe hs rfl rfl), (pe hs rfl rfl), (pe hs rfl rfl), (pe hs rfl rfl), (pe hs rfl rfl), (pe hs rfl rfl), (pe hs rfl rfl), (pe hs rfl rfl), (pe hs rfl rfl), (pe hs rfl rfl), (pe hs rfl rfl), (pe hs rfl rfl), (pe hs rfl rfl), (pe hs rfl rfl), (pe hs rfl rfl), (pe hs rfl rfl), (pe hs rfl rfl), (pe hs rfl rfl), (pe hs rfl rfl), (pe hs rfl rfl), (pe hs rfl rfl), (pe hs rfl rfl), (pe hs rfl rfl), (pe hs rfl rfl), (pe hs rfl rfl), (pe hs rfl rfl), (pe hs rfl rfl), (pe hs rfl rfl), (pe hs rfl rfl), (pe hs rfl rfl), (pe hs rfl rfl), (pe hs rfl rfl), (pe hs rfl rfl), (pe hs rfl rfl), (pe hs rfl rfl), (pe hs rfl rfl), (pe hs rfl rfl), (pe hs rfl rfl), (pe hs rfl rfl), (pe hs rfl rfl), (pe hs rfl rfl), (pe hs rfl rfl), (by omega), (by omega), (by simpa using ho_7), HB_5⟩
    · skip
      clear t0 t1 t2 hd ho_7 HB_5
      rintro nna_1 a_1 w_9 ⟨K, n1, c9, A9, hm_1, hs_1, hd_1, ta_1_0, ta_1_1, ta_1_2, ta_1_6, ta_1_7, ta_1_8, ta_1_9, ta_1_10, ta_1_11, ta_1_12, ta_1_13, ta_1_14, ta_1_15, ta_1_18, ta_1_19, ta_1_20, ta_1_22, ta_1_23, ta_1_24, ta_1_25, ta_1_26, ta_1_27, ta_1_28, ta_1_29, ta_1_30, ta_1_31, ta_1_32, ta_1_33, ta_1_34, ta_1_35, ta_1_36, ta_1_37, ta_1_38, ta_1_39, ta_1_40, ta_1_41, ta_1_42, ta_1_43, ta_1_44, ta_1_45, ta_1_46, ta_1_47, ta_1_48, ta_1_49, ta_1_50, ta_1_51, ta_1_52, ta_1_53, ta_1_54, ta_1_55, ta_1_56, ta_1_57, ta_1_58, ta_1_59, ta_1_60, ta_1_61, ta_1_62, ta_1_63, ta_1_64, ta_1_65, ta_1_66, ta_1_67, ta_1_68, ta_1_69, ta_1_70, ta_1_71, hK, hn1, hO, HBL⟩ K_14 hK_14
      subst hm_1
      refine w2_seq (fun K_15 hK_15 => ?_)
      refine w2_seq (fun K_16 hK_16 => ?_)
      refine x_region (by kernel_rfl) ?_
      refine op_val (d := 72) (v := .slice A9 (n1) (c9)) rfl rfl (o_move rfl ((pm rfl).trans ta_1_15)) ?_
      refine op_val (d := 73) (v := .int .i64 ((n1 : Nat) : Int)) rfl rfl (o_len rfl (pe hs_1 rfl rfl)) ?_
      refine op_val (d := 74) (v := .int .i64 ((n1 % 16 : Nat) : Int)) rfl rfl (o_rem (m := n1) (n := 16) rfl (pe hs_1 rfl rfl) rfl (by omega) (IntWalk.i64_in _ (by omega))) ?_
      refine op_val (d := 75) (v := .bool (!decide ((n1 % 16) = 0))) rfl rfl (o_neq (m := (n1 % 16)) (n := 0) rfl (pe hs_1 rfl rfl) rfl) ?_
      refine x_nil ?_
      refine hK_16 _ _ ?_
      refine w2_split (pe hs_1 rfl rfl) (fun h_2 => ?_) (fun h_2 => ?_)
      · simp only [decide_eq_true_eq, decide_eq_false_iff_not, Bool.not_eq_true', Bool.not_eq_false', Bool.not_true, Bool.not_false, Nat.not_lt, Nat.not_le] at h_2
        have hne := h_2
        refine w2_skip ?_
        refine hK_15 _ _ ?_
        refine w2_block (fun K_17 hK_17 => ?_)
        refine x_region (by kernel_rfl) ?_
        refine op_val (d := 76) (v := .slice A9 (n1) (c9)) rfl rfl (o_move rfl ((pm rfl).trans ta_1_15)) ?_
        refine op_ex (d := 77) rfl rfl (o_build1 (m := 0) rfl rfl (by omega)) (fun v_3 w_10 hR_9 => ?_)
        obtain ⟨g_2, rfl, ho_8, hb_10⟩ := hR_9
        replace ho_8 := ho_8.mono HBL.size
        replace hO := hO.nx hb_10
        have HB_6 := below_from HBL hb_10
        refine op_ex (d := 78) rfl rfl (o_append rfl (pe hs_1 rfl rfl) (pe hs_1 rfl rfl) hO (ho_8).bs (by rw [List.length_append, List.length_replicate, xorS_length, hq, hn1]) (by simp only [List.length_cons, List.length_nil]) (by omega) HB_6.size) (fun v_4 w_11 hR_10 => ?_)
        obtain ⟨A_7, c_7, rfl, ho_9, hb_11, hg_2, hat_2⟩ := hR_10
        have HB_7 : Below w.heap.size w w_11 := (HB_6).trans hb_11
        clear hg_2 hat_2 hO
        refine op_val (d := 15) (v := .slice A_7 (n1 + 1) (c_7)) rfl rfl (o_assign rfl (pe hs_1 rfl rfl)) ?_
        refine x_nil ?_
        refine hK_17 _ _ ?_
        refine hK_14 _ _ _ ⟨K + 1, _, c_7, A_7, rfl, (by rw [putsR_size]; exact hs_1), (by rw [putsR_defers]; exact hd_1), ((pm rfl).trans ta_1_0), ((pm rfl).trans ta_1_1), ((pm rfl).trans ta_1_2), ((pm rfl).trans ta_1_6), ((pm rfl).trans ta_1_7), ((pm rfl).trans ta_1_8), ((pm rfl).trans ta_1_9), ((pm rfl).trans ta_1_10), ((pm rfl).trans ta_1_11), ((pm rfl).trans ta_1_12), ((pm rfl).trans ta_1_13), ((pm rfl).trans ta_1_14), (pe hs_1 rfl rfl), ((pm rfl).trans ta_1_18), ((pm rfl).trans ta_1_19), ((pm rfl).trans ta_1_20), ((pm rfl).trans ta_1_22), ((pm rfl).trans ta_1_23), ((pm rfl).trans ta_1_24), ((pm rfl).trans ta_1_25), ((pm rfl).trans ta_1_26), ((pm rfl).trans ta_1_27), ((pm rfl).trans ta_1_28), ((pm rfl).trans ta_1_29), ((pm rfl).trans ta_1_30), ((pm rfl).trans ta_1_31), ((pm rfl).trans ta_1_32), ((pm rfl).trans ta_1_33), ((pm rfl).trans ta_1_34), ((pm rfl).trans ta_1_35), ((pm rfl).trans ta_1_36), ((pm rfl).trans ta_1_37), ((pm rfl).trans ta_1_38), ((pm rfl).trans ta_1_39), ((pm rfl).trans ta_1_40), ((pm rfl).trans ta_1_41), ((pm rfl).trans ta_1_42), ((pm rfl).trans ta_1_43), ((pm rfl).trans ta_1_44), ((pm rfl).trans ta_1_45), ((pm rfl).trans ta_1_46), ((pm rfl).trans ta_1_47), ((pm rfl).trans ta_1_48), ((pm rfl).trans ta_1_49), ((pm rfl).trans ta_1_50), ((pm rfl).trans ta_1_51), ((pm rfl).trans ta_1_52), ((pm rfl).trans ta_1_53), ((pm rfl).trans ta_1_54), ((pm rfl).trans ta_1_55), ((pm rfl).trans ta_1_56), ((pm rfl).trans ta_1_57), ((pm rfl).trans ta_1_58), ((pm rfl).trans ta_1_59), ((pm rfl).trans ta_1_60), ((pm rfl).trans ta_1_61), ((pm rfl).trans ta_1_62), ((pm rfl).trans ta_1_63), ((pm rfl).trans ta_1_64), ((pm rfl).trans ta_1_65), ((pm rfl).trans ta_1_66), ((pm rfl).trans ta_1_67), ((pm rfl).trans ta_1_68), ((pm rfl).trans ta_1_69), ((pm rfl).trans ta_1_70), ((pm rfl).trans ta_1_71), (by omega), (by omega), (by rw [List.replicate_succ', ← List.append_assoc]; exact ho_9), HB_7⟩ ?_
        omega
      · simp only [decide_eq_true_eq, decide_eq_false_iff_not, Bool.not_eq_true', Bool.not_eq_false', Bool.not_true, Bool.not_false, Nat.not_lt, Nat.not_le] at h_2
        have hKe : K = (16 - q % 16) % 16 := by omega
        refine w2_exit ?_
        refine thn_exit ?_
        refine thn_exit ?_
        refine exb_hit ?_
        refine hK_13 _ _ ?_
        refine hK_12 _ _ ?_
        refine w2_seq (fun K_18 hK_18 => ?_)
        refine x_region (by kernel_rfl) ?_
        refine op_val (d := 79) (v := .slice A9 (n1) (c9)) rfl rfl (o_move rfl ((pm rfl).trans ta_1_15)) ?_
        refine op_val (d := 80) (v := .slice A2 (q) (c2)) rfl rfl (o_move rfl ((pm rfl).trans ta_1_2)) ?_
        refine op_val (d := 81) (v := .int .i64 ((q : Nat) : Int)) rfl rfl (o_len rfl (pe hs_1 rfl rfl)) ?_
        refine op_val (d := 82) (v := .int .u8 ((q % 256 : Nat) : Int)) rfl rfl (o_conv (m := q) (r := q % 256) rfl (pe hs_1 rfl rfl) ⟨.int .i64, fun _ => by kernel_rfl⟩ (fun _ => by kernel_rfl) (by rw [IntKind.wrap_u8]; omega)) ?_
        refine op_val (d := 83) (v := .slice A2 (q) (c2)) rfl rfl (o_move rfl ((pm rfl).trans ta_1_2)) ?_
        refine op_val (d := 84) (v := .int .i64 ((q : Nat) : Int)) rfl rfl (o_len rfl (pe hs_1 rfl rfl)) ?_
        refine op_val (d := 85) (v := .int .i64 ((q / 2 ^ 8 : Nat) : Int)) rfl rfl (o_shr (m := q) (n := 8) rfl (pe hs_1 rfl rfl) rfl (by decide)) ?_
        refine op_val (d := 86) (v := .int .u8 (((q / 2 ^ 8) % 256 : Nat) : Int)) rfl rfl (o_conv (m := (q / 2 ^ 8)) (r := (q / 2 ^ 8) % 256) rfl (pe hs_1 rfl rfl) ⟨.int .i64, fun _ => by kernel_rfl⟩ (fun _ => by kernel_rfl) (by rw [IntKind.wrap_u8]; omega)) ?_
        refine op_ex (d := 87) rfl rfl (o_build16 (m := q % 256) (n := (q / 2 ^ 8) % 256) rfl rfl (pe hs_1 rfl rfl) (pe hs_1 rfl rfl) (by omega) (by omega)) (fun v_5 w_12 hR_11 => ?_)
        obtain ⟨g_3, rfl, ho_10, hb_12⟩ := hR_11
        replace ho_10 := ho_10.mono HBL.size
        replace hO := hO.nx hb_12
        have HB_8 := below_from HBL hb_12
        refine op_ex (d := 88) rfl rfl (o_append rfl (pe hs_1 rfl rfl) (pe hs_1 rfl rfl) hO (ho_10).bs (by rw [List.length_append, List.length_replicate, xorS_length, hq, hn1]) (by simp only [List.length_cons, List.length_nil]) (by omega) HB_8.size) (fun v_6 w_13 hR_12 => ?_)
        obtain ⟨A_8, c_8, rfl, ho_11, hb_13, hg_3, hat_3⟩ := hR_12
        have HB_9 : Below w.heap.size w w_13 := (HB_8).trans hb_13
        clear hg_3 hat_3 hO
        refine op_val (d := 15) (v := .slice A_8 (n1 + 16) (c_8)) rfl rfl (o_assign rfl (pe hs_1 rfl rfl)) ?_
        refine x_nil ?_
        refine hK_18 _ _ ?_
        refine w2_seq (fun K_19 hK_19 => ?_)
        refine x_region (by kernel_rfl) ?_
        refine op_val (d := 90) (v := .slice A_5 (64) (c_5)) rfl rfl (o_move rfl ((pm rfl).trans ta_1_13)) ?_
        have hS_1 := Bs.sub ((ho_5.below HB_9)).bs (l := 0) (q := 32) (m := c_5) (by omega) (by have := ((ho_5.below HB_9)).bs.le; rw [blockL_length] at this; omega) (Nat.le_refl _)
        rw [subA_zero, List.drop_zero, Nat.sub_zero, Nat.sub_zero] at hS_1
        refine op_val (d := 91) (v := .slice A_5 (32) (c_5)) rfl rfl (o_eq (o_sliceH (h := 32) rfl (pe hs_1 rfl rfl) rfl (by have := ((ho_5.below HB_9)).bs.le; rw [blockL_length] at this; omega)) (by rw [subA_zero])) ?_
        refine op_val (d := 92) (v := .slice A_8 (n1 + 16) (c_8)) rfl rfl (o_move rfl (pe hs_1 rfl rfl)) ?_
        refine op_call (vs := #[.slice A_5 (32) (c_5), .slice A_8 (n1 + 16) (c_8)]) rfl rfl (exec_call Try.func33 (by kernel_rfl) (by kernel_rfl) _ rfl _ _ (args2 (pe hs_1 rfl rfl) (pe hs_1 rfl rfl))) (Tag_full _ hS_1 (ho_11).bs (by rw [List.length_take, blockL_length]; rfl) (by have e := xorS_length (padTo 32 ks) (padTo 12 ns) 1 bs; simp only [List.length_append, List.length_replicate, List.length_cons, List.length_nil]; omega) rfl (by omega)) (fun e_7 w_14 hR_13 => ?_)
        obtain ⟨A_9, c_9, rfl, ho_12, hb_14⟩ := hR_13
        replace ho_12 := ho_12.mono HB_9.size
        replace ho_11 := ho_11.nx hb_14
        replace hS_1 := hS_1.nx hb_14
        have HB_10 := below_from HB_9 hb_14
        refine ⟨_, rfl, ?_⟩
        refine op_val (d := 89) (v := .tuple #[.slice A_9 (16) (c_9), .int .i64 ((0 : Nat) : Int)]) rfl rfl (o_move rfl (pe hs_1 rfl rfl)) ?_
        refine op_val (d := 94) (v := .slice A_9 (16) (c_9)) rfl rfl (o_extract rfl (pe hs_1 rfl rfl) rfl) ?_
        refine op_val (d := 95) (v := .int .i64 ((0 : Nat) : Int)) rfl rfl (o_extract rfl (pe hs_1 rfl rfl) rfl) ?_
        refine op_val (d := 16) (v := .slice A_9 (16) (c_9)) rfl rfl (o_assign rfl (pe hs_1 rfl rfl)) ?_
        refine op_val (d := 17) (v := .int .i64 ((0 : Nat) : Int)) rfl rfl (o_assign rfl (pe hs_1 rfl rfl)) ?_
        refine x_nil ?_
        refine hK_19 _ _ ?_
        refine w2_seq (fun K_20 hK_20 => ?_)
        refine x_region (by kernel_rfl) ?_
        refine op_val (d := 96) (v := .int .i64 ((0 : Nat) : Int)) rfl rfl (o_move rfl (pe hs_1 rfl rfl)) ?_
        refine op_val (d := 97) (v := .bool (true)) rfl rfl (o_eq (o_eql (m := 0) (n := 0) rfl (pe hs_1 rfl rfl) rfl) rfl) ?_
        refine op_val (d := 98) (v := .bool (true)) rfl rfl (o_move rfl (pe hs_1 rfl rfl)) ?_
        refine op_valG (e := 98) (d := 99) (v := .slice A_3 (q + 16) (c_3)) rfl rfl (by kernel_rfl) (pe hs_1 rfl rfl) (o_move rfl ((pm rfl).trans ta_1_9)) ?_
        refine op_valG (e := 98) (d := 100) (v := .string (strB (sealL (padTo 32 ks) (padTo 12 ns) ([]) bs))) rfl rfl (by kernel_rfl) (pe hs_1 rfl rfl) (o_str rfl (pe hs_1 rfl rfl) ((ho_3.below HB_10)).bs (by simp only [sealL_length, hq])) ?_
        refine op_valG (e := 98) (d := 101) (v := .slice A_4 (q) (c_4)) rfl rfl (by kernel_rfl) (pe hs_1 rfl rfl) (o_move rfl ((pm rfl).trans ta_1_11)) ?_
        refine op_valG (e := 98) (d := 102) (v := .string (strB (xorS (padTo 32 ks) (padTo 12 ns) 1 bs))) rfl rfl (by kernel_rfl) (pe hs_1 rfl rfl) (o_str rfl (pe hs_1 rfl rfl) ((ho_4.below HB_10)).bs (by simp only [xorS_length, hq])) ?_
        refine op_valG (e := 98) (d := 103) (v := .slice A_9 (16) (c_9)) rfl rfl (by kernel_rfl) (pe hs_1 rfl rfl) (o_move rfl (pe hs_1 rfl rfl)) ?_
        refine op_valG (e := 98) (d := 104) (v := .string (strB (tagL ((blockL (padTo 32 ks) (padTo 12 ns) 0).take 32) ((xorS (padTo 32 ks) (padTo 12 ns) 1 bs ++ List.replicate K 0) ++ ([0, 0, 0, 0, 0, 0, 0, 0, q % 256, (q / 2 ^ 8) % 256, 0, 0, 0, 0, 0, 0]))))) rfl rfl (by kernel_rfl) (pe hs_1 rfl rfl) (o_str rfl (pe hs_1 rfl rfl) (ho_12).bs (by simp only [tagL_length])) ?_
        refine op_valG (e := 98) (d := 105) (v := .string ((strB (xorS (padTo 32 ks) (padTo 12 ns) 1 bs)) ++ (strB (tagL ((blockL (padTo 32 ks) (padTo 12 ns) 0).take 32) ((xorS (padTo 32 ks) (padTo 12 ns) 1 bs ++ List.replicate K 0) ++ ([0, 0, 0, 0, 0, 0, 0, 0, q % 256, (q / 2 ^ 8) % 256, 0, 0, 0, 0, 0, 0])))))) rfl rfl (by kernel_rfl) (pe hs_1 rfl rfl) (o_addS rfl (pe hs_1 rfl rfl) (pe hs_1 rfl rfl) (by rw [← strB_append]; simp [strB, ByteArray.size, xorS_length, tagL_length, hq]; omega)) ?_
        refine op_valG (e := 98) (d := 106) (v := .bool (true)) rfl rfl (by kernel_rfl) (pe hs_1 rfl rfl) (o_eqS rfl (pe hs_1 rfl rfl) (pe hs_1 rfl rfl) (by rw [parts_mac _ q K (by rw [xorS_length, hq]) hKe hl]; exact strB_append _ _)) ?_
        refine op_val (d := 107) (v := .bool (true)) rfl rfl (o_pickT rfl (pe hs_1 rfl rfl) (pe hs_1 rfl rfl)) ?_
        refine op_val (d := 108) (v := .bool (true)) rfl rfl (o_move rfl (pe hs_1 rfl rfl)) ?_
        refine op_callG (e := 108) (vs := #[]) rfl rfl (by kernel_rfl) (pe hs_1 rfl rfl) (exec_call Try.func22 (by kernel_rfl) (by kernel_rfl) _ rfl _ _ (args0)) (awake_any _) (fun e_8 w_15 hR_14 => ?_)
        obtain ⟨rfl, hb_16⟩ := hR_14
        replace ho_11 := ho_11.nx hb_16
        replace hS_1 := hS_1.nx hb_16
        replace ho_12 := ho_12.nx hb_16
        have HB_11 := below_from HB_10 hb_16
        refine ⟨_, rfl, ?_⟩
        refine op_val (d := 110) (v := .bool (true)) rfl rfl (o_pickT rfl (pe hs_1 rfl rfl) (pe hs_1 rfl rfl)) ?_
        refine op_val (d := 6) (v := .bool (true)) rfl rfl (o_assign rfl (pe hs_1 rfl rfl)) ?_
        refine x_nil ?_
        refine hK_20 _ _ ?_
        refine w2_ret ?_
        refine ret1 rfl hd_1 (pe hs_1 rfl rfl) ?_
        exact ⟨rfl, below_from HB_4 HB_11⟩
end Go.Proofs.Ytoiamaljkodlnaa
