/-
  WALKS: package pad.
-/
import Derived.Test.YtoiamaljkodlnaaOps8
namespace Go.Proofs.Ytoiamaljkodlnaa
open Go.RowKit
set_option linter.unusedVariables false
set_option linter.unusedSimpArgs false
set_option maxRecDepth 100000
attribute [local irreducible] wpList wpListIn putsR

/-- The size that a body of so many bytes is filled up to: how often 64 is doubled. -/
def padK (n : Nat) : Nat := if n + 2 ≤ 64 then 0 else if n + 2 ≤ 128 then 1 else if n + 2 ≤ 256 then 2 else if n + 2 ≤ 512 then 3 else if n + 2 ≤ 1024 then 4 else if n + 2 ≤ 2048 then 5 else if n + 2 ≤ 4096 then 6 else 7
theorem padK_fit (n : Nat) (hn : n ≤ 4096) : n + 2 ≤ 64 * 2 ^ padK n := by
  unfold padK
  repeat' split
  all_goals omega
theorem padK_le (n : Nat) : padK n ≤ 7 := by
  unfold padK
  repeat' split
  all_goals omega
theorem padK_min (n K : Nat) (h : K < padK n) : 64 * 2 ^ K < n + 2 := by
  have h7 := padK_le n
  have hK : K = 0 ∨ K = 1 ∨ K = 2 ∨ K = 3 ∨ K = 4 ∨ K = 5 ∨ K = 6 := by omega
  unfold padK at h
  rcases hK with rfl | rfl | rfl | rfl | rfl | rfl | rfl <;> (repeat' split at h) <;> omega
theorem padK_lt (n K : Nat) (hn : n ≤ 4096) (hK : K ≤ padK n) (h : 64 * 2 ^ K < n + 2) : K < padK n ∧ 64 * 2 ^ K ≤ 8192 := by
  have h1 := padK_fit n hn
  refine ⟨?_, by omega⟩
  rcases Nat.lt_or_ge K (padK n) with h2 | h2
  · exact h2
  · obtain rfl : K = padK n := by omega
    omega
def sizeN (n : Nat) : Nat := if 4096 < n then 0 else 64 * 2 ^ padK n
theorem Size_le (n : Nat) (w : World) (hn : n ≤ 4096) :
    Calls Try.prog 44 #[.int .i64 ((n : Nat) : Int)] w fun e w' => e = .returned (.int .i64 ((sizeN n : Nat) : Int)) ∧ w = w' := by
  refine x_enter 17 Try.func44 rfl rfl (fun a hs hd ha0 => ?_)
  have t0 : a.eval (.tmp 0) = .int .i64 ((n : Nat) : Int) := ha0 0 _ rfl
  clear ha0
  refine w2_seq (fun K_1 hK_1 => ?_)
  refine x_region (by kernel_rfl) ?_
  refine op_val (d := 2) (v := .int .i64 ((0 : Nat) : Int)) rfl rfl (o_assign rfl rfl) ?_
  refine x_nil ?_
  refine hK_1 _ _ ?_
  refine w2_seq (fun K_2 hK_2 => ?_)
  refine w2_seq (fun K_3 hK_3 => ?_)
  refine x_region (by kernel_rfl) ?_
  refine op_val (d := 4) (v := .int .i64 ((n : Nat) : Int)) rfl rfl (o_move rfl ((pm rfl).trans t0)) ?_
  refine op_val (d := 5) (v := .bool (false)) rfl rfl (o_eq (o_lss (m := n) (n := 0) rfl (pe hs rfl rfl) rfl) (by rw [decide_eq_false (by omega)])) ?_
  refine op_val (d := 6) (v := .bool (false)) rfl rfl (o_move rfl (pe hs rfl rfl)) ?_
  refine op_valG (e := 6) (d := 7) (v := .int .i64 ((n : Nat) : Int)) rfl rfl (by kernel_rfl) (pe hs rfl rfl) (o_move rfl ((pm rfl).trans t0)) ?_
  refine op_valG (e := 6) (d := 8) (v := .bool (false)) rfl rfl (by kernel_rfl) (pe hs rfl rfl) (o_eq (o_gtr (m := n) (n := 4096) rfl (pe hs rfl rfl) rfl) (by rw [decide_eq_false (by omega)])) ?_
  refine op_val (d := 9) (v := .bool (false)) rfl rfl (o_pickF rfl (pe hs rfl rfl) (pe hs rfl rfl)) ?_
  refine x_nil ?_
  refine hK_3 _ _ ?_
  refine w2_condF (pe hs rfl rfl) ?_
  refine w2_skip ?_
  refine hK_2 _ _ ?_
  refine w2_seq (fun K_4 hK_4 => ?_)
  refine x_region (by kernel_rfl) ?_
  refine op_val (d := 3) (v := .int .i64 ((64 : Nat) : Int)) rfl rfl (o_assign rfl rfl) ?_
  refine x_nil ?_
  refine hK_4 _ _ ?_
  refine w2_seq (fun K_5 hK_5 => ?_)
  refine w2_block (fun K_6 hK_6 => ?_)
  refine x_loop (fun nn aa ww => ∃ (K : Nat), nn = padK n - K ∧ aa.tmps.size = 17 ∧ aa.defers = [] ∧ aa.eval (.tmp 0) = .int .i64 ((n : Nat) : Int) ∧ aa.eval (.tmp 2) = .int .i64 ((0 : Nat) : Int) ∧ aa.eval (.tmp 3) = .int .i64 ((64 * 2 ^ K : Nat) : Int) ∧ aa.eval (.tmp 4) = .int .i64 ((n : Nat) : Int) ∧ aa.eval (.tmp 5) = .bool (false) ∧ aa.eval (.tmp 6) = .bool (false) ∧ aa.eval (.tmp 7) = .int .i64 ((n : Nat) : Int) ∧ aa.eval (.tmp 8) = .bool (false) ∧ aa.eval (.tmp 9) = .bool (false) ∧ K ≤ padK n ∧ w = ww) (padK n - 0) ?_ ?_
  · exact ⟨0, rfl, (by rw [putsR_size]; exact hs), (by rw [putsR_defers]; exact hd), ((pm rfl).trans t0), (pe hs rfl rfl), (pe hs rfl rfl), (pe hs rfl rfl), (pe hs rfl rfl), (pe hs rfl rfl), (pe hs rfl rfl), (pe hs rfl rfl), (pe hs rfl rfl), Nat.zero_le _, rfl⟩
  · skip
    clear t0 hd
    rintro nna_1 a_1 w_1 ⟨K, hm_1, hs_1, hd_1, ta_1_0, ta_1_2, ta_1_3, ta_1_4, ta_1_5, ta_1_6, ta_1_7, ta_1_8, ta_1_9, hK, hW⟩ K_7 hK_7
    subst hm_1
    refine w2_seq (fun K_8 hK_8 => ?_)
    refine w2_seq (fun K_9 hK_9 => ?_)
    refine x_region (by kernel_rfl) ?_
    refine op_val (d := 10) (v := .int .i64 ((64 * 2 ^ K : Nat) : Int)) rfl rfl (o_move rfl ((pm rfl).trans ta_1_3)) ?_
    refine op_val (d := 11) (v := .int .i64 ((n : Nat) : Int)) rfl rfl (o_move rfl ((pm rfl).trans ta_1_0)) ?_
    refine op_val (d := 12) (v := .int .i64 ((n + 2 : Nat) : Int)) rfl rfl (o_add64 (m := n) (n := 2) rfl (pe hs_1 rfl rfl) rfl (by omega)) ?_
    refine op_val (d := 13) (v := .bool (decide ((64 * 2 ^ K) < (n + 2)))) rfl rfl (o_lss (m := (64 * 2 ^ K)) (n := (n + 2)) rfl (pe hs_1 rfl rfl) (pe hs_1 rfl rfl)) ?_
    refine x_nil ?_
    refine hK_9 _ _ ?_
    refine w2_split (pe hs_1 rfl rfl) (fun h_1 => ?_) (fun h_1 => ?_)
    · simp only [decide_eq_true_eq, decide_eq_false_iff_not, Bool.not_eq_true', Bool.not_eq_false', Bool.not_true, Bool.not_false, Nat.not_lt, Nat.not_le] at h_1
      have hlt : 64 * 2 ^ K < n + 2 := h_1
      obtain ⟨hk, hk2⟩ := padK_lt n K hn hK hlt
      refine w2_skip ?_
      refine hK_8 _ _ ?_
      refine w2_block (fun K_10 hK_10 => ?_)
      refine x_region (by kernel_rfl) ?_
      refine op_val (d := 14) (v := .int .i64 ((64 * 2 ^ K : Nat) : Int)) rfl rfl (o_move rfl ((pm rfl).trans ta_1_3)) ?_
      refine op_val (d := 15) (v := .int .i64 ((64 * 2 ^ (K + 1) : Nat) : Int)) rfl rfl (o_eq (o_mul64 (m := (64 * 2 ^ K)) (n := 2) rfl (pe hs_1 rfl rfl) rfl (by omega)) (by rw [Nat.pow_succ, Nat.mul_assoc])) ?_
      refine op_val (d := 3) (v := .int .i64 ((64 * 2 ^ (K + 1) : Nat) : Int)) rfl rfl (o_assign rfl (pe hs_1 rfl rfl)) ?_
      refine x_nil ?_
      refine hK_10 _ _ ?_
      refine hK_7 _ _ _ ⟨K + 1, rfl, (by rw [putsR_size]; exact hs_1), (by rw [putsR_defers]; exact hd_1), ((pm rfl).trans ta_1_0), ((pm rfl).trans ta_1_2), (pe hs_1 rfl rfl), ((pm rfl).trans ta_1_4), ((pm rfl).trans ta_1_5), ((pm rfl).trans ta_1_6), ((pm rfl).trans ta_1_7), ((pm rfl).trans ta_1_8), ((pm rfl).trans ta_1_9), (by omega), hW⟩ ?_
      omega
    · simp only [decide_eq_true_eq, decide_eq_false_iff_not, Bool.not_eq_true', Bool.not_eq_false', Bool.not_true, Bool.not_false, Nat.not_lt, Nat.not_le] at h_1
      have hge : n + 2 ≤ 64 * 2 ^ K := h_1
      have hKe : K = padK n := by rcases Nat.lt_or_ge K (padK n) with h9 | h9; (have := padK_min n K h9; omega); omega
      refine w2_exit ?_
      refine thn_exit ?_
      refine thn_exit ?_
      refine exb_hit ?_
      refine hK_6 _ _ ?_
      refine hK_5 _ _ ?_
      refine w2_seq (fun K_11 hK_11 => ?_)
      refine x_region (by kernel_rfl) ?_
      refine op_val (d := 16) (v := .int .i64 ((64 * 2 ^ K : Nat) : Int)) rfl rfl (o_move rfl ((pm rfl).trans ta_1_3)) ?_
      refine op_val (d := 2) (v := .int .i64 ((64 * 2 ^ K : Nat) : Int)) rfl rfl (o_assign rfl (pe hs_1 rfl rfl)) ?_
      refine x_nil ?_
      refine hK_11 _ _ ?_
      refine w2_ret ?_
      refine ret1 rfl hd_1 (pe hs_1 rfl rfl) ?_
      exact ⟨by unfold sizeN; rw [if_neg (by omega), hKe], hW⟩
theorem Size_gt (n : Nat) (w : World) (hn : 4096 < n) :
    Calls Try.prog 44 #[.int .i64 ((n : Nat) : Int)] w fun e w' => e = .returned (.int .i64 0) ∧ w = w' := by
  refine x_enter 17 Try.func44 rfl rfl (fun a hs hd ha0 => ?_)
  have t0 : a.eval (.tmp 0) = .int .i64 ((n : Nat) : Int) := ha0 0 _ rfl
  clear ha0
  refine w2_seq (fun K_1 hK_1 => ?_)
  refine x_region (by kernel_rfl) ?_
  refine op_val (d := 2) (v := .int .i64 ((0 : Nat) : Int)) rfl rfl (o_assign rfl rfl) ?_
  refine x_nil ?_
  refine hK_1 _ _ ?_
  refine w2_seq (fun K_2 hK_2 => ?_)
  refine w2_seq (fun K_3 hK_3 => ?_)
  refine x_region (by kernel_rfl) ?_
  refine op_val (d := 4) (v := .int .i64 ((n : Nat) : Int)) rfl rfl (o_move rfl ((pm rfl).trans t0)) ?_
  refine op_val (d := 5) (v := .bool (false)) rfl rfl (o_eq (o_lss (m := n) (n := 0) rfl (pe hs rfl rfl) rfl) (by rw [decide_eq_false (by omega)])) ?_
  refine op_val (d := 6) (v := .bool (false)) rfl rfl (o_move rfl (pe hs rfl rfl)) ?_
  refine op_valG (e := 6) (d := 7) (v := .int .i64 ((n : Nat) : Int)) rfl rfl (by kernel_rfl) (pe hs rfl rfl) (o_move rfl ((pm rfl).trans t0)) ?_
  refine op_valG (e := 6) (d := 8) (v := .bool (true)) rfl rfl (by kernel_rfl) (pe hs rfl rfl) (o_eq (o_gtr (m := n) (n := 4096) rfl (pe hs rfl rfl) rfl) (by rw [decide_eq_true hn])) ?_
  refine op_val (d := 9) (v := .bool (true)) rfl rfl (o_pickF rfl (pe hs rfl rfl) (pe hs rfl rfl)) ?_
  refine x_nil ?_
  refine hK_3 _ _ ?_
  refine w2_condT (pe hs rfl rfl) ?_
  refine w2_seq (fun K_4 hK_4 => ?_)
  refine x_region (by kernel_rfl) ?_
  refine op_val (d := 2) (v := .int .i64 ((0 : Nat) : Int)) rfl rfl (o_assign rfl rfl) ?_
  refine x_nil ?_
  refine hK_4 _ _ ?_
  refine w2_ret ?_
  refine thn_ret ?_
  refine ret1 rfl hd (pe hs rfl rfl) ?_
  exact ⟨rfl, rfl⟩
theorem Size_any (n : Nat) (w : World) : Calls Try.prog 44 #[.int .i64 (n : Int)] w fun e w' => e = .returned (.int .i64 ((sizeN n : Nat) : Int)) ∧ w = w' := by
  by_cases h : 4096 < n
  · have h1 := Size_gt n w h
    unfold sizeN
    rw [if_pos h]
    exact h1
  · exact Size_le n w (by omega)
end Go.Proofs.Ytoiamaljkodlnaa
