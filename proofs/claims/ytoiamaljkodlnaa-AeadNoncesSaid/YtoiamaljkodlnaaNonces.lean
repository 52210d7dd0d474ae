/-
  WALKS: sapperlaw9.AeadNonces.
-/
import Derived.Test.YtoiamaljkodlnaaAwake9
namespace Go.Proofs.Ytoiamaljkodlnaa
open Go.RowKit
set_option linter.unusedVariables false
set_option linter.unusedSimpArgs false
set_option maxRecDepth 100000
attribute [local irreducible] wpList wpListIn putsR

/-- The number read off its highest K bytes. -/
def backN (n K : Nat) : Nat := n / 256 ^ (8 - K)
theorem putL_getD (n : Nat) : ∀ (m j : Nat), j < m → (putL n m).getD j 0 = n / 256 ^ j % 256 := by
  intro m
  induction m with
  | zero => intro j h; omega
  | succ m ih =>
    intro j h
    rw [putL, List.getD_eq_getElem?_getD]
    by_cases hk : j < m
    · rw [List.getElem?_append_left (by rw [putL_length]; omega), ← List.getD_eq_getElem?_getD, ih j hk]
    · obtain rfl : j = m := by omega
      rw [List.getElem?_append_right (by rw [putL_length]; omega), putL_length, Nat.sub_self, Nat.pow_mul]
      rfl
theorem nonce8 (n i : Nat) : (nonceL n).getD i 0 < 256 := by
  rw [List.getD_eq_getElem?_getD]
  by_cases h : i < (nonceL n).length
  · rw [List.getElem?_eq_getElem h]; exact nonceL_lt n _ (List.getElem_mem h)
  · rw [List.getElem?_eq_none (by omega)]; decide
theorem backN_step (n K : Nat) (hn : n < 18446744073709551616) (hK : K < 8) : backN n K * 2 ^ 8 % 18446744073709551616 ||| (nonceL n).getD (11 - K) 0 = backN n (K + 1) := by
  have h1 : (nonceL n).getD (11 - K) 0 = n / 256 ^ (7 - K) % 256 := by
    unfold nonceL
    rw [List.getD_eq_getElem?_getD, List.getElem?_append_right (by simp; omega), ← List.getD_eq_getElem?_getD, List.length_replicate, show 11 - K - 4 = 7 - K by omega, putL_getD n 8 _ (by omega)]
  have h2 : backN n K = n / 256 ^ (7 - K) / 256 := by
    unfold backN
    rw [show 8 - K = (7 - K) + 1 by omega, Nat.pow_succ, Nat.div_div_eq_div_mul]
  have h3 : backN n (K + 1) = n / 256 ^ (7 - K) := by
    unfold backN
    rw [show 8 - (K + 1) = 7 - K by omega]
  have h4 : n / 256 ^ (7 - K) ≤ n := Nat.div_le_self _ _
  rw [h1, h2, h3]
  generalize n / 256 ^ (7 - K) = q at h4
  rw [Nat.mod_eq_of_lt (by omega), Nat.mul_comm, Nat.two_pow_add_eq_or_of_lt (by omega : q % 256 < 2 ^ 8)  (q / 256) |>.symm]
  omega
set_option maxHeartbeats 1000000 in
theorem Nonces_any (n : Nat) (w : World) (hn : n < 18446744073709551616) :
    Calls Try.prog 7 #[.int .u64 ((n : Nat) : Int)] w fun e w' => e = .returned (.bool true) ∧ Below w.heap.size w w' := by
  refine x_enter 47 Try.func7 rfl rfl (fun a hs hd ha0 => ?_)
  have t0 : a.eval (.tmp 0) = .int .u64 ((n : Nat) : Int) := ha0 0 _ rfl
  clear ha0
  refine w2_seq (fun K_1 hK_1 => ?_)
  refine x_region (by kernel_rfl) ?_
  refine op_val (d := 2) (v := .bool (false)) rfl rfl (o_assign rfl rfl) ?_
  refine x_nil ?_
  refine hK_1 _ _ ?_
  refine w2_seq (fun K_2 hK_2 => ?_)
  refine x_region (by kernel_rfl) ?_
  refine op_val (d := 6) (v := .int .u64 ((n : Nat) : Int)) rfl rfl (o_move rfl ((pm rfl).trans t0)) ?_
  refine op_call (vs := #[.int .u64 ((n : Nat) : Int)]) rfl rfl (exec_call Try.func26 (by kernel_rfl) (by kernel_rfl) _ rfl _ _ (args1 (pe hs rfl rfl))) (Nonce_any n _ (by omega)) (fun e_1 w_1 hR_1 => ?_)
  obtain ⟨A_1, c_1, rfl, ho_1, hb_1⟩ := hR_1
  refine ⟨_, rfl, ?_⟩
  refine op_val (d := 3) (v := .slice A_1 (12) (c_1)) rfl rfl (o_assign rfl (pe hs rfl rfl)) ?_
  refine x_nil ?_
  refine hK_2 _ _ ?_
  refine w2_seq (fun K_3 hK_3 => ?_)
  refine w2_seq (fun K_4 hK_4 => ?_)
  refine x_drawn 18 [fun _ v => v = .slice A_1 (12) (c_1), fun _ v => v = .int .i64 ((12 : Nat) : Int), fun _ v => v = .bool (false), fun _ v => v = .bool (false), fun _ v => v = .slice A_1 (12) (c_1), fun _ v => v = .pointer (atA A_1 (0)), fun _ v => v = .int .u8 ((0 : Nat) : Int), fun _ v => v = .slice A_1 (12) (c_1), fun _ v => v = .pointer (atA A_1 (1)), fun _ v => v = .int .u8 ((0 : Nat) : Int), fun _ v => v = .int .u8 ((0 : Nat) : Int), fun _ v => v = .slice A_1 (12) (c_1), fun _ v => v = .pointer (atA A_1 (2)), fun _ v => v = .int .u8 ((0 : Nat) : Int), fun _ v => v = .int .u8 ((0 : Nat) : Int), fun _ v => v = .slice A_1 (12) (c_1), fun _ v => v = .pointer (atA A_1 (3)), fun _ v => v = .int .u8 ((0 : Nat) : Int)] [8, 9, 10, 11, 12, 13, 14, 15, 16, 17, 18, 19, 20, 21, 22, 23, 24, 25] hs hd (by kernel_rfl) (by kernel_rfl) (by kernel_rfl) (by kernel_rfl) (by kernel_rfl) ⟨stLit, stLit, stLit, stLit, stLit, stLit, stLit, stLit, stLit, stLit, stLit, stLit, stLit, stLit, stLit, stLit, stLit, stLit, trivial⟩ ⟨(step_ok rfl (fun a' w' hb' hO hD => by
      have d_1 : a'.eval (.tmp 3) = .slice A_1 (12) (c_1) := (hO 3 (by decide)).trans (pe hs rfl rfl)
      exact .inl ⟨_, _, (o_move rfl d_1), rfl, Below.refl _ _⟩)),
(step_ok rfl (fun a' w' hb' hO hD => by
      have d_2 : a'.eval (.tmp 8) = .slice A_1 (12) (c_1) := hD 0 8 (by kernel_rfl) rfl
      exact .inl ⟨_, _, (o_len rfl d_2), rfl, Below.refl _ _⟩)),
(step_ok rfl (fun a' w' hb' hO hD => by
      have d_3 : a'.eval (.tmp 9) = .int .i64 ((12 : Nat) : Int) := hD 1 9 (by kernel_rfl) rfl
      exact .inl ⟨_, _, (o_eq (o_neq (m := 12) (n := 12) rfl d_3 rfl) rfl), rfl, Below.refl _ _⟩)),
(step_ok rfl (fun a' w' hb' hO hD => by
      have d_4 : a'.eval (.tmp 10) = .bool (false) := hD 2 10 (by kernel_rfl) rfl
      exact .inl ⟨_, _, (o_move rfl d_4), rfl, Below.refl _ _⟩)),
(step_yes 3 false 11 rfl rfl (by kernel_rfl) (fun _ _ h => h) (fun a' w' hb' hO hD => by
      have d_5 : a'.eval (.tmp 3) = .slice A_1 (12) (c_1) := (hO 3 (by decide)).trans (pe hs rfl rfl)
      exact .inl ⟨_, _, (o_move rfl d_5), rfl, Below.refl _ _⟩)),
(step_yes 3 false 11 rfl rfl (by kernel_rfl) (fun _ _ h => h) (fun a' w' hb' hO hD => by
      have d_6 : a'.eval (.tmp 12) = .slice A_1 (12) (c_1) := hD 4 12 (by kernel_rfl) rfl
      exact .inl ⟨_, _, (o_ix (k := 0) rfl d_6 rfl (by omega) (((ho_1.nx hb')).bs.some (by rw [nonceL_length]; omega))), rfl, Below.refl _ _⟩)),
(step_yes 3 false 11 rfl rfl (by kernel_rfl) (fun _ _ h => h) (fun a' w' hb' hO hD => by
      have d_7 : a'.eval (.tmp 13) = .pointer (atA A_1 (0)) := hD 5 13 (by kernel_rfl) rfl
      exact .inl ⟨_, _, (o_ld8 rfl d_7 ((ho_1.nx hb')).bs (by rw [nonceL_length]; omega) rfl), rfl, Below.refl _ _⟩)),
(step_yes 3 false 11 rfl rfl (by kernel_rfl) (fun _ _ h => h) (fun a' w' hb' hO hD => by
      have d_8 : a'.eval (.tmp 3) = .slice A_1 (12) (c_1) := (hO 3 (by decide)).trans (pe hs rfl rfl)
      exact .inl ⟨_, _, (o_move rfl d_8), rfl, Below.refl _ _⟩)),
(step_yes 3 false 11 rfl rfl (by kernel_rfl) (fun _ _ h => h) (fun a' w' hb' hO hD => by
      have d_9 : a'.eval (.tmp 15) = .slice A_1 (12) (c_1) := hD 7 15 (by kernel_rfl) rfl
      exact .inl ⟨_, _, (o_ix (k := 1) rfl d_9 rfl (by omega) (((ho_1.nx hb')).bs.some (by rw [nonceL_length]; omega))), rfl, Below.refl _ _⟩)),
(step_yes 3 false 11 rfl rfl (by kernel_rfl) (fun _ _ h => h) (fun a' w' hb' hO hD => by
      have d_10 : a'.eval (.tmp 16) = .pointer (atA A_1 (1)) := hD 8 16 (by kernel_rfl) rfl
      exact .inl ⟨_, _, (o_ld8 rfl d_10 ((ho_1.nx hb')).bs (by rw [nonceL_length]; omega) rfl), rfl, Below.refl _ _⟩)),
(step_yes 3 false 11 rfl rfl (by kernel_rfl) (fun _ _ h => h) (fun a' w' hb' hO hD => by
      have d_11 : a'.eval (.tmp 14) = .int .u8 ((0 : Nat) : Int) := hD 6 14 (by kernel_rfl) rfl
      have d_12 : a'.eval (.tmp 17) = .int .u8 ((0 : Nat) : Int) := hD 9 17 (by kernel_rfl) rfl
      have e0 : (.int .u8 ((0 ||| 0 : Nat) : Int) : Value) = .int .u8 ((0 : Nat) : Int) := rfl
      exact .inl ⟨_, _, (o_bits (m := 0) (n := 0) (0 ||| 0) rfl d_11 d_12 (by decide) (u8_or_nat _ _ (by omega) (by omega))), e0, Below.refl _ _⟩)),
(step_yes 3 false 11 rfl rfl (by kernel_rfl) (fun _ _ h => h) (fun a' w' hb' hO hD => by
      have d_13 : a'.eval (.tmp 3) = .slice A_1 (12) (c_1) := (hO 3 (by decide)).trans (pe hs rfl rfl)
      exact .inl ⟨_, _, (o_move rfl d_13), rfl, Below.refl _ _⟩)),
(step_yes 3 false 11 rfl rfl (by kernel_rfl) (fun _ _ h => h) (fun a' w' hb' hO hD => by
      have d_14 : a'.eval (.tmp 19) = .slice A_1 (12) (c_1) := hD 11 19 (by kernel_rfl) rfl
      exact .inl ⟨_, _, (o_ix (k := 2) rfl d_14 rfl (by omega) (((ho_1.nx hb')).bs.some (by rw [nonceL_length]; omega))), rfl, Below.refl _ _⟩)),
(step_yes 3 false 11 rfl rfl (by kernel_rfl) (fun _ _ h => h) (fun a' w' hb' hO hD => by
      have d_15 : a'.eval (.tmp 20) = .pointer (atA A_1 (2)) := hD 12 20 (by kernel_rfl) rfl
      exact .inl ⟨_, _, (o_ld8 rfl d_15 ((ho_1.nx hb')).bs (by rw [nonceL_length]; omega) rfl), rfl, Below.refl _ _⟩)),
(step_yes 3 false 11 rfl rfl (by kernel_rfl) (fun _ _ h => h) (fun a' w' hb' hO hD => by
      have d_16 : a'.eval (.tmp 18) = .int .u8 ((0 : Nat) : Int) := hD 10 18 (by kernel_rfl) rfl
      have d_17 : a'.eval (.tmp 21) = .int .u8 ((0 : Nat) : Int) := hD 13 21 (by kernel_rfl) rfl
      have e0 : (.int .u8 ((0 ||| 0 : Nat) : Int) : Value) = .int .u8 ((0 : Nat) : Int) := rfl
      exact .inl ⟨_, _, (o_bits (m := 0) (n := 0) (0 ||| 0) rfl d_16 d_17 (by decide) (u8_or_nat _ _ (by omega) (by omega))), e0, Below.refl _ _⟩)),
(step_yes 3 false 11 rfl rfl (by kernel_rfl) (fun _ _ h => h) (fun a' w' hb' hO hD => by
      have d_18 : a'.eval (.tmp 3) = .slice A_1 (12) (c_1) := (hO 3 (by decide)).trans (pe hs rfl rfl)
      exact .inl ⟨_, _, (o_move rfl d_18), rfl, Below.refl _ _⟩)),
(step_yes 3 false 11 rfl rfl (by kernel_rfl) (fun _ _ h => h) (fun a' w' hb' hO hD => by
      have d_19 : a'.eval (.tmp 23) = .slice A_1 (12) (c_1) := hD 15 23 (by kernel_rfl) rfl
      exact .inl ⟨_, _, (o_ix (k := 3) rfl d_19 rfl (by omega) (((ho_1.nx hb')).bs.some (by rw [nonceL_length]; omega))), rfl, Below.refl _ _⟩)),
(step_yes 3 false 11 rfl rfl (by kernel_rfl) (fun _ _ h => h) (fun a' w' hb' hO hD => by
      have d_20 : a'.eval (.tmp 24) = .pointer (atA A_1 (3)) := hD 16 24 (by kernel_rfl) rfl
      exact .inl ⟨_, _, (o_ld8 rfl d_20 ((ho_1.nx hb')).bs (by rw [nonceL_length]; omega) rfl), rfl, Below.refl _ _⟩)), trivial⟩ (fun a_1 w_2 hs_1 hd_1 hb_2 hO_1 hV_1 => ?_)
  have ta_1_0 : a_1.eval (.tmp 0) = .int .u64 ((n : Nat) : Int) := (hO_1 0 (by decide)).trans ((pm rfl).trans t0)
  have ta_1_2 : a_1.eval (.tmp 2) = .bool (false) := (hO_1 2 (by decide)).trans (pe hs rfl rfl)
  have ta_1_6 : a_1.eval (.tmp 6) = .int .u64 ((n : Nat) : Int) := (hO_1 6 (by decide)).trans (pe hs rfl rfl)
  have ta_1_7 : a_1.eval (.tmp 7) = .slice A_1 (12) (c_1) := (hO_1 7 (by decide)).trans (pe hs rfl rfl)
  have ta_1_3 : a_1.eval (.tmp 3) = .slice A_1 (12) (c_1) := (hO_1 3 (by decide)).trans (pe hs rfl rfl)
  clear t0 hd
  replace ho_1 := ho_1.nx hb_2
  have HB_1 := below_from hb_1 hb_2
  have ta_1_8 : a_1.eval (.tmp 8) = .slice A_1 (12) (c_1) := hV_1 0 8 rfl rfl
  have ta_1_9 : a_1.eval (.tmp 9) = .int .i64 ((12 : Nat) : Int) := hV_1 1 9 rfl rfl
  have ta_1_10 : a_1.eval (.tmp 10) = .bool (false) := hV_1 2 10 rfl rfl
  have ta_1_11 : a_1.eval (.tmp 11) = .bool (false) := hV_1 3 11 rfl rfl
  have ta_1_12 : a_1.eval (.tmp 12) = .slice A_1 (12) (c_1) := hV_1 4 12 rfl rfl
  have ta_1_13 : a_1.eval (.tmp 13) = .pointer (atA A_1 (0)) := hV_1 5 13 rfl rfl
  have ta_1_14 : a_1.eval (.tmp 14) = .int .u8 ((0 : Nat) : Int) := hV_1 6 14 rfl rfl
  have ta_1_15 : a_1.eval (.tmp 15) = .slice A_1 (12) (c_1) := hV_1 7 15 rfl rfl
  have ta_1_16 : a_1.eval (.tmp 16) = .pointer (atA A_1 (1)) := hV_1 8 16 rfl rfl
  have ta_1_17 : a_1.eval (.tmp 17) = .int .u8 ((0 : Nat) : Int) := hV_1 9 17 rfl rfl
  have ta_1_18 : a_1.eval (.tmp 18) = .int .u8 ((0 : Nat) : Int) := hV_1 10 18 rfl rfl
  have ta_1_19 : a_1.eval (.tmp 19) = .slice A_1 (12) (c_1) := hV_1 11 19 rfl rfl
  have ta_1_20 : a_1.eval (.tmp 20) = .pointer (atA A_1 (2)) := hV_1 12 20 rfl rfl
  have ta_1_21 : a_1.eval (.tmp 21) = .int .u8 ((0 : Nat) : Int) := hV_1 13 21 rfl rfl
  have ta_1_22 : a_1.eval (.tmp 22) = .int .u8 ((0 : Nat) : Int) := hV_1 14 22 rfl rfl
  have ta_1_23 : a_1.eval (.tmp 23) = .slice A_1 (12) (c_1) := hV_1 15 23 rfl rfl
  have ta_1_24 : a_1.eval (.tmp 24) = .pointer (atA A_1 (3)) := hV_1 16 24 rfl rfl
  have ta_1_25 : a_1.eval (.tmp 25) = .int .u8 ((0 : Nat) : Int) := hV_1 17 25 rfl rfl
  clear hV_1 hO_1
  simp only [List.drop_succ_cons, List.drop_zero]
  refine op_valG (e := 11) (d := 26) (v := .int .u8 ((0 : Nat) : Int)) rfl rfl (by kernel_rfl) ((pm rfl).trans ta_1_11) (o_eq (o_bits (m := 0) (n := 0) (0 ||| 0) rfl ((pm rfl).trans ta_1_22) ((pm rfl).trans ta_1_25) (by decide) (u8_or_nat _ _ (by omega) (by omega))) rfl) ?_
  refine op_valG (e := 11) (d := 27) (v := .bool (false)) rfl rfl (by kernel_rfl) ((pm rfl).trans ta_1_11) (o_eq (o_neq (m := 0) (n := 0) rfl (pe hs_1 rfl rfl) rfl) rfl) ?_
  refine op_val (d := 28) (v := .bool (false)) rfl rfl (o_pickF rfl ((pm rfl).trans ta_1_11) (pe hs_1 rfl rfl)) ?_
  refine x_nil ?_
  refine hK_4 _ _ ?_
  refine w2_condF (pe hs_1 rfl rfl) ?_
  refine w2_skip ?_
  refine hK_3 _ _ ?_
  refine w2_seq (fun K_5 hK_5 => ?_)
  refine x_region (by kernel_rfl) ?_
  refine op_val (d := 4) (v := .int .u64 ((backN n 0 : Nat) : Int)) rfl rfl (o_eq (o_assign rfl rfl) (show Value.int .u64 ((0 : Nat) : Int) = .int .u64 ((backN n 0 : Nat) : Int) by unfold backN; rw [Nat.div_eq_of_lt (by simpa using hn)])) ?_
  refine x_nil ?_
  refine hK_5 _ _ ?_
  refine w2_seq (fun K_6 hK_6 => ?_)
  refine w2_seq (fun K_7 hK_7 => ?_)
  refine x_region (by kernel_rfl) ?_
  refine op_val (d := 5) (v := .int .i64 ((11 - 0 : Nat) : Int)) rfl rfl (o_eq (o_assign rfl rfl) rfl) ?_
  refine x_nil ?_
  refine hK_7 _ _ ?_
  refine w2_block (fun K_8 hK_8 => ?_)
  refine x_loop (fun nn aa ww => ∃ (K c1 : Nat) (A1 : Option Addr), nn = 8 - K ∧ aa.tmps.size = 47 ∧ aa.defers = [] ∧ aa.eval (.tmp 0) = .int .u64 ((n : Nat) : Int) ∧ aa.eval (.tmp 2) = .bool (false) ∧ aa.eval (.tmp 3) = .slice A1 (12) (c1) ∧ aa.eval (.tmp 4) = .int .u64 ((backN n K : Nat) : Int) ∧ aa.eval (.tmp 5) = .int .i64 ((11 - K : Nat) : Int) ∧ aa.eval (.tmp 6) = .int .u64 ((n : Nat) : Int) ∧ aa.eval (.tmp 7) = .slice A_1 (12) (c_1) ∧ aa.eval (.tmp 8) = .slice A_1 (12) (c_1) ∧ aa.eval (.tmp 9) = .int .i64 ((12 : Nat) : Int) ∧ aa.eval (.tmp 10) = .bool (false) ∧ aa.eval (.tmp 11) = .bool (false) ∧ aa.eval (.tmp 12) = .slice A_1 (12) (c_1) ∧ aa.eval (.tmp 13) = .pointer (atA A_1 (0)) ∧ aa.eval (.tmp 14) = .int .u8 ((0 : Nat) : Int) ∧ aa.eval (.tmp 15) = .slice A_1 (12) (c_1) ∧ aa.eval (.tmp 16) = .pointer (atA A_1 (1)) ∧ aa.eval (.tmp 17) = .int .u8 ((0 : Nat) : Int) ∧ aa.eval (.tmp 18) = .int .u8 ((0 : Nat) : Int) ∧ aa.eval (.tmp 19) = .slice A_1 (12) (c_1) ∧ aa.eval (.tmp 20) = .pointer (atA A_1 (2)) ∧ aa.eval (.tmp 21) = .int .u8 ((0 : Nat) : Int) ∧ aa.eval (.tmp 22) = .int .u8 ((0 : Nat) : Int) ∧ aa.eval (.tmp 23) = .slice A_1 (12) (c_1) ∧ aa.eval (.tmp 24) = .pointer (atA A_1 (3)) ∧ aa.eval (.tmp 25) = .int .u8 ((0 : Nat) : Int) ∧ aa.eval (.tmp 26) = .int .u8 ((0 : Nat) : Int) ∧ aa.eval (.tmp 27) = .bool (false) ∧ aa.eval (.tmp 28) = .bool (false) ∧ K ≤ 8 ∧ Own ww w.heap.size A1 c1 (nonceL n) ∧ Below w.heap.size w ww) (8) ?_ ?_
  · exact ⟨0, c_1, A_1, rfl, (by rw [putsR_size]; exact hs_1), (by rw [putsR_defers]; exact hd_1), ((pm rfl).trans ta_1_0), ((pm rfl).trans ta_1_2), ((pm rfl).trans ta_1_3), (pe hs_1 rfl rfl), (pe hs_1 rfl rfl), ((pm rfl).trans ta_1_6), ((pm rfl).trans ta_1_7), ((pm rfl).trans ta_1_8), ((pm rfl).trans ta_1_9), ((pm rfl).trans ta_1_10), ((pm rfl).trans ta_1_11), ((pm rfl).trans ta_1_12), ((pm rfl).trans ta_1_13), ((pm rfl).trans ta_1_14), ((pm rfl).trans ta_1_15), ((pm rfl).trans ta_1_16), ((pm rfl).trans ta_1_17), ((pm rfl).trans ta_1_18), ((pm rfl).trans ta_1_19), ((pm rfl).trans ta_1_20), ((pm rfl).trans ta_1_21), ((pm rfl).trans ta_1_22), ((pm rfl).trans ta_1_23), ((pm rfl).trans ta_1_24), ((pm rfl).trans ta_1_25), (pe hs_1 rfl rfl), (pe hs_1 rfl rfl), (pe hs_1 rfl rfl), (by omega), ho_1, HB_1⟩
  · skip
    clear ta_1_0 ta_1_2 ta_1_6 ta_1_7 ta_1_3 ta_1_8 ta_1_9 ta_1_10 ta_1_11 ta_1_12 ta_1_13 ta_1_14 ta_1_15 ta_1_16 ta_1_17 ta_1_18 ta_1_19 ta_1_20 ta_1_21 ta_1_22 ta_1_23 ta_1_24 ta_1_25 hd_1 ho_1 HB_1
    rintro nna_2 a_2 w_3 ⟨K, c1, A1, hm_1, hs_2, hd_2, ta_2_0, ta_2_2, ta_2_3, ta_2_4, ta_2_5, ta_2_6, ta_2_7, ta_2_8, ta_2_9, ta_2_10, ta_2_11, ta_2_12, ta_2_13, ta_2_14, ta_2_15, ta_2_16, ta_2_17, ta_2_18, ta_2_19, ta_2_20, ta_2_21, ta_2_22, ta_2_23, ta_2_24, ta_2_25, ta_2_26, ta_2_27, ta_2_28, hK, hO, HBL⟩ K_9 hK_9
    subst hm_1
    refine w2_seq (fun K_10 hK_10 => ?_)
    refine w2_seq (fun K_11 hK_11 => ?_)
    refine x_region (by kernel_rfl) ?_
    refine op_val (d := 29) (v := .int .i64 ((11 - K : Nat) : Int)) rfl rfl (o_move rfl ((pm rfl).trans ta_2_5)) ?_
    refine op_val (d := 30) (v := .bool (decide (4 ≤ (11 - K)))) rfl rfl (o_geq (m := (11 - K)) (n := 4) rfl (pe hs_2 rfl rfl) rfl) ?_
    refine x_nil ?_
    refine hK_11 _ _ ?_
    refine w2_split (pe hs_2 rfl rfl) (fun h_1 => ?_) (fun h_1 => ?_)
    · simp only [decide_eq_true_eq, decide_eq_false_iff_not, Bool.not_eq_true', Bool.not_eq_false', Bool.not_true, Bool.not_false, Nat.not_lt, Nat.not_le] at h_1
      have hlt : 4 ≤ 11 - K := h_1
      have hb8 := nonce8 n (11 - K)
      refine w2_skip ?_
      refine hK_10 _ _ ?_
      refine w2_seq (fun K_12 hK_12 => ?_)
      refine w2_block (fun K_13 hK_13 => ?_)
      refine x_region (by kernel_rfl) ?_
      refine op_val (d := 33) (v := .int .u64 ((backN n K : Nat) : Int)) rfl rfl (o_move rfl ((pm rfl).trans ta_2_4)) ?_
      refine op_val (d := 34) (v := .int .u64 (((backN n K) * 2 ^ 8 % 18446744073709551616 : Nat) : Int)) rfl rfl (o_shl (m := (backN n K)) (n := 8) ((backN n K) * 2 ^ 8 % 18446744073709551616) rfl (pe hs_2 rfl rfl) rfl (by decide) (by rw [IntKind.wrap_u64]; simp)) ?_
      refine op_val (d := 35) (v := .slice A1 (12) (c1)) rfl rfl (o_move rfl ((pm rfl).trans ta_2_3)) ?_
      refine op_val (d := 36) (v := .int .i64 ((11 - K : Nat) : Int)) rfl rfl (o_move rfl ((pm rfl).trans ta_2_5)) ?_
      refine op_val (d := 37) (v := .pointer (atA A1 (11 - K))) rfl rfl (o_ix (k := 11 - K) rfl (pe hs_2 rfl rfl) (pe hs_2 rfl rfl) (by omega) ((hO).bs.some (by rw [nonceL_length]; omega))) ?_
      refine op_val (d := 38) (v := .int .u8 (((nonceL n).getD (11 - K) 0 : Nat) : Int)) rfl rfl (o_ld8 rfl (pe hs_2 rfl rfl) (hO).bs (by rw [nonceL_length]; omega) rfl) ?_
      refine op_val (d := 39) (v := .int .u64 (((nonceL n).getD (11 - K) 0 : Nat) : Int)) rfl rfl (o_conv (m := ((nonceL n).getD (11 - K) 0)) (r := (nonceL n).getD (11 - K) 0) rfl (pe hs_2 rfl rfl) ⟨.int .u8, fun _ => by kernel_rfl⟩ (fun _ => by kernel_rfl) (by rw [IntKind.wrap_u64]; omega)) ?_
      refine op_val (d := 40) (v := .int .u64 ((backN n (K + 1) : Nat) : Int)) rfl rfl (o_eq (o_bits (m := ((backN n K) * 2 ^ 8 % 18446744073709551616)) (n := ((nonceL n).getD (11 - K) 0)) (((backN n K) * 2 ^ 8 % 18446744073709551616) ||| ((nonceL n).getD (11 - K) 0)) rfl (pe hs_2 rfl rfl) (pe hs_2 rfl rfl) (by decide) (u64_or_nat _ _ (by omega) (by omega))) (by rw [backN_step n K hn (by omega)])) ?_
      refine op_val (d := 4) (v := .int .u64 ((backN n (K + 1) : Nat) : Int)) rfl rfl (o_assign rfl (pe hs_2 rfl rfl)) ?_
      refine x_nil ?_
      refine hK_13 _ _ ?_
      refine hK_12 _ _ ?_
      refine x_region (by kernel_rfl) ?_
      refine op_val (d := 31) (v := .int .i64 ((11 - K : Nat) : Int)) rfl rfl (o_move rfl ((pm rfl).trans ta_2_5)) ?_
      refine op_val (d := 32) (v := .int .i64 ((11 - (K + 1) : Nat) : Int)) rfl rfl (o_eq (o_sub64 (m := (11 - K)) (n := 1) rfl (pe hs_2 rfl rfl) rfl (by omega) (by omega)) (by rw [Nat.sub_sub])) ?_
      refine op_val (d := 5) (v := .int .i64 ((11 - (K + 1) : Nat) : Int)) rfl rfl (o_assign rfl (pe hs_2 rfl rfl)) ?_
      refine x_nil ?_
      refine hK_9 _ _ _ ⟨K + 1, c1, A1, rfl, (by rw [putsR_size]; exact hs_2), (by rw [putsR_defers]; exact hd_2), ((pm rfl).trans ta_2_0), ((pm rfl).trans ta_2_2), ((pm rfl).trans ta_2_3), (pe hs_2 rfl rfl), (pe hs_2 rfl rfl), ((pm rfl).trans ta_2_6), ((pm rfl).trans ta_2_7), ((pm rfl).trans ta_2_8), ((pm rfl).trans ta_2_9), ((pm rfl).trans ta_2_10), ((pm rfl).trans ta_2_11), ((pm rfl).trans ta_2_12), ((pm rfl).trans ta_2_13), ((pm rfl).trans ta_2_14), ((pm rfl).trans ta_2_15), ((pm rfl).trans ta_2_16), ((pm rfl).trans ta_2_17), ((pm rfl).trans ta_2_18), ((pm rfl).trans ta_2_19), ((pm rfl).trans ta_2_20), ((pm rfl).trans ta_2_21), ((pm rfl).trans ta_2_22), ((pm rfl).trans ta_2_23), ((pm rfl).trans ta_2_24), ((pm rfl).trans ta_2_25), ((pm rfl).trans ta_2_26), ((pm rfl).trans ta_2_27), ((pm rfl).trans ta_2_28), (by omega), hO, HBL⟩ ?_
      omega
    · simp only [decide_eq_true_eq, decide_eq_false_iff_not, Bool.not_eq_true', Bool.not_eq_false', Bool.not_true, Bool.not_false, Nat.not_lt, Nat.not_le] at h_1
      obtain rfl : K = 8 := by omega
      refine w2_exit ?_
      refine thn_exit ?_
      refine thn_exit ?_
      refine exb_hit ?_
      refine hK_8 _ _ ?_
      refine hK_6 _ _ ?_
      refine w2_seq (fun K_14 hK_14 => ?_)
      refine x_region (by kernel_rfl) ?_
      refine op_val (d := 41) (v := .int .u64 ((backN n 8 : Nat) : Int)) rfl rfl (o_move rfl ((pm rfl).trans ta_2_4)) ?_
      refine op_val (d := 42) (v := .int .u64 ((n : Nat) : Int)) rfl rfl (o_move rfl ((pm rfl).trans ta_2_0)) ?_
      refine op_val (d := 43) (v := .bool (true)) rfl rfl (o_eq (o_eql (m := (backN n 8)) (n := n) rfl (pe hs_2 rfl rfl) (pe hs_2 rfl rfl)) (by unfold backN; simp)) ?_
      refine op_val (d := 44) (v := .bool (true)) rfl rfl (o_move rfl (pe hs_2 rfl rfl)) ?_
      refine op_callG (e := 44) (vs := #[]) rfl rfl (by kernel_rfl) (pe hs_2 rfl rfl) (exec_call Try.func22 (by kernel_rfl) (by kernel_rfl) _ rfl _ _ (args0)) (awake_any _) (fun e_2 w_4 hR_2 => ?_)
      obtain ⟨rfl, hb_4⟩ := hR_2
      replace hO := hO.nx hb_4
      have HB_2 := below_from HBL hb_4
      refine ⟨_, rfl, ?_⟩
      refine op_val (d := 46) (v := .bool (true)) rfl rfl (o_pickT rfl (pe hs_2 rfl rfl) (pe hs_2 rfl rfl)) ?_
      refine op_val (d := 2) (v := .bool (true)) rfl rfl (o_assign rfl (pe hs_2 rfl rfl)) ?_
      refine x_nil ?_
      refine hK_14 _ _ ?_
      refine w2_ret ?_
      refine ret1 rfl hd_2 (pe hs_2 rfl rfl) ?_
      exact ⟨rfl, HB_2⟩
end Go.Proofs.Ytoiamaljkodlnaa
