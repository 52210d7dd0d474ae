/-
  WALKS: pad.Wrap, pad.Unwrap.
-/
import Derived.Test.YtoiamaljkodlnaaRec
import Derived.Test.YtoiamaljkodlnaaOps9
namespace Go.Proofs.Ytoiamaljkodlnaa
open Go.RowKit
set_option linter.unusedVariables false
set_option linter.unusedSimpArgs false
set_option maxRecDepth 100000
attribute [local irreducible] wpList wpListIn putsR

theorem subA_two {g k n : Nat} (h : n ≠ k) : subA (some ⟨g, 0, none⟩) k n = some ⟨g, k, none⟩ := by
  unfold subA
  rw [if_neg h]
  simp [atA, Addr.add_lit]
theorem wrap_eq {bs : List Nat} {q : Nat} (hq : bs.length = q) (hl : q ≤ 4096) : (((List.replicate (sizeN q) 0).set (0) (q / 2 ^ 8 % 256)).set (1) (q % 256)).take 2 ++ bs ++ (((List.replicate (sizeN q) 0).set (0) (q / 2 ^ 8 % 256)).set (1) (q % 256)).drop (2 + q) = wrapL bs := by
  have h64 := sizeN_pos hl
  have hfit := sizeN_fit hl
  unfold wrapL lenL
  rw [hq]
  obtain ⟨N, hN⟩ : ∃ N, sizeN q = N + 2 := ⟨sizeN q - 2, by omega⟩
  rw [hN, List.replicate_succ, List.replicate_succ]
  simp only [List.set_cons_zero, List.set_cons_succ, List.take_succ_cons, List.take_zero, Nat.add_sub_cancel]
  rw [show 2 + q = q + 1 + 1 by omega, List.drop_succ_cons, List.drop_succ_cons, List.drop_replicate]
theorem unwrap_short {bs : List Nat} (h : bs.length < 2) : unwrapL bs = none := by unfold unwrapL; rw [if_pos h]
theorem unwrap_size {bs : List Nat} (h : bs.length ≠ sizeN (lenOf bs)) : unwrapL bs = none := by
  unfold unwrapL
  by_cases h2 : bs.length < 2
  · rw [if_pos h2]
  · rw [if_neg h2, if_pos h]
theorem unwrap_fit {bs : List Nat} (h2 : 2 ≤ bs.length) (h : bs.length = sizeN (lenOf bs)) : lenOf bs ≤ 4096 ∧ lenOf bs + 2 ≤ bs.length := by
  have h4 : lenOf bs ≤ 4096 := by
    rcases Nat.lt_or_ge 4096 (lenOf bs) with h9 | h9
    · unfold sizeN at h; rw [if_pos h9] at h; omega
    · exact h9
  have := sizeN_fit h4
  exact ⟨h4, by omega⟩
theorem unwrap_bad {bs : List Nat} {K : Nat} (h2 : 2 ≤ bs.length) (h : bs.length = sizeN (lenOf bs)) (hK : K < (bs.drop (2 + lenOf bs)).length) (hb : (bs.drop (2 + lenOf bs)).getD K 0 ≠ 0) : unwrapL bs = none := by
  unfold unwrapL
  rw [if_neg (by omega), if_neg (by omega), if_neg]
  intro hall
  rw [List.all_eq_true] at hall
  have h9 := hall _ (List.getElem_mem hK)
  rw [List.getD_eq_getElem?_getD, List.getElem?_eq_getElem hK] at hb
  simp at h9 hb
  exact hb h9
theorem unwrap_good {bs : List Nat} (h2 : 2 ≤ bs.length) (h : bs.length = sizeN (lenOf bs)) (hb : ∀ j, j < (bs.drop (2 + lenOf bs)).length → (bs.drop (2 + lenOf bs)).getD j 0 = 0) : unwrapL bs = some ((bs.drop 2).take (lenOf bs)) := by
  unfold unwrapL
  rw [if_neg (by omega), if_neg (by omega), if_pos]
  rw [List.all_eq_true]
  intro x hx
  obtain ⟨j, hj, rfl⟩ := List.mem_iff_getElem.1 hx
  have h9 := hb j hj
  rw [List.getD_eq_getElem?_getD, List.getElem?_eq_getElem hj] at h9
  simpa using h9
theorem Wrap_any {A0 : Option Addr} {c0 q : Nat} {bs : List Nat} (w : World) (h0 : Bs w A0 c0 bs) (hq : bs.length = q) (hl : q ≤ 4096) :
    Calls Try.prog 81 #[.slice A0 (q) (c0)] w fun e w' => ∃ A c, e = .returned (.tuple #[.slice A (sizeN q) c, .int .i64 0]) ∧ Own w' w.heap.size A c (wrapL bs) ∧ Below w.heap.size w w' := by
  have hs := sizeN_pos hl
  have hs2 := sizeN_top q
  have hs3 := sizeN_fit hl
  refine x_enter 29 Try.func81 rfl rfl (fun a hs hd ha0 => ?_)
  have t0 : a.eval (.tmp 0) = .slice A0 (q) (c0) := ha0 0 _ rfl
  clear ha0
  refine w2_seq (fun K_1 hK_1 => ?_)
  refine x_region (by kernel_rfl) ?_
  refine op_val (d := 2) (v := .slice none (0) (0)) rfl rfl (o_assign rfl rfl) ?_
  refine op_val (d := 3) (v := .int .i64 ((0 : Nat) : Int)) rfl rfl (o_assign rfl rfl) ?_
  refine x_nil ?_
  refine hK_1 _ _ ?_
  refine w2_seq (fun K_2 hK_2 => ?_)
  refine x_region (by kernel_rfl) ?_
  refine op_val (d := 6) (v := .slice A0 (q) (c0)) rfl rfl (o_move rfl ((pm rfl).trans t0)) ?_
  refine op_val (d := 7) (v := .int .i64 ((q : Nat) : Int)) rfl rfl (o_len rfl (pe hs rfl rfl)) ?_
  refine op_call (vs := #[.int .i64 ((q : Nat) : Int)]) rfl rfl (exec_call Try.func44 (by kernel_rfl) (by kernel_rfl) _ rfl _ _ (args1 (pe hs rfl rfl))) (Size_any _ _) (fun e_1 w_1 hR_1 => ?_)
  obtain ⟨rfl, rfl⟩ := hR_1
  refine ⟨_, rfl, ?_⟩
  refine op_val (d := 4) (v := .int .i64 ((sizeN q : Nat) : Int)) rfl rfl (o_assign rfl (pe hs rfl rfl)) ?_
  refine x_nil ?_
  refine hK_2 _ _ ?_
  refine w2_seq (fun K_3 hK_3 => ?_)
  refine w2_seq (fun K_4 hK_4 => ?_)
  refine x_region (by kernel_rfl) ?_
  refine op_val (d := 9) (v := .int .i64 ((sizeN q : Nat) : Int)) rfl rfl (o_move rfl (pe hs rfl rfl)) ?_
  refine op_val (d := 10) (v := .bool (false)) rfl rfl (o_eq (o_eql (m := (sizeN q)) (n := 0) rfl (pe hs rfl rfl) rfl) (by rw [decide_eq_false (by omega)])) ?_
  refine x_nil ?_
  refine hK_4 _ _ ?_
  refine w2_condF (pe hs rfl rfl) ?_
  refine w2_skip ?_
  refine hK_3 _ _ ?_
  refine w2_seq (fun K_5 hK_5 => ?_)
  refine x_region (by kernel_rfl) ?_
  refine op_val (d := 11) (v := .int .i64 ((sizeN q : Nat) : Int)) rfl rfl (o_move rfl (pe hs rfl rfl)) ?_
  refine op_ex (d := 12) rfl rfl (o_makeN (n := sizeN q) rfl (pe hs rfl rfl) (pe hs rfl rfl) (by omega)) (fun v_1 w_2 hR_2 => ?_)
  obtain ⟨g_1, rfl, ho_1, hb_2⟩ := hR_2
  refine op_val (d := 5) (v := .slice ((some ⟨g_1, 0, none⟩)) (sizeN q) (sizeN q)) rfl rfl (o_assign rfl (pe hs rfl rfl)) ?_
  refine x_nil ?_
  refine hK_5 _ _ ?_
  refine w2_seq (fun K_6 hK_6 => ?_)
  refine x_region (by kernel_rfl) ?_
  refine op_val (d := 13) (v := .slice ((some ⟨g_1, 0, none⟩)) (sizeN q) (sizeN q)) rfl rfl (o_move rfl (pe hs rfl rfl)) ?_
  refine op_val (d := 14) (v := .slice ((some ⟨g_1, 0, none⟩)) (sizeN q) (sizeN q)) rfl rfl (o_move rfl (pe hs rfl rfl)) ?_
  refine op_val (d := 15) (v := .slice A0 (q) (c0)) rfl rfl (o_move rfl ((pm rfl).trans t0)) ?_
  refine op_val (d := 16) (v := .int .i64 ((q : Nat) : Int)) rfl rfl (o_len rfl (pe hs rfl rfl)) ?_
  refine op_val (d := 17) (v := .int .i64 ((q / 2 ^ 8 : Nat) : Int)) rfl rfl (o_shr (m := q) (n := 8) rfl (pe hs rfl rfl) rfl (by decide)) ?_
  refine op_val (d := 18) (v := .int .u8 (((q / 2 ^ 8) % 256 : Nat) : Int)) rfl rfl (o_conv (m := (q / 2 ^ 8)) (r := (q / 2 ^ 8) % 256) rfl (pe hs rfl rfl) ⟨.int .i64, fun _ => by kernel_rfl⟩ (fun _ => by kernel_rfl) (by rw [IntKind.wrap_u8]; omega)) ?_
  refine op_val (d := 19) (v := .slice A0 (q) (c0)) rfl rfl (o_move rfl ((pm rfl).trans t0)) ?_
  refine op_val (d := 20) (v := .int .i64 ((q : Nat) : Int)) rfl rfl (o_len rfl (pe hs rfl rfl)) ?_
  refine op_val (d := 21) (v := .int .u8 ((q % 256 : Nat) : Int)) rfl rfl (o_conv (m := q) (r := q % 256) rfl (pe hs rfl rfl) ⟨.int .i64, fun _ => by kernel_rfl⟩ (fun _ => by kernel_rfl) (by rw [IntKind.wrap_u8]; omega)) ?_
  refine op_val (d := 22) (v := .pointer (atA ((some ⟨g_1, 0, none⟩)) (0))) rfl rfl (o_ix (k := 0) rfl (pe hs rfl rfl) rfl (by omega) ((ho_1).bs.some (by rw [List.length_replicate]; omega))) ?_
  refine op_do rfl rfl (o_st8 rfl (pe hs rfl rfl) (pe hs rfl rfl) ho_1 (by have h9 : (List.replicate (sizeN q) 0).length = sizeN q := (by simp only [List.length_replicate]); omega) (by omega) ⟨by kernel_rfl, by kernel_rfl⟩) (fun w_3 hR_3 => ?_)
  obtain ⟨ho_2, hb_3⟩ := hR_3
  have HB_1 := hb_2.trans hb_3
  refine op_val (d := 23) (v := .pointer (atA ((some ⟨g_1, 0, none⟩)) (1))) rfl rfl (o_ix (k := 1) rfl (pe hs rfl rfl) rfl (by omega) ((ho_2).bs.some (by have h9 : ((List.replicate (sizeN q) 0).set (0) ((q / 2 ^ 8) % 256)).length = sizeN q := (by simp only [List.length_set, List.length_replicate]); omega))) ?_
  refine op_do rfl rfl (o_st8 rfl (pe hs rfl rfl) (pe hs rfl rfl) ho_2 (by have h9 : ((List.replicate (sizeN q) 0).set (0) ((q / 2 ^ 8) % 256)).length = sizeN q := (by simp only [List.length_set, List.length_replicate]); omega) (by omega) ⟨by kernel_rfl, by kernel_rfl⟩) (fun w_4 hR_4 => ?_)
  obtain ⟨ho_3, hb_4⟩ := hR_4
  have HB_2 := HB_1.trans hb_4
  refine x_nil ?_
  refine hK_6 _ _ ?_
  refine w2_seq (fun K_7 hK_7 => ?_)
  refine x_region (by kernel_rfl) ?_
  refine op_val (d := 24) (v := .slice ((some ⟨g_1, 0, none⟩)) (sizeN q) (sizeN q)) rfl rfl (o_move rfl (pe hs rfl rfl)) ?_
  refine op_val (d := 25) (v := .slice ((some ⟨g_1, 2, none⟩)) (sizeN q - 2) (sizeN q - 2)) rfl rfl (o_eq (o_sliceL (l := 2) rfl (pe hs rfl rfl) rfl (by omega)) (by rw [subA_two (by omega)])) ?_
  refine op_val (d := 26) (v := .slice A0 (q) (c0)) rfl rfl (o_move rfl ((pm rfl).trans t0)) ?_
  refine op_ex (d := 27) rfl rfl (o_copyK (k := 2) (n := sizeN q) (q := sizeN q - 2) rfl (pe hs rfl rfl) (pe hs rfl rfl) ho_3 (h0.below HB_2) hq (by rw [List.length_set]; exact (by simp only [List.length_set, List.length_replicate])) (by omega) (by omega) (by omega)) (fun v_2 w_5 hR_5 => ?_)
  obtain ⟨r_1, rfl, ho_4, hb_5⟩ := hR_5
  have HB_3 := HB_2.trans hb_5
  refine x_nil ?_
  refine hK_7 _ _ ?_
  refine w2_seq (fun K_8 hK_8 => ?_)
  refine x_region (by kernel_rfl) ?_
  refine op_val (d := 28) (v := .slice ((some ⟨g_1, 0, none⟩)) (sizeN q) (sizeN q)) rfl rfl (o_move rfl (pe hs rfl rfl)) ?_
  refine op_val (d := 2) (v := .slice ((some ⟨g_1, 0, none⟩)) (sizeN q) (sizeN q)) rfl rfl (o_assign rfl (pe hs rfl rfl)) ?_
  refine op_val (d := 3) (v := .int .i64 ((0 : Nat) : Int)) rfl rfl (o_assign rfl rfl) ?_
  refine x_nil ?_
  refine hK_8 _ _ ?_
  refine w2_ret ?_
  refine ret2 rfl hd (pe hs rfl rfl) (pe hs rfl rfl) ?_
  exact ⟨_, _, rfl, by have h9 := ho_4; rwa [wrap_eq hq hl] at h9, HB_3⟩
theorem Wrap_gt {A0 : Option Addr} {c0 q : Nat} {bs : List Nat} (w : World) (h0 : Bs w A0 c0 bs) (hq : bs.length = q) (hl : 4096 < q) :
    Calls Try.prog 81 #[.slice A0 (q) (c0)] w fun e w' => e = .returned (.tuple #[.slice none 0 0, .int .i64 7]) ∧ w = w' := by
  refine x_enter 29 Try.func81 rfl rfl (fun a hs hd ha0 => ?_)
  have t0 : a.eval (.tmp 0) = .slice A0 (q) (c0) := ha0 0 _ rfl
  clear ha0
  refine w2_seq (fun K_1 hK_1 => ?_)
  refine x_region (by kernel_rfl) ?_
  refine op_val (d := 2) (v := .slice none (0) (0)) rfl rfl (o_assign rfl rfl) ?_
  refine op_val (d := 3) (v := .int .i64 ((0 : Nat) : Int)) rfl rfl (o_assign rfl rfl) ?_
  refine x_nil ?_
  refine hK_1 _ _ ?_
  refine w2_seq (fun K_2 hK_2 => ?_)
  refine x_region (by kernel_rfl) ?_
  refine op_val (d := 6) (v := .slice A0 (q) (c0)) rfl rfl (o_move rfl ((pm rfl).trans t0)) ?_
  refine op_val (d := 7) (v := .int .i64 ((q : Nat) : Int)) rfl rfl (o_len rfl (pe hs rfl rfl)) ?_
  refine op_call (vs := #[.int .i64 ((q : Nat) : Int)]) rfl rfl (exec_call Try.func44 (by kernel_rfl) (by kernel_rfl) _ rfl _ _ (args1 (pe hs rfl rfl))) (Size_any _ _) (fun e_1 w_1 hR_1 => ?_)
  obtain ⟨rfl, rfl⟩ := hR_1
  refine ⟨_, rfl, ?_⟩
  refine op_val (d := 4) (v := .int .i64 ((sizeN q : Nat) : Int)) rfl rfl (o_assign rfl (pe hs rfl rfl)) ?_
  refine x_nil ?_
  refine hK_2 _ _ ?_
  refine w2_seq (fun K_3 hK_3 => ?_)
  refine w2_seq (fun K_4 hK_4 => ?_)
  refine x_region (by kernel_rfl) ?_
  refine op_val (d := 9) (v := .int .i64 ((sizeN q : Nat) : Int)) rfl rfl (o_move rfl (pe hs rfl rfl)) ?_
  refine op_val (d := 10) (v := .bool (true)) rfl rfl (o_eq (o_eql (m := (sizeN q)) (n := 0) rfl (pe hs rfl rfl) rfl) (by rw [decide_eq_true (by unfold sizeN; rw [if_pos hl])])) ?_
  refine x_nil ?_
  refine hK_4 _ _ ?_
  refine w2_condT (pe hs rfl rfl) ?_
  refine w2_seq (fun K_5 hK_5 => ?_)
  refine x_region (by kernel_rfl) ?_
  refine op_val (d := 2) (v := .slice none (0) (0)) rfl rfl (o_assign rfl rfl) ?_
  refine op_val (d := 3) (v := .int .i64 ((7 : Nat) : Int)) rfl rfl (o_assign rfl rfl) ?_
  refine x_nil ?_
  refine hK_5 _ _ ?_
  refine w2_ret ?_
  refine thn_ret ?_
  refine ret2 rfl hd (pe hs rfl rfl) (pe hs rfl rfl) ?_
  exact ⟨rfl, rfl⟩
theorem Unwrap_any {A0 : Option Addr} {c0 q : Nat} {bs : List Nat} (w : World) (h0 : Bs w A0 c0 bs) (hq : bs.length = q) (hl : q ≤ 100000) :
    Calls Try.prog 118 #[.slice A0 (q) (c0)] w fun e w' => (∃ r : Nat, r ≠ 0 ∧ unwrapL bs = none ∧ e = .returned (.tuple #[.slice none 0 0, .int .i64 (r : Int)]) ∧ Below w.heap.size w w') ∨ (∃ (b : List Nat) (A : Option Addr) (c : Nat), unwrapL bs = some b ∧ e = .returned (.tuple #[.slice A b.length c, .int .i64 0]) ∧ Own w' w.heap.size A c b ∧ Below w.heap.size w w') := by
  have b0 := getD_lt h0.b8 0
  have b1 := getD_lt h0.b8 1
  have hlo : lenOf bs < 65536 := by unfold lenOf; omega
  refine x_enter 42 Try.func118 rfl rfl (fun a hs hd ha0 => ?_)
  have t0 : a.eval (.tmp 0) = .slice A0 (q) (c0) := ha0 0 _ rfl
  clear ha0
  refine w2_seq (fun K_1 hK_1 => ?_)
  refine x_region (by kernel_rfl) ?_
  refine op_val (d := 2) (v := .slice none (0) (0)) rfl rfl (o_assign rfl rfl) ?_
  refine op_val (d := 3) (v := .int .i64 ((0 : Nat) : Int)) rfl rfl (o_assign rfl rfl) ?_
  refine x_nil ?_
  refine hK_1 _ _ ?_
  refine w2_seq (fun K_2 hK_2 => ?_)
  refine w2_seq (fun K_3 hK_3 => ?_)
  refine x_region (by kernel_rfl) ?_
  refine op_val (d := 7) (v := .slice A0 (q) (c0)) rfl rfl (o_move rfl ((pm rfl).trans t0)) ?_
  refine op_val (d := 8) (v := .int .i64 ((q : Nat) : Int)) rfl rfl (o_len rfl (pe hs rfl rfl)) ?_
  refine op_val (d := 9) (v := .bool (decide (q < 2))) rfl rfl (o_lss (m := q) (n := 2) rfl (pe hs rfl rfl) rfl) ?_
  refine x_nil ?_
  refine hK_3 _ _ ?_
  refine w2_split (pe hs rfl rfl) (fun h_1 => ?_) (fun h_1 => ?_)
  · simp only [decide_eq_true_eq, decide_eq_false_iff_not, Bool.not_eq_true', Bool.not_eq_false', Bool.not_true, Bool.not_false, Nat.not_lt, Nat.not_le] at h_1
    have hsh := h_1
    refine w2_seq (fun K_4 hK_4 => ?_)
    refine x_region (by kernel_rfl) ?_
    refine op_val (d := 2) (v := .slice none (0) (0)) rfl rfl (o_assign rfl rfl) ?_
    refine op_val (d := 3) (v := .int .i64 ((2 : Nat) : Int)) rfl rfl (o_assign rfl rfl) ?_
    refine x_nil ?_
    refine hK_4 _ _ ?_
    refine w2_ret ?_
    refine thn_ret ?_
    refine ret2 rfl hd (pe hs rfl rfl) (pe hs rfl rfl) ?_
    exact .inl ⟨2, by decide, unwrap_short (by rw [hq]; exact hsh), rfl, Below.refl _ _⟩
  · simp only [decide_eq_true_eq, decide_eq_false_iff_not, Bool.not_eq_true', Bool.not_eq_false', Bool.not_true, Bool.not_false, Nat.not_lt, Nat.not_le] at h_1
    have hsh : 2 ≤ q := h_1
    refine w2_skip ?_
    refine hK_2 _ _ ?_
    refine w2_seq (fun K_5 hK_5 => ?_)
    refine x_drawn 9 [fun _ v => v = .slice A0 (q) (c0), fun _ v => v = .pointer (atA A0 (0)), fun _ v => v = .int .u8 ((bs.getD (0) 0 : Nat) : Int), fun _ v => v = .int .i64 ((bs.getD (0) 0 : Nat) : Int), fun _ v => v = .int .i64 (((bs.getD (0) 0) * 256 : Nat) : Int), fun _ v => v = .slice A0 (q) (c0), fun _ v => v = .pointer (atA A0 (1)), fun _ v => v = .int .u8 ((bs.getD (1) 0 : Nat) : Int), fun _ v => v = .int .i64 ((bs.getD (1) 0 : Nat) : Int)] [10, 11, 12, 13, 14, 15, 16, 17, 18] hs hd (by kernel_rfl) (by kernel_rfl) (by kernel_rfl) (by kernel_rfl) (by kernel_rfl) ⟨stLit, stLit, stLit, stLit, stLit, stLit, stLit, stLit, stLit, trivial⟩ ⟨(step_ok rfl (fun a' w' hb' hO hD => by
        have d_1 : a'.eval (.tmp 0) = .slice A0 (q) (c0) := (hO 0 (by decide)).trans ((pm rfl).trans t0)
        exact .inl ⟨_, _, (o_move rfl d_1), rfl, Below.refl _ _⟩)),
(step_ok rfl (fun a' w' hb' hO hD => by
        have d_2 : a'.eval (.tmp 10) = .slice A0 (q) (c0) := hD 0 10 (by kernel_rfl) rfl
        exact .inl ⟨_, _, (o_ix (k := 0) rfl d_2 rfl (by omega) ((h0.below hb').some (by rw [hq]; omega))), rfl, Below.refl _ _⟩)),
(step_ok rfl (fun a' w' hb' hO hD => by
        have d_3 : a'.eval (.tmp 11) = .pointer (atA A0 (0)) := hD 1 11 (by kernel_rfl) rfl
        exact .inl ⟨_, _, (o_ld8 rfl d_3 (h0.below hb') (by rw [hq]; omega) rfl), rfl, Below.refl _ _⟩)),
(step_ok rfl (fun a' w' hb' hO hD => by
        have d_4 : a'.eval (.tmp 12) = .int .u8 ((bs.getD (0) 0 : Nat) : Int) := hD 2 12 (by kernel_rfl) rfl
        exact .inl ⟨_, _, (o_conv (m := (bs.getD (0) 0)) (r := bs.getD (0) 0) rfl d_4 ⟨.int .u8, fun _ => by kernel_rfl⟩ (fun _ => by kernel_rfl) (IntWalk.i64_in _ (by omega))), rfl, Below.refl _ _⟩)),
(step_ok rfl (fun a' w' hb' hO hD => by
        have d_5 : a'.eval (.tmp 13) = .int .i64 ((bs.getD (0) 0 : Nat) : Int) := hD 3 13 (by kernel_rfl) rfl
        exact .inl ⟨_, _, (o_shl8 (m := (bs.getD (0) 0)) rfl d_5 rfl (by omega)), rfl, Below.refl _ _⟩)),
(step_ok rfl (fun a' w' hb' hO hD => by
        have d_6 : a'.eval (.tmp 0) = .slice A0 (q) (c0) := (hO 0 (by decide)).trans ((pm rfl).trans t0)
        exact .inl ⟨_, _, (o_move rfl d_6), rfl, Below.refl _ _⟩)),
(step_ok rfl (fun a' w' hb' hO hD => by
        have d_7 : a'.eval (.tmp 15) = .slice A0 (q) (c0) := hD 5 15 (by kernel_rfl) rfl
        exact .inl ⟨_, _, (o_ix (k := 1) rfl d_7 rfl (by omega) ((h0.below hb').some (by rw [hq]; omega))), rfl, Below.refl _ _⟩)),
(step_ok rfl (fun a' w' hb' hO hD => by
        have d_8 : a'.eval (.tmp 16) = .pointer (atA A0 (1)) := hD 6 16 (by kernel_rfl) rfl
        exact .inl ⟨_, _, (o_ld8 rfl d_8 (h0.below hb') (by rw [hq]; omega) rfl), rfl, Below.refl _ _⟩)),
(step_ok rfl (fun a' w' hb' hO hD => by
        have d_9 : a'.eval (.tmp 17) = .int .u8 ((bs.getD (1) 0 : Nat) : Int) := hD 7 17 (by kernel_rfl) rfl
        exact .inl ⟨_, _, (o_conv (m := (bs.getD (1) 0)) (r := bs.getD (1) 0) rfl d_9 ⟨.int .u8, fun _ => by kernel_rfl⟩ (fun _ => by kernel_rfl) (IntWalk.i64_in _ (by omega))), rfl, Below.refl _ _⟩)), trivial⟩ (fun a_1 w_1 hs_1 hd_1 hb_1 hO_1 hV_1 => ?_)
    have ta_1_0 : a_1.eval (.tmp 0) = .slice A0 (q) (c0) := (hO_1 0 (by decide)).trans ((pm rfl).trans t0)
    have ta_1_2 : a_1.eval (.tmp 2) = .slice none (0) (0) := (hO_1 2 (by decide)).trans (pe hs rfl rfl)
    have ta_1_3 : a_1.eval (.tmp 3) = .int .i64 ((0 : Nat) : Int) := (hO_1 3 (by decide)).trans (pe hs rfl rfl)
    have ta_1_7 : a_1.eval (.tmp 7) = .slice A0 (q) (c0) := (hO_1 7 (by decide)).trans (pe hs rfl rfl)
    have ta_1_8 : a_1.eval (.tmp 8) = .int .i64 ((q : Nat) : Int) := (hO_1 8 (by decide)).trans (pe hs rfl rfl)
    have ta_1_9 : a_1.eval (.tmp 9) = .bool (decide (q < 2)) := (hO_1 9 (by decide)).trans (pe hs rfl rfl)
    clear t0 hd
    have ta_1_10 : a_1.eval (.tmp 10) = .slice A0 (q) (c0) := hV_1 0 10 rfl rfl
    have ta_1_11 : a_1.eval (.tmp 11) = .pointer (atA A0 (0)) := hV_1 1 11 rfl rfl
    have ta_1_12 : a_1.eval (.tmp 12) = .int .u8 ((bs.getD (0) 0 : Nat) : Int) := hV_1 2 12 rfl rfl
    have ta_1_13 : a_1.eval (.tmp 13) = .int .i64 ((bs.getD (0) 0 : Nat) : Int) := hV_1 3 13 rfl rfl
    have ta_1_14 : a_1.eval (.tmp 14) = .int .i64 (((bs.getD (0) 0) * 256 : Nat) : Int) := hV_1 4 14 rfl rfl
    have ta_1_15 : a_1.eval (.tmp 15) = .slice A0 (q) (c0) := hV_1 5 15 rfl rfl
    have ta_1_16 : a_1.eval (.tmp 16) = .pointer (atA A0 (1)) := hV_1 6 16 rfl rfl
    have ta_1_17 : a_1.eval (.tmp 17) = .int .u8 ((bs.getD (1) 0 : Nat) : Int) := hV_1 7 17 rfl rfl
    have ta_1_18 : a_1.eval (.tmp 18) = .int .i64 ((bs.getD (1) 0 : Nat) : Int) := hV_1 8 18 rfl rfl
    clear hV_1 hO_1
    simp only [List.drop_succ_cons, List.drop_zero]
    refine op_val (d := 19) (v := .int .i64 (((bs.getD (0) 0) * 256 + (bs.getD (1) 0) : Nat) : Int)) rfl rfl (o_or8 (m := (bs.getD (0) 0)) (n := (bs.getD (1) 0)) rfl ((pm rfl).trans ta_1_14) ((pm rfl).trans ta_1_18) (by omega) (by omega)) ?_
    refine op_val (d := 4) (v := .int .i64 ((lenOf bs : Nat) : Int)) rfl rfl (o_eq (o_assign rfl (pe hs_1 rfl rfl)) rfl) ?_
    refine x_nil ?_
    refine hK_5 _ _ ?_
    refine w2_seq (fun K_6 hK_6 => ?_)
    refine w2_seq (fun K_7 hK_7 => ?_)
    refine x_region (by kernel_rfl) ?_
    refine op_val (d := 20) (v := .slice A0 (q) (c0)) rfl rfl (o_move rfl ((pm rfl).trans ta_1_0)) ?_
    refine op_val (d := 21) (v := .int .i64 ((q : Nat) : Int)) rfl rfl (o_len rfl (pe hs_1 rfl rfl)) ?_
    refine op_val (d := 22) (v := .int .i64 ((lenOf bs : Nat) : Int)) rfl rfl (o_move rfl (pe hs_1 rfl rfl)) ?_
    refine op_call (vs := #[.int .i64 ((lenOf bs : Nat) : Int)]) rfl rfl (exec_call Try.func44 (by kernel_rfl) (by kernel_rfl) _ rfl _ _ (args1 (pe hs_1 rfl rfl))) (Size_any _ _) (fun e_1 w_2 hR_1 => ?_)
    obtain ⟨rfl, rfl⟩ := hR_1
    refine ⟨_, rfl, ?_⟩
    refine op_val (d := 24) (v := .bool (!decide (q = (sizeN (lenOf bs))))) rfl rfl (o_neq (m := q) (n := (sizeN (lenOf bs))) rfl (pe hs_1 rfl rfl) (pe hs_1 rfl rfl)) ?_
    refine x_nil ?_
    refine hK_7 _ _ ?_
    refine w2_split (pe hs_1 rfl rfl) (fun h_2 => ?_) (fun h_2 => ?_)
    · simp only [decide_eq_true_eq, decide_eq_false_iff_not, Bool.not_eq_true', Bool.not_eq_false', Bool.not_true, Bool.not_false, Nat.not_lt, Nat.not_le] at h_2
      have hsz := h_2
      refine w2_seq (fun K_8 hK_8 => ?_)
      refine x_region (by kernel_rfl) ?_
      refine op_val (d := 2) (v := .slice none (0) (0)) rfl rfl (o_assign rfl rfl) ?_
      refine op_val (d := 3) (v := .int .i64 ((3 : Nat) : Int)) rfl rfl (o_assign rfl rfl) ?_
      refine x_nil ?_
      refine hK_8 _ _ ?_
      refine w2_ret ?_
      refine thn_ret ?_
      refine ret2 rfl hd_1 (pe hs_1 rfl rfl) (pe hs_1 rfl rfl) ?_
      exact .inl ⟨3, by decide, unwrap_size (by rw [hq]; exact hsz), rfl, hb_1⟩
    · simp only [decide_eq_true_eq, decide_eq_false_iff_not, Bool.not_eq_true', Bool.not_eq_false', Bool.not_true, Bool.not_false, Nat.not_lt, Nat.not_le] at h_2
      have hsz : q = sizeN (lenOf bs) := by have h9 := h_2; omega
      obtain ⟨hn4, hfit⟩ := unwrap_fit (by rw [hq]; exact hsh) (by rw [hq]; exact hsz)
      rw [hq] at hfit
      refine w2_skip ?_
      refine hK_6 _ _ ?_
      refine w2_seq (fun K_9 hK_9 => ?_)
      refine w2_seq (fun K_10 hK_10 => ?_)
      refine x_region (by kernel_rfl) ?_
      refine op_val (d := 25) (v := .slice A0 (q) (c0)) rfl rfl (o_move rfl ((pm rfl).trans ta_1_0)) ?_
      refine op_val (d := 26) (v := .int .i64 ((lenOf bs : Nat) : Int)) rfl rfl (o_move rfl (pe hs_1 rfl rfl)) ?_
      refine op_val (d := 27) (v := .int .i64 ((2 + (lenOf bs) : Nat) : Int)) rfl rfl (o_add64 (m := 2) (n := (lenOf bs)) rfl rfl (pe hs_1 rfl rfl) (by omega)) ?_
      refine op_val (d := 28) (v := .slice ((subA A0 (2 + (lenOf bs)) c0)) (q - (2 + (lenOf bs))) (c0 - (2 + (lenOf bs)))) rfl rfl (o_sliceL rfl (pe hs_1 rfl rfl) (pe hs_1 rfl rfl) (by omega)) ?_
      refine op_val (d := 29) (v := .int .i64 ((q - (2 + (lenOf bs)) : Nat) : Int)) rfl rfl (o_len rfl (pe hs_1 rfl rfl)) ?_
      refine op_val (d := 30) (v := .int .i64 ((0 : Nat) : Int)) rfl rfl (o_move rfl rfl) ?_
      refine x_nil ?_
      have hS : Bs w (subA A0 (2 + lenOf bs) c0) (c0 - (2 + lenOf bs)) (bs.drop (2 + lenOf bs)) := by
        have h := Bs.sub h0 (l := 2 + lenOf bs) (q := q) (m := c0) (by omega) (by rw [← hq]; exact h0.le) (Nat.le_refl _)
        rwa [List.take_of_length_le (by rw [List.length_drop]; omega)] at h
      have hSl : (bs.drop (2 + lenOf bs)).length = q - (2 + lenOf bs) := by rw [List.length_drop, hq]
      refine hK_10 _ _ ?_
      refine w2_block (fun K_11 hK_11 => ?_)
      refine x_loop (fun nn aa ww => ∃ (K : Nat), nn = q - (2 + lenOf bs) - K ∧ aa.tmps.size = 42 ∧ aa.defers = [] ∧ aa.eval (.tmp 0) = .slice A0 (q) (c0) ∧ aa.eval (.tmp 4) = .int .i64 ((lenOf bs : Nat) : Int) ∧ aa.eval (.tmp 7) = .slice A0 (q) (c0) ∧ aa.eval (.tmp 8) = .int .i64 ((q : Nat) : Int) ∧ aa.eval (.tmp 9) = .bool (decide (q < 2)) ∧ aa.eval (.tmp 10) = .slice A0 (q) (c0) ∧ aa.eval (.tmp 11) = .pointer (atA A0 (0)) ∧ aa.eval (.tmp 12) = .int .u8 ((bs.getD (0) 0 : Nat) : Int) ∧ aa.eval (.tmp 13) = .int .i64 ((bs.getD (0) 0 : Nat) : Int) ∧ aa.eval (.tmp 14) = .int .i64 (((bs.getD (0) 0) * 256 : Nat) : Int) ∧ aa.eval (.tmp 15) = .slice A0 (q) (c0) ∧ aa.eval (.tmp 16) = .pointer (atA A0 (1)) ∧ aa.eval (.tmp 17) = .int .u8 ((bs.getD (1) 0 : Nat) : Int) ∧ aa.eval (.tmp 18) = .int .i64 ((bs.getD (1) 0 : Nat) : Int) ∧ aa.eval (.tmp 19) = .int .i64 (((bs.getD (0) 0) * 256 + (bs.getD (1) 0) : Nat) : Int) ∧ aa.eval (.tmp 20) = .slice A0 (q) (c0) ∧ aa.eval (.tmp 21) = .int .i64 ((q : Nat) : Int) ∧ aa.eval (.tmp 22) = .int .i64 ((lenOf bs : Nat) : Int) ∧ aa.eval (.tmp 23) = .int .i64 ((sizeN (lenOf bs) : Nat) : Int) ∧ aa.eval (.tmp 24) = .bool (!decide (q = (sizeN (lenOf bs)))) ∧ aa.eval (.tmp 25) = .slice A0 (q) (c0) ∧ aa.eval (.tmp 26) = .int .i64 ((lenOf bs : Nat) : Int) ∧ aa.eval (.tmp 27) = .int .i64 ((2 + (lenOf bs) : Nat) : Int) ∧ aa.eval (.tmp 28) = .slice ((subA A0 (2 + (lenOf bs)) c0)) (q - (2 + (lenOf bs))) (c0 - (2 + (lenOf bs))) ∧ aa.eval (.tmp 29) = .int .i64 ((q - (2 + (lenOf bs)) : Nat) : Int) ∧ aa.eval (.tmp 30) = .int .i64 ((K : Nat) : Int) ∧ K ≤ q - (2 + lenOf bs) ∧ (∀ j, j < K → (bs.drop (2 + lenOf bs)).getD j 0 = 0) ∧ Below w.heap.size w ww) (q - (2 + lenOf bs)) ?_ ?_
      · exact ⟨0, rfl, (by rw [putsR_size]; exact hs_1), (by rw [putsR_defers]; exact hd_1), ((pm rfl).trans ta_1_0), (pe hs_1 rfl rfl), ((pm rfl).trans ta_1_7), ((pm rfl).trans ta_1_8), ((pm rfl).trans ta_1_9), ((pm rfl).trans ta_1_10), ((pm rfl).trans ta_1_11), ((pm rfl).trans ta_1_12), ((pm rfl).trans ta_1_13), ((pm rfl).trans ta_1_14), ((pm rfl).trans ta_1_15), ((pm rfl).trans ta_1_16), ((pm rfl).trans ta_1_17), ((pm rfl).trans ta_1_18), (pe hs_1 rfl rfl), (pe hs_1 rfl rfl), (pe hs_1 rfl rfl), (pe hs_1 rfl rfl), (pe hs_1 rfl rfl), (pe hs_1 rfl rfl), (pe hs_1 rfl rfl), (pe hs_1 rfl rfl), (pe hs_1 rfl rfl), (pe hs_1 rfl rfl), (pe hs_1 rfl rfl), (pe hs_1 rfl rfl), Nat.zero_le _, (fun j hj => absurd hj (by omega)), hb_1⟩
      · skip
        clear ta_1_0 ta_1_2 ta_1_3 ta_1_7 ta_1_8 ta_1_9 ta_1_10 ta_1_11 ta_1_12 ta_1_13 ta_1_14 ta_1_15 ta_1_16 ta_1_17 ta_1_18 hd_1 hb_1
        rintro nna_2 a_2 w_3 ⟨K, hm_1, hs_2, hd_2, ta_2_0, ta_2_4, ta_2_7, ta_2_8, ta_2_9, ta_2_10, ta_2_11, ta_2_12, ta_2_13, ta_2_14, ta_2_15, ta_2_16, ta_2_17, ta_2_18, ta_2_19, ta_2_20, ta_2_21, ta_2_22, ta_2_23, ta_2_24, ta_2_25, ta_2_26, ta_2_27, ta_2_28, ta_2_29, ta_2_30, hK, hz, HBL⟩ K_12 hK_12
        subst hm_1
        refine w2_seq (fun K_13 hK_13 => ?_)
        refine x_region (by kernel_rfl) ?_
        refine op_val (d := 31) (v := .bool (decide (K < (q - (2 + (lenOf bs)))))) rfl rfl (o_lss (m := K) (n := (q - (2 + (lenOf bs)))) rfl ((pm rfl).trans ta_2_30) ((pm rfl).trans ta_2_29)) ?_
        refine x_nil ?_
        refine hK_13 _ _ ?_
        refine w2_seq (fun K_14 hK_14 => ?_)
        refine w2_split (pe hs_2 rfl rfl) (fun h_3 => ?_) (fun h_3 => ?_)
        · simp only [decide_eq_true_eq, decide_eq_false_iff_not, Bool.not_eq_true', Bool.not_eq_false', Bool.not_true, Bool.not_false, Nat.not_lt, Nat.not_le] at h_3
          have hlt : K < q - (2 + lenOf bs) := h_3
          refine w2_skip ?_
          refine hK_14 _ _ ?_
          refine w2_seq (fun K_15 hK_15 => ?_)
          refine w2_block (fun K_16 hK_16 => ?_)
          refine w2_seq (fun K_17 hK_17 => ?_)
          refine x_region (by kernel_rfl) ?_
          refine op_val (d := 32) (v := .pointer (atA ((subA A0 (2 + (lenOf bs)) c0)) (K))) rfl rfl (o_ix (k := K) rfl ((pm rfl).trans ta_2_28) ((pm rfl).trans ta_2_30) (by omega) ((hS.below HBL).some (by rw [hSl]; omega))) ?_
          refine op_val (d := 33) (v := .int .u8 (((bs.drop (2 + lenOf bs)).getD (K) 0 : Nat) : Int)) rfl rfl (o_ld8 rfl (pe hs_2 rfl rfl) (hS.below HBL) (by rw [hSl]; omega) rfl) ?_
          refine op_val (d := 6) (v := .int .u8 (((bs.drop (2 + lenOf bs)).getD (K) 0 : Nat) : Int)) rfl rfl (o_assign rfl (pe hs_2 rfl rfl)) ?_
          refine x_nil ?_
          refine hK_17 _ _ ?_
          refine w2_seq (fun K_18 hK_18 => ?_)
          refine x_region (by kernel_rfl) ?_
          refine op_val (d := 34) (v := .int .u8 (((bs.drop (2 + lenOf bs)).getD (K) 0 : Nat) : Int)) rfl rfl (o_move rfl (pe hs_2 rfl rfl)) ?_
          refine op_val (d := 35) (v := .bool (!decide (((bs.drop (2 + lenOf bs)).getD (K) 0) = 0))) rfl rfl (o_neq (m := ((bs.drop (2 + lenOf bs)).getD (K) 0)) (n := 0) rfl (pe hs_2 rfl rfl) rfl) ?_
          refine x_nil ?_
          refine hK_18 _ _ ?_
          refine w2_split (pe hs_2 rfl rfl) (fun h_4 => ?_) (fun h_4 => ?_)
          · simp only [decide_eq_true_eq, decide_eq_false_iff_not, Bool.not_eq_true', Bool.not_eq_false', Bool.not_true, Bool.not_false, Nat.not_lt, Nat.not_le] at h_4
            have hb0 : ¬ (bs.drop (2 + lenOf bs)).getD K 0 = 0 := h_4
            refine w2_seq (fun K_19 hK_19 => ?_)
            refine x_region (by kernel_rfl) ?_
            refine op_val (d := 2) (v := .slice none (0) (0)) rfl rfl (o_assign rfl rfl) ?_
            refine op_val (d := 3) (v := .int .i64 ((3 : Nat) : Int)) rfl rfl (o_assign rfl rfl) ?_
            refine x_nil ?_
            refine hK_19 _ _ ?_
            refine w2_ret ?_
            refine exb_ret ?_
            refine thn_ret ?_
            refine thn_ret ?_
            refine exb_ret ?_
            refine thn_ret ?_
            refine ret2 rfl hd_2 (pe hs_2 rfl rfl) (pe hs_2 rfl rfl) ?_
            exact .inl ⟨3, by decide, unwrap_bad (by rw [hq]; exact hsh) (by rw [hq]; exact hsz) (by rw [hSl]; exact hlt) hb0, rfl, HBL⟩
          · simp only [decide_eq_true_eq, decide_eq_false_iff_not, Bool.not_eq_true', Bool.not_eq_false', Bool.not_true, Bool.not_false, Nat.not_lt, Nat.not_le] at h_4
            have hb0 : (bs.drop (2 + lenOf bs)).getD K 0 = 0 := by have h9 := h_4; omega
            refine w2_skip ?_
            refine hK_16 _ _ ?_
            refine hK_15 _ _ ?_
            refine x_region (by kernel_rfl) ?_
            refine op_val (d := 36) (v := .int .i64 ((K + 1 : Nat) : Int)) rfl rfl (o_add64 (m := K) (n := 1) rfl ((pm rfl).trans ta_2_30) rfl (by omega)) ?_
            refine op_val (d := 30) (v := .int .i64 ((K + 1 : Nat) : Int)) rfl rfl (o_move rfl (pe hs_2 rfl rfl)) ?_
            refine x_nil ?_
            refine hK_12 _ _ _ ⟨K + 1, rfl, (by rw [putsR_size]; exact hs_2), (by rw [putsR_defers]; exact hd_2), ((pm rfl).trans ta_2_0), ((pm rfl).trans ta_2_4), ((pm rfl).trans ta_2_7), ((pm rfl).trans ta_2_8), ((pm rfl).trans ta_2_9), ((pm rfl).trans ta_2_10), ((pm rfl).trans ta_2_11), ((pm rfl).trans ta_2_12), ((pm rfl).trans ta_2_13), ((pm rfl).trans ta_2_14), ((pm rfl).trans ta_2_15), ((pm rfl).trans ta_2_16), ((pm rfl).trans ta_2_17), ((pm rfl).trans ta_2_18), ((pm rfl).trans ta_2_19), ((pm rfl).trans ta_2_20), ((pm rfl).trans ta_2_21), ((pm rfl).trans ta_2_22), ((pm rfl).trans ta_2_23), ((pm rfl).trans ta_2_24), ((pm rfl).trans ta_2_25), ((pm rfl).trans ta_2_26), ((pm rfl).trans ta_2_27), ((pm rfl).trans ta_2_28), ((pm rfl).trans ta_2_29), (pe hs_2 rfl rfl), (by omega), (fun j hj => by rcases Nat.lt_or_ge j K with h9 | h9; (exact hz j h9); (obtain rfl : j = K := by omega); exact hb0), HBL⟩ ?_
            omega
        · simp only [decide_eq_true_eq, decide_eq_false_iff_not, Bool.not_eq_true', Bool.not_eq_false', Bool.not_true, Bool.not_false, Nat.not_lt, Nat.not_le] at h_3
          obtain rfl : K = q - (2 + lenOf bs) := by omega
          refine w2_exit ?_
          refine thn_exit ?_
          refine thn_exit ?_
          refine exb_hit ?_
          refine hK_11 _ _ ?_
          refine hK_9 _ _ ?_
          refine w2_seq (fun K_20 hK_20 => ?_)
          have hT : Bs w (subA A0 2 c0) (c0 - 2) ((bs.drop 2).take (2 + lenOf bs - 2)) := Bs.sub h0 (by omega) (by have := h0.le; omega) (Nat.le_refl _)
          have hTl : ((bs.drop 2).take (2 + lenOf bs - 2)).length = 2 + lenOf bs - 2 := by rw [List.length_take, List.length_drop, hq]; omega
          refine x_region (by kernel_rfl) ?_
          refine op_val (d := 37) (v := .slice A0 (q) (c0)) rfl rfl (o_move rfl ((pm rfl).trans ta_2_0)) ?_
          refine op_val (d := 38) (v := .int .i64 ((lenOf bs : Nat) : Int)) rfl rfl (o_move rfl ((pm rfl).trans ta_2_4)) ?_
          refine op_val (d := 39) (v := .int .i64 ((2 + (lenOf bs) : Nat) : Int)) rfl rfl (o_add64 (m := 2) (n := (lenOf bs)) rfl rfl (pe hs_2 rfl rfl) (by omega)) ?_
          refine op_val (d := 40) (v := .slice ((subA A0 2 c0)) ((2 + (lenOf bs)) - 2) (c0 - 2)) rfl rfl (o_slice2 rfl (pe hs_2 rfl rfl) rfl (pe hs_2 rfl rfl) (by omega) (by have := h0.le; omega)) ?_
          refine op_ex (d := 41) rfl rfl (o_append rfl rfl (pe hs_2 rfl rfl) (Own.nil w_3 w.heap.size) (hT.below HBL) rfl hTl (by omega) HBL.size) (fun v_1 w_4 hR_2 => ?_)
          obtain ⟨A_1, c_1, rfl, ho_1, hb_3, hg_1, hat_1⟩ := hR_2
          have HB_1 : Below w.heap.size w w_4 := (HBL).trans hb_3
          clear hg_1 hat_1 
          refine op_val (d := 2) (v := .slice A_1 (0 + ((2 + (lenOf bs)) - 2)) (c_1)) rfl rfl (o_assign rfl (pe hs_2 rfl rfl)) ?_
          refine op_val (d := 3) (v := .int .i64 ((0 : Nat) : Int)) rfl rfl (o_assign rfl rfl) ?_
          refine x_nil ?_
          refine hK_20 _ _ ?_
          refine w2_ret ?_
          refine ret2 rfl hd_2 (pe hs_2 rfl rfl) (pe hs_2 rfl rfl) ?_
          refine .inr ⟨_, A_1, c_1, unwrap_good (by rw [hq]; exact hsh) (by rw [hq]; exact hsz) (fun j hj => hz j (by rw [hSl] at hj; exact hj)), ?_, ?_, HB_1⟩
          · rw [List.length_take, List.length_drop, hq, Nat.min_eq_left (by omega), show 0 + (2 + lenOf bs - 2) = lenOf bs by omega]
            rfl
          · have h9 := ho_1
            rwa [List.nil_append, show 2 + lenOf bs - 2 = lenOf bs by omega] at h9
end Go.Proofs.Ytoiamaljkodlnaa
