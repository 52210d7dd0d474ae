/-
 WALKS: word.Xor.
-/
import Derived.Test.YtodhdajelnfhpaaGreatOps
namespace Go.Proofs.YtodhdajelnfhpaaGreat
open Go.RowKit
set_option linter.unusedVariables false
set_option linter.unusedSimpArgs false
set_option maxRecDepth 100000
attribute [local irreducible] wpList wpListIn putsR

/-- Bytes, changed by exclusive or, so many of them. -/
def xorL (xs ys : List Nat) : Nat → List Nat
 | 0 => []
 | K + 1 => xorL xs ys K ++ [xs.getD K 0 ^^^ ys.getD K 0]
theorem xorL_length (xs ys : List Nat) (K : Nat) : (xorL xs ys K).length = K := by
 induction K with
 | zero => rfl
 | succ K ih => simp [xorL, ih]
theorem xor8 (a b : Nat) (ha : a < 256) (hb : b < 256) : a ^^^ b < 256 := Nat.xor_lt_two_pow (n := 8) ha hb
theorem WXor_any {A B : Option Addr} {c d n m : Nat} {xs ys : List Nat} (w : World) (ha : Bs w A c xs) (hb : Bs w B d ys) (hn : xs.length = n) (hm : ys.length = m) (hl : n ≤ 70368744177664) :
  Calls Tryz.prog 190 #[.slice A (n) (c), .slice B (m) (d)] w fun e w' => ∃ A' c', e = .returned (.slice A' (min n m) c') ∧ Own w' w.heap.size A' c' (xorL xs ys (min n m)) ∧ Below w.heap.size w w' := by
 refine x_enter 29 Tryz.func190 rfl rfl (fun a hs hd ha0 => ?_)
 have t0 : a.eval (.tmp 0) = .slice A (n) (c) := ha0 0 _ rfl
 have t1 : a.eval (.tmp 1) = .slice B (m) (d) := ha0 1 _ rfl
 clear ha0
 refine w2_sr (fun K_1 hK_1 => ?_)
 refine q_as (.slice none (0) (0)) rfl ?_
 refine x_nil (hK_1 _ _ ?_)
 refine w2_sr (fun K_2 hK_2 => ?_)
 refine q_as (.slice none (0) (0)) rfl ?_
 refine x_nil (hK_2 _ _ ?_)
 refine w2_seq (fun K_3 hK_3 => ?_)
 refine w2_sr (fun K_4 hK_4 => ?_)
 refine q_mv ((pm rfl).trans t0) ?_
 refine q_v 8 (.int .i64 ((n : Nat) : Int)) (o_len rfl (pe hs rfl rfl)) ?_
 refine q_mv ((pm rfl).trans t1) ?_
 refine q_v 10 (.int .i64 ((m : Nat) : Int)) (o_len rfl (pe hs rfl rfl)) ?_
 refine q_v 11 (.int .i64 ((min n m : Nat) : Int)) (o_min rfl (pe hs rfl rfl) (pe hs rfl rfl)) ?_
 refine q_v 12 (.int .i64 ((0 : Nat) : Int)) (o_move rfl rfl) ?_
 refine x_nil (hK_4 _ _ ?_)
 refine w2_block (fun K_5 hK_5 => ?_)
 refine x_loop (fun nn aa ww => ∃ (K : Nat) (A1 : Option Addr) (c1 : Nat), nn = min n m - K ∧ aa.tmps.size = 29 ∧ aa.defers = [] ∧ aa.eval (.tmp 0) = .slice A (n) (c) ∧ aa.eval (.tmp 1) = .slice B (m) (d) ∧ aa.eval (.tmp 4) = .slice none (0) (0) ∧ aa.eval (.tmp 5) = .slice A1 (K) (c1) ∧ aa.eval (.tmp 7) = .slice A (n) (c) ∧ aa.eval (.tmp 8) = .int .i64 ((n : Nat) : Int) ∧ aa.eval (.tmp 9) = .slice B (m) (d) ∧ aa.eval (.tmp 10) = .int .i64 ((m : Nat) : Int) ∧ aa.eval (.tmp 11) = .int .i64 ((min n m : Nat) : Int) ∧ aa.eval (.tmp 12) = .int .i64 ((K : Nat) : Int) ∧ K ≤ min n m ∧ Own ww w.heap.size A1 c1 (xorL xs ys K) ∧ Below w.heap.size w ww) (min n m) ?_ ?_
 ·exact ⟨0, none, 0, rfl, (by rw [putsR_size]; exact hs), (by rw [putsR_defers]; exact hd), ((pm rfl).trans t0), ((pm rfl).trans t1), (pe hs rfl rfl), (pe hs rfl rfl), (pe hs rfl rfl), (pe hs rfl rfl), (pe hs rfl rfl), (pe hs rfl rfl), (pe hs rfl rfl), (pe hs rfl rfl), Nat.zero_le _, Own.nil _ _, Below.refl _ _⟩
 ·skip
  clear t0 t1 hd
  rintro nna_1 a_1 w_1 ⟨K, A1, c1, hm_1, hs_1, hd_1, ta_1_0, ta_1_1, ta_1_4, ta_1_5, ta_1_7, ta_1_8, ta_1_9, ta_1_10, ta_1_11, ta_1_12, hK, hO, HBL⟩ K_6 hK_6
  subst hm_1
  refine w2_sr (fun K_7 hK_7 => ?_)
  refine q_v 13 (.bool (decide (K < (min n m)))) (o_lss (m := K) (n := (min n m)) rfl ((pm rfl).trans ta_1_12) ((pm rfl).trans ta_1_11)) ?_
  refine x_nil (hK_7 _ _ ?_)
  refine w2_seq (fun K_8 hK_8 => ?_)
  refine w2_split (pe hs_1 rfl rfl) (fun h_1 => ?_) (fun h_1 => ?_)
  ·simp only [DD9] at h_1
   have hn1 : K < n := by omega
   have hm1 : K < m := by omega
   refine w2_skip ?_
   refine hK_8 _ _ ?_
   refine w2_seq (fun K_9 hK_9 => ?_)
   refine w2_block (fun K_10 hK_10 => ?_)
   refine w2_sr (fun K_11 hK_11 => ?_)
   refine q_mv ((pm rfl).trans ta_1_12) ?_
   refine q_at (pe hs_1 rfl rfl) ?_
   refine x_nil (hK_11 _ _ ?_)
   refine x_drawn 11 [fun _ v => v = .slice A1 (K) (c1), fun _ v => v = .slice A (n) (c), fun _ v => v = .int .i64 ((K : Nat) : Int), fun _ v => v = .pointer (atA A (K)), fun _ v => v = .int .u8 ((xs.getD (K) 0 : Nat) : Int), fun _ v => v = .slice B (m) (d), fun _ v => v = .int .i64 ((K : Nat) : Int), fun _ v => v = .pointer (atA B (K)), fun _ v => v = .int .u8 ((ys.getD (K) 0 : Nat) : Int), fun _ v => v = .int .u8 (((xs.getD (K) 0) ^^^ (ys.getD (K) 0) : Nat) : Int), fun w v => OwnN w_1.heap.size 1 [(xs.getD (K) 0) ^^^ (ys.getD (K) 0)] w v] [15, 16, 17, 18, 19, 20, 21, 22, 23, 24, 25] hs_1 hd_1 (by kernel_rfl) (by kernel_rfl) (by kernel_rfl) (by kernel_rfl) (by kernel_rfl) ⟨stLit, stLit, stLit, stLit, stLit, stLit, stLit, stLit, stLit, stLit, stOwn, trivial⟩ ⟨(step_ok rfl (fun a' w' hb' hO hD => by
     have d_1 := (hO 5 (by decide)).trans ((pm rfl).trans ta_1_5)
     exact .inl ⟨_, _, (o_move rfl d_1), rfl, Below.refl _ _⟩)),
(step_ok rfl (fun a' w' hb' hO hD => by
     have d_2 := (hO 0 (by decide)).trans ((pm rfl).trans ta_1_0)
     exact .inl ⟨_, _, (o_move rfl d_2), rfl, Below.refl _ _⟩)),
(step_ok rfl (fun a' w' hb' hO hD => by
     have d_3 : a'.eval (.tmp 6) = .int .i64 ((K : Nat) : Int) := (hO 6 (by decide)).trans (pe hs_1 rfl rfl)
     exact .inl ⟨_, _, (o_move rfl d_3), rfl, Below.refl _ _⟩)),
(step_ok rfl (fun a' w' hb' hO hD => by
     have d_4 : a'.eval (.tmp 16) = .slice A (n) (c) := hD 1 16 (by kernel_rfl) rfl
     have d_5 : a'.eval (.tmp 17) = .int .i64 ((K : Nat) : Int) := hD 2 17 (by kernel_rfl) rfl
     exact .inl ⟨_, _, (o_ix (k := K) rfl d_4 d_5 (by omega) ((ha.below (below_from HBL hb')).some (by rw [hn]; omega))), rfl, Below.refl _ _⟩)),
(step_ok rfl (fun a' w' hb' hO hD => by
     have d_6 : a'.eval (.tmp 18) = .pointer (atA A (K)) := hD 3 18 (by kernel_rfl) rfl
     exact .inl ⟨_, _, (o_ld8 rfl d_6 (ha.below (below_from HBL hb')) (by rw [hn]; omega) rfl), rfl, Below.refl _ _⟩)),
(step_ok rfl (fun a' w' hb' hO hD => by
     have d_7 := (hO 1 (by decide)).trans ((pm rfl).trans ta_1_1)
     exact .inl ⟨_, _, (o_move rfl d_7), rfl, Below.refl _ _⟩)),
(step_ok rfl (fun a' w' hb' hO hD => by
     have d_8 : a'.eval (.tmp 6) = .int .i64 ((K : Nat) : Int) := (hO 6 (by decide)).trans (pe hs_1 rfl rfl)
     exact .inl ⟨_, _, (o_move rfl d_8), rfl, Below.refl _ _⟩)),
(step_ok rfl (fun a' w' hb' hO hD => by
     have d_9 : a'.eval (.tmp 20) = .slice B (m) (d) := hD 5 20 (by kernel_rfl) rfl
     have d_10 : a'.eval (.tmp 21) = .int .i64 ((K : Nat) : Int) := hD 6 21 (by kernel_rfl) rfl
     exact .inl ⟨_, _, (o_ix (k := K) rfl d_9 d_10 (by omega) ((hb.below (below_from HBL hb')).some (by rw [hm]; omega))), rfl, Below.refl _ _⟩)),
(step_ok rfl (fun a' w' hb' hO hD => by
     have d_11 : a'.eval (.tmp 22) = .pointer (atA B (K)) := hD 7 22 (by kernel_rfl) rfl
     exact .inl ⟨_, _, (o_ld8 rfl d_11 (hb.below (below_from HBL hb')) (by rw [hm]; omega) rfl), rfl, Below.refl _ _⟩)),
(step_ok rfl (fun a' w' hb' hO hD => by
     have d_12 : a'.eval (.tmp 19) = .int .u8 ((xs.getD (K) 0 : Nat) : Int) := hD 4 19 (by kernel_rfl) rfl
     have d_13 : a'.eval (.tmp 23) = .int .u8 ((ys.getD (K) 0 : Nat) : Int) := hD 8 23 (by kernel_rfl) rfl
     exact .inl ⟨_, _, (o_bits (m := (xs.getD (K) 0)) (n := (ys.getD (K) 0)) ((xs.getD (K) 0) ^^^ (ys.getD (K) 0)) rfl d_12 d_13 (by decide) (u8_xor_nat _ _ (getD_lt ha.b8 _) (getD_lt hb.b8 _))), rfl, Below.refl _ _⟩)),
(step_ok rfl (fun a' w' hb' hO hD => by
     have d_14 : a'.eval (.tmp 24) = .int .u8 (((xs.getD (K) 0) ^^^ (ys.getD (K) 0) : Nat) : Int) := hD 9 24 (by kernel_rfl) rfl
     exact out_new (o_build1 (m := (xs.getD (K) 0) ^^^ (ys.getD (K) 0)) rfl d_14 (xor8 _ _ (getD_lt ha.b8 _) (getD_lt hb.b8 _))) (fun v w_2 hR => by obtain ⟨g_1, rfl, ho_1, hb_1⟩ := hR; exact ⟨⟨_, _, rfl, ho_1.mono hb'.size⟩, hb_1⟩))), trivial⟩ (fun a_2 w_3 hs_2 hd_2 hb_2 hO_1 hV_1 => ?_)
   have ta_2_0 := (hO_1 0 (by decide)).trans ((pm rfl).trans ta_1_0)
   have ta_2_1 := (hO_1 1 (by decide)).trans ((pm rfl).trans ta_1_1)
   have ta_2_4 := (hO_1 4 (by decide)).trans ((pm rfl).trans ta_1_4)
   have ta_2_7 := (hO_1 7 (by decide)).trans ((pm rfl).trans ta_1_7)
   have ta_2_8 := (hO_1 8 (by decide)).trans ((pm rfl).trans ta_1_8)
   have ta_2_9 := (hO_1 9 (by decide)).trans ((pm rfl).trans ta_1_9)
   have ta_2_10 := (hO_1 10 (by decide)).trans ((pm rfl).trans ta_1_10)
   have ta_2_11 := (hO_1 11 (by decide)).trans ((pm rfl).trans ta_1_11)
   have ta_2_12 := (hO_1 12 (by decide)).trans ((pm rfl).trans ta_1_12)
   clear ta_1_0 ta_1_1 ta_1_4 ta_1_7 ta_1_8 ta_1_9 ta_1_10 ta_1_11 ta_1_5 ta_1_12 hd_1
   replace hO := hO.nx hb_2
   have HB_1 := below_from HBL hb_2
   have ta_2_15 : a_2.eval (.tmp 15) = .slice A1 (K) (c1) := hV_1 0 15 rfl rfl
   have x_1 := hV_1 10 25 rfl rfl
   obtain ⟨A_1, c_1, hv_1, hO_2⟩ := x_1
   replace hO_2 := hO_2.mono HBL.size
   clear hV_1 hO_1
   simp only [List.drop_succ_cons, List.drop_zero]
   refine op_ex (d := 26) rfl rfl (o_append rfl ((pm rfl).trans ta_2_15) ((pm rfl).trans hv_1) hO (hO_2).bs (by rw [xorL_length]) (by simp only [List.length_cons, List.length_nil]) (by omega) HB_1.size) (fun v_1 w_4 hR_1 => ?_)
   obtain ⟨A_2, c_2, rfl, ho_2, hb_3, hg_1, hat_1⟩ := hR_1
   have HB_2 : Below w.heap.size w w_4 := (HB_1).trans hb_3
   clear hg_1 hat_1 hO
   refine q_at (pe hs_2 rfl rfl) ?_
   refine x_nil (hK_10 _ _ ?_)
   refine hK_9 _ _ ?_
   refine x_region (by kernel_rfl) ?_
   refine q_v 27 (.int .i64 ((K + 1 : Nat) : Int)) (o_add64 (m := K) (n := 1) rfl ((pm rfl).trans ta_2_12) rfl (by omega)) ?_
   refine q_mv (pe hs_2 rfl rfl) ?_
   refine x_nil ?_
   refine hK_6 _ _ _ ⟨K + 1, A_2, c_2, rfl, (by rw [putsR_size]; exact hs_2), (by rw [putsR_defers]; exact hd_2), ((pm rfl).trans ta_2_0), ((pm rfl).trans ta_2_1), ((pm rfl).trans ta_2_4), (pe hs_2 rfl rfl), ((pm rfl).trans ta_2_7), ((pm rfl).trans ta_2_8), ((pm rfl).trans ta_2_9), ((pm rfl).trans ta_2_10), ((pm rfl).trans ta_2_11), (pe hs_2 rfl rfl), (by omega), ho_2, HB_2⟩ ?_
   omega
  ·simp only [DD9] at h_1
   refine w2_exit ?_
   refine thn_exit ?_
   refine thn_exit ?_
   refine exb_hit ?_
   refine hK_5 _ _ ?_
   refine hK_3 _ _ ?_
   refine w2_sr (fun K_12 hK_12 => ?_)
   refine q_mv ((pm rfl).trans ta_1_5) ?_
   refine q_at (pe hs_1 rfl rfl) ?_
   refine x_nil (hK_12 _ _ ?_)
   refine w2_ret ?_
   refine ret1 rfl hd_1 (pe hs_1 rfl rfl) ?_
   obtain rfl : K = min n m := by omega
   exact ⟨A1, c1, rfl, hO, HBL⟩
end Go.Proofs.YtodhdajelnfhpaaGreat
