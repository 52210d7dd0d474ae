/-
 WALKS: the reference's stream: Xor, XorChaCha, join, filled, Nonce.
-/
import Derived.Test.YtggalcdkfielkaaRBlock
import Derived.Test.YtggalcdkfielkaaCXor
import Derived.Test.YtggalcdkfielkaaConcat
import Derived.Test.YtggalcdkfielkaaAead
namespace Go.Proofs.Ytggalcdkfielkaa
open Go.RowKit
set_option linter.unusedVariables false
set_option linter.unusedSimpArgs false
set_option maxRecDepth 100000
attribute [local irreducible] wpList wpListIn putsR

theorem XorW_any {A B : Option Addr} {c d n m : Nat} {xs ys : List Nat} (w : World) (ha : Bs w A c xs) (hb : Bs w B d ys) (hn : xs.length = n) (hm : ys.length = m) (hl : n ≤ 70368744177664) :
  Calls Try.prog 59 #[.slice A (n) (c), .slice B (m) (d)] w fun e w' => ∃ A' c', e = .returned (.slice A' (min n m) c') ∧ Own w' w.heap.size A' c' (xorL xs ys (min n m)) ∧ Below w.heap.size w w' := by
 refine x_enter 29 Try.func59 rfl rfl (fun a hs hd ha0 => ?_)
 have t0 : a.eval (.tmp 0) = .slice A (n) (c) := ha0 0 _ rfl
 have t1 : a.eval (.tmp 1) = .slice B (m) (d) := ha0 1 _ rfl
 clear ha0
 refine w2_sr (fun K_1 hK_1 => ?_)
 refine q_as (.slice none (0) (0)) rfl ?_
 refine x_nil (hK_1 _ _ ?_)
 refine w2_sr (fun K_2 hK_2 => ?_)
 refine q_as (.slice none (0) (0)) rfl ?_
 refine x_nil (hK_2 _ _ ?_)
 refine w2_seq (fun K_3 hK_3 => ?_)
 refine w2_sr (fun K_4 hK_4 => ?_)
 refine q_mv ((pm rfl).trans t0) ?_
 refine q_v 8 (.int .i64 ((n : Nat) : Int)) (o_len rfl (pe hs rfl rfl)) ?_
 refine q_mv ((pm rfl).trans t1) ?_
 refine q_v 10 (.int .i64 ((m : Nat) : Int)) (o_len rfl (pe hs rfl rfl)) ?_
 refine q_v 11 (.int .i64 ((min n m : Nat) : Int)) (o_min rfl (pe hs rfl rfl) (pe hs rfl rfl)) ?_
 refine q_v 12 (.int .i64 ((0 : Nat) : Int)) (o_move rfl rfl) ?_
 refine x_nil (hK_4 _ _ ?_)
 refine w2_block (fun K_5 hK_5 => ?_)
 refine x_loop (fun nn aa ww => ∃ (K : Nat) (A1 : Option Addr) (c1 : Nat), nn = min n m - K ∧ aa.tmps.size = 29 ∧ aa.defers = [] ∧ aa.eval (.tmp 0) = .slice A (n) (c) ∧ aa.eval (.tmp 1) = .slice B (m) (d) ∧ aa.eval (.tmp 4) = .slice none (0) (0) ∧ aa.eval (.tmp 5) = .slice A1 (K) (c1) ∧ aa.eval (.tmp 7) = .slice A (n) (c) ∧ aa.eval (.tmp 8) = .int .i64 ((n : Nat) : Int) ∧ aa.eval (.tmp 9) = .slice B (m) (d) ∧ aa.eval (.tmp 10) = .int .i64 ((m : Nat) : Int) ∧ aa.eval (.tmp 11) = .int .i64 ((min n m : Nat) : Int) ∧ aa.eval (.tmp 12) = .int .i64 ((K : Nat) : Int) ∧ K ≤ min n m ∧ Own ww w.heap.size A1 c1 (xorL xs ys K) ∧ Below w.heap.size w ww) (min n m) ?_ ?_
 ·exact ⟨0, none, 0, rfl, (by rw [putsR_size]; exact hs), (by rw [putsR_defers]; exact hd), ((pm rfl).trans t0), ((pm rfl).trans t1), (pe hs rfl rfl), (pe hs rfl rfl), (pe hs rfl rfl), (pe hs rfl rfl), (pe hs rfl rfl), (pe hs rfl rfl), (pe hs rfl rfl), (pe hs rfl rfl), Nat.zero_le _, Own.nil _ _, Below.refl _ _⟩
 ·skip
  clear t0 t1 hd
  rintro nna_1 a_1 w_1 ⟨K, A1, c1, hm_1, hs_1, hd_1, ta_1_0, ta_1_1, ta_1_4, ta_1_5, ta_1_7, ta_1_8, ta_1_9, ta_1_10, ta_1_11, ta_1_12, hK, hO, HBL⟩ K_6 hK_6
  subst hm_1
  refine w2_sr (fun K_7 hK_7 => ?_)
  refine q_v 13 (.bool (decide (K < (min n m)))) (o_lss (m := K) (n := (min n m)) rfl ((pm rfl).trans ta_1_12) ((pm rfl).trans ta_1_11)) ?_
  refine x_nil (hK_7 _ _ ?_)
  refine w2_seq (fun K_8 hK_8 => ?_)
  refine w2_split (pe hs_1 rfl rfl) (fun h_1 => ?_) (fun h_1 => ?_)
  ·simp only [DD9] at h_1
   have hn1 : K < n := by omega
   have hm1 : K < m := by omega
   refine w2_skip ?_
   refine hK_8 _ _ ?_
   refine w2_seq (fun K_9 hK_9 => ?_)
   refine w2_block (fun K_10 hK_10 => ?_)
   refine w2_sr (fun K_11 hK_11 => ?_)
   refine q_mv ((pm rfl).trans ta_1_12) ?_
   refine q_at (pe hs_1 rfl rfl) ?_
   refine x_nil (hK_11 _ _ ?_)
   refine x_drawn 11 [fun _ v => v = .slice A1 (K) (c1), fun _ v => v = .slice A (n) (c), fun _ v => v = .int .i64 ((K : Nat) : Int), fun _ v => v = .pointer (atA A (K)), fun _ v => v = .int .u8 ((xs.getD (K) 0 : Nat) : Int), fun _ v => v = .slice B (m) (d), fun _ v => v = .int .i64 ((K : Nat) : Int), fun _ v => v = .pointer (atA B (K)), fun _ v => v = .int .u8 ((ys.getD (K) 0 : Nat) : Int), fun _ v => v = .int .u8 (((xs.getD (K) 0) ^^^ (ys.getD (K) 0) : Nat) : Int), fun ww vv => OwnN w_1.heap.size 1 [(xs.getD (K) 0) ^^^ (ys.getD (K) 0)] ww vv] [15, 16, 17, 18, 19, 20, 21, 22, 23, 24, 25] hs_1 hd_1 (by kernel_rfl) (by kernel_rfl) (by kernel_rfl) (by kernel_rfl) (by kernel_rfl) ⟨stLit, stLit, stLit, stLit, stLit, stLit, stLit, stLit, stLit, stLit, stOwn, trivial⟩ ⟨(step_ok rfl (fun a' w' hb' hO hD => by
     have d_1 := (hO 5 (by decide)).trans ((pm rfl).trans ta_1_5)
     exact .inl ⟨_, _, (o_move rfl d_1), rfl, Below.refl _ _⟩)),
(step_ok rfl (fun a' w' hb' hO hD => by
     have d_2 := (hO 0 (by decide)).trans ((pm rfl).trans ta_1_0)
     exact .inl ⟨_, _, (o_move rfl d_2), rfl, Below.refl _ _⟩)),
(step_ok rfl (fun a' w' hb' hO hD => by
     have d_3 : a'.eval (.tmp 6) = .int .i64 ((K : Nat) : Int) := (hO 6 (by decide)).trans (pe hs_1 rfl rfl)
     exact .inl ⟨_, _, (o_move rfl d_3), rfl, Below.refl _ _⟩)),
(step_ok rfl (fun a' w' hb' hO hD => by
     have d_4 : a'.eval (.tmp 16) = .slice A (n) (c) := hD 1 16 (by kernel_rfl) rfl
     have d_5 : a'.eval (.tmp 17) = .int .i64 ((K : Nat) : Int) := hD 2 17 (by kernel_rfl) rfl
     exact .inl ⟨_, _, (o_ix (k := K) rfl d_4 d_5 (by omega) ((ha.below (below_from HBL hb')).some (by rw [hn]; omega))), rfl, Below.refl _ _⟩)),
(step_ok rfl (fun a' w' hb' hO hD => by
     have d_6 : a'.eval (.tmp 18) = .pointer (atA A (K)) := hD 3 18 (by kernel_rfl) rfl
     exact .inl ⟨_, _, (o_ld8 rfl d_6 (ha.below (below_from HBL hb')) (by rw [hn]; omega) rfl), rfl, Below.refl _ _⟩)),
(step_ok rfl (fun a' w' hb' hO hD => by
     have d_7 := (hO 1 (by decide)).trans ((pm rfl).trans ta_1_1)
     exact .inl ⟨_, _, (o_move rfl d_7), rfl, Below.refl _ _⟩)),
(step_ok rfl (fun a' w' hb' hO hD => by
     have d_8 : a'.eval (.tmp 6) = .int .i64 ((K : Nat) : Int) := (hO 6 (by decide)).trans (pe hs_1 rfl rfl)
     exact .inl ⟨_, _, (o_move rfl d_8), rfl, Below.refl _ _⟩)),
(step_ok rfl (fun a' w' hb' hO hD => by
     have d_9 : a'.eval (.tmp 20) = .slice B (m) (d) := hD 5 20 (by kernel_rfl) rfl
     have d_10 : a'.eval (.tmp 21) = .int .i64 ((K : Nat) : Int) := hD 6 21 (by kernel_rfl) rfl
     exact .inl ⟨_, _, (o_ix (k := K) rfl d_9 d_10 (by omega) ((hb.below (below_from HBL hb')).some (by rw [hm]; omega))), rfl, Below.refl _ _⟩)),
(step_ok rfl (fun a' w' hb' hO hD => by
     have d_11 : a'.eval (.tmp 22) = .pointer (atA B (K)) := hD 7 22 (by kernel_rfl) rfl
     exact .inl ⟨_, _, (o_ld8 rfl d_11 (hb.below (below_from HBL hb')) (by rw [hm]; omega) rfl), rfl, Below.refl _ _⟩)),
(step_ok rfl (fun a' w' hb' hO hD => by
     have d_12 : a'.eval (.tmp 19) = .int .u8 ((xs.getD (K) 0 : Nat) : Int) := hD 4 19 (by kernel_rfl) rfl
     have d_13 : a'.eval (.tmp 23) = .int .u8 ((ys.getD (K) 0 : Nat) : Int) := hD 8 23 (by kernel_rfl) rfl
     exact .inl ⟨_, _, (o_bits (m := (xs.getD (K) 0)) (n := (ys.getD (K) 0)) ((xs.getD (K) 0) ^^^ (ys.getD (K) 0)) rfl d_12 d_13 (by decide) (u8_xor_nat _ _ (getD_lt ha.b8 _) (getD_lt hb.b8 _))), rfl, Below.refl _ _⟩)),
(step_ok rfl (fun a' w' hb' hO hD => by
     have d_14 : a'.eval (.tmp 24) = .int .u8 (((xs.getD (K) 0) ^^^ (ys.getD (K) 0) : Nat) : Int) := hD 9 24 (by kernel_rfl) rfl
     exact out_new (o_build1 (m := (xs.getD (K) 0) ^^^ (ys.getD (K) 0)) rfl d_14 (xor8 _ _ (getD_lt ha.b8 _) (getD_lt hb.b8 _))) (fun v w_2 hR => by obtain ⟨g_1, rfl, ho_1, hb_1⟩ := hR; exact ⟨⟨_, _, rfl, ho_1.mono hb'.size⟩, hb_1⟩))), trivial⟩ (fun a_2 w_3 hs_2 hd_2 hb_2 hO_1 hV_1 => ?_)
   have ta_2_0 := (hO_1 0 (by decide)).trans ((pm rfl).trans ta_1_0)
   have ta_2_1 := (hO_1 1 (by decide)).trans ((pm rfl).trans ta_1_1)
   have ta_2_4 := (hO_1 4 (by decide)).trans ((pm rfl).trans ta_1_4)
   have ta_2_7 := (hO_1 7 (by decide)).trans ((pm rfl).trans ta_1_7)
   have ta_2_8 := (hO_1 8 (by decide)).trans ((pm rfl).trans ta_1_8)
   have ta_2_9 := (hO_1 9 (by decide)).trans ((pm rfl).trans ta_1_9)
   have ta_2_10 := (hO_1 10 (by decide)).trans ((pm rfl).trans ta_1_10)
   have ta_2_11 := (hO_1 11 (by decide)).trans ((pm rfl).trans ta_1_11)
   have ta_2_12 := (hO_1 12 (by decide)).trans ((pm rfl).trans ta_1_12)
   clear ta_1_0 ta_1_1 ta_1_4 ta_1_7 ta_1_8 ta_1_9 ta_1_10 ta_1_11 ta_1_5 ta_1_12 hd_1
   replace hO := hO.nx hb_2
   have HB_1 := below_from HBL hb_2
   have ta_2_15 : a_2.eval (.tmp 15) = .slice A1 (K) (c1) := hV_1 0 15 rfl rfl
   have x_1 := hV_1 10 25 rfl rfl
   obtain ⟨A_1, c_1, hv_1, hO_2⟩ := x_1
   replace hO_2 := hO_2.mono HBL.size
   clear hV_1 hO_1
   simp only [List.drop_succ_cons, List.drop_zero]
   refine op_ex (d := 26) rfl rfl (o_append rfl ((pm rfl).trans ta_2_15) ((pm rfl).trans hv_1) hO (hO_2).bs (by rw [xorL_length]) (by simp only [List.length_cons, List.length_nil]) (by omega) HB_1.size) (fun v_1 w_4 hR_1 => ?_)
   obtain ⟨A_2, c_2, rfl, ho_2, hb_3, hg_1, hat_1⟩ := hR_1
   have HB_2 : Below w.heap.size w w_4 := (HB_1).trans hb_3
   clear hg_1 hat_1 hO
   refine q_at (pe hs_2 rfl rfl) ?_
   refine x_nil (hK_10 _ _ ?_)
   refine hK_9 _ _ ?_
   refine x_region (by kernel_rfl) ?_
   refine q_v 27 (.int .i64 ((K + 1 : Nat) : Int)) (o_add64 (m := K) (n := 1) rfl ((pm rfl).trans ta_2_12) rfl (by omega)) ?_
   refine q_mv (pe hs_2 rfl rfl) ?_
   refine x_nil ?_
   refine hK_6 _ _ _ ⟨K + 1, A_2, c_2, rfl, (by rw [putsR_size]; exact hs_2), (by rw [putsR_defers]; exact hd_2), ((pm rfl).trans ta_2_0), ((pm rfl).trans ta_2_1), ((pm rfl).trans ta_2_4), (pe hs_2 rfl rfl), ((pm rfl).trans ta_2_7), ((pm rfl).trans ta_2_8), ((pm rfl).trans ta_2_9), ((pm rfl).trans ta_2_10), ((pm rfl).trans ta_2_11), (pe hs_2 rfl rfl), (by omega), ho_2, HB_2⟩ ?_
   omega
  ·simp only [DD9] at h_1
   refine w2_exit ?_
   refine thn_exit ?_
   refine thn_exit ?_
   refine exb_hit ?_
   refine hK_5 _ _ ?_
   refine hK_3 _ _ ?_
   refine w2_sr (fun K_12 hK_12 => ?_)
   refine q_mv ((pm rfl).trans ta_1_5) ?_
   refine q_at (pe hs_1 rfl rfl) ?_
   refine x_nil (hK_12 _ _ ?_)
   refine w2_ret ?_
   refine ret1 rfl hd_1 (pe hs_1 rfl rfl) ?_
   obtain rfl : K = min n m := by omega
   exact ⟨A1, c1, rfl, hO, HBL⟩
theorem xorL_take (xs ys : List Nat) (m : Nat) : ∀ K, K ≤ m → xorL (xs.take m) ys K = xorL xs ys K
 | 0, _ => rfl
 | K + 1, h => by
  rw [xorL, xorL, xorL_take xs ys m K (by omega)]
  congr 3
  simp only [List.getD_eq_getElem?_getD, List.getElem?_take]
  rw [if_pos (by omega)]
theorem xor_step (ks ns : List Nat) (n : Nat) {bs : List Nat} {q : Nat} (hq : bs.length = q) (K : Nat) : (xorSt ks ns n bs (List.range K)).1 ++ xorL (bs.drop (64 * K)) (blockL ks ns (xorSt ks ns n bs (List.range K)).2) (min (q - 64 * K) 64) = (xorSt ks ns n bs (List.range (K + 1))).1 := by
 rw [List.range_succ, xorSt_snoc, chunkL_length, hq, Nat.min_comm (q - 64 * K)]
 show _ = _ ++ _
 rw [chunkL, xorL_take _ _ _ _ (Nat.min_le_left _ _)]
theorem xor_snd (ks ns : List Nat) (n : Nat) (bs : List Nat) (K : Nat) : ((xorSt ks ns n bs (List.range K)).2 + 1) % 4294967296 = (xorSt ks ns n bs (List.range (K + 1))).2 := by rw [List.range_succ, xorSt_snoc]
set_option maxHeartbeats 1000000 in
theorem XorChaW_ok {A B C : Option Addr} {c d f m k q : Nat} {ks ns bs : List Nat} (n : Nat) (w : World) (ha : Bs w A c ks) (hb : Bs w B d ns) (hc : Bs w C f bs) (hm : ks.length = m) (hk : ns.length = k) (hq : bs.length = q) (hn : n < 4294967296) (hm32 : m = 32) (hk12 : k = 12) (hl : q ≤ 70368744177664) :
  Calls Try.prog 32 #[.slice A (m) (c), .slice B (k) (d), .int .u32 ((n : Nat) : Int), .slice C (q) (f)] w fun e w' => ∃ A c, e = .returned (.tuple #[.slice A q c, .int .i64 ((0 : Nat) : Int)]) ∧ Own w' w.heap.size A c (xorS ks ns n bs) ∧ Below w.heap.size w w' := by
 refine x_enter 45 Try.func32 rfl rfl (fun a hs hd ha0 => ?_)
 have t0 : a.eval (.tmp 0) = .slice A (m) (c) := ha0 0 _ rfl
 have t1 : a.eval (.tmp 1) = .slice B (k) (d) := ha0 1 _ rfl
 have t2 : a.eval (.tmp 2) = .int .u32 ((n : Nat) : Int) := ha0 2 _ rfl
 have t3 : a.eval (.tmp 3) = .slice C (q) (f) := ha0 3 _ rfl
 clear ha0
 refine w2_sr (fun K_1 hK_1 => ?_)
 refine q_as (.slice none (0) (0)) rfl ?_
 refine q_as (.int .i64 ((0 : Nat) : Int)) rfl ?_
 refine x_nil (hK_1 _ _ ?_)
 refine w2_seq (fun K_2 hK_2 => ?_)
 refine w2_sr (fun K_3 hK_3 => ?_)
 refine q_mv ((pm rfl).trans t0) ?_
 refine q_v 15 (.int .i64 ((m : Nat) : Int)) (o_len rfl (pe hs rfl rfl)) ?_
 refine q_v 16 (.bool (false)) (o_eq (o_neq (m := m) (n := 32) rfl (pe hs rfl rfl) rfl) (by rw [decide_eq_true hm32]; rfl)) ?_
 refine q_mv (pe hs rfl rfl) ?_
 refine op_valG (e := 17) (d := 18) (v := .slice B (k) (d)) rfl rfl (by kernel_rfl) (pe hs rfl rfl) (o_move rfl ((pm rfl).trans t1)) ?_
 refine op_valG (e := 17) (d := 19) (v := .int .i64 ((k : Nat) : Int)) rfl rfl (by kernel_rfl) (pe hs rfl rfl) (o_len rfl (pe hs rfl rfl)) ?_
 refine op_valG (e := 17) (d := 20) (v := .bool (false)) rfl rfl (by kernel_rfl) (pe hs rfl rfl) (o_eq (o_neq (m := k) (n := 12) rfl (pe hs rfl rfl) rfl) (by rw [decide_eq_true hk12]; rfl)) ?_
 refine q_v 21 (.bool (false)) (o_pickF rfl (pe hs rfl rfl) (pe hs rfl rfl)) ?_
 refine x_nil (hK_3 _ _ ?_)
 refine w2_condF (pe hs rfl rfl) ?_
 refine w2_skip ?_
 refine hK_2 _ _ ?_
 refine w2_sr (fun K_4 hK_4 => ?_)
 refine q_as (.slice none (0) (0)) rfl ?_
 refine x_nil (hK_4 _ _ ?_)
 refine w2_seq (fun K_5 hK_5 => ?_)
 refine w2_sr (fun K_6 hK_6 => ?_)
 refine q_as (.int .i64 ((0 : Nat) : Int)) rfl ?_
 refine x_nil (hK_6 _ _ ?_)
 refine w2_block (fun K_7 hK_7 => ?_)
 refine x_loop (fun nn aa ww => ∃ (K n1 c1 : Nat) (A1 : Option Addr), nn = q - 64 * K ∧ aa.tmps.size = 45 ∧ aa.defers = [] ∧ aa.eval (.tmp 0) = .slice A (m) (c) ∧ aa.eval (.tmp 1) = .slice B (k) (d) ∧ aa.eval (.tmp 2) = .int .u32 (((xorSt ks ns n bs (List.range K)).2 : Nat) : Int) ∧ aa.eval (.tmp 3) = .slice C (q) (f) ∧ aa.eval (.tmp 8) = .slice none (0) (0) ∧ aa.eval (.tmp 9) = .int .i64 ((0 : Nat) : Int) ∧ aa.eval (.tmp 10) = .slice A1 (n1) (c1) ∧ aa.eval (.tmp 11) = .int .i64 ((64 * K : Nat) : Int) ∧ aa.eval (.tmp 14) = .slice A (m) (c) ∧ aa.eval (.tmp 15) = .int .i64 ((m : Nat) : Int) ∧ aa.eval (.tmp 16) = .bool (false) ∧ aa.eval (.tmp 17) = .bool (false) ∧ aa.eval (.tmp 18) = .slice B (k) (d) ∧ aa.eval (.tmp 19) = .int .i64 ((k : Nat) : Int) ∧ aa.eval (.tmp 20) = .bool (false) ∧ aa.eval (.tmp 21) = .bool (false) ∧ K ≤ (q + 64 - 1) / 64 ∧ n1 = min (64 * K) q ∧ Own ww w.heap.size A1 c1 (xorSt ks ns n bs (List.range K)).1 ∧ Below w.heap.size w ww) (q) ?_ ?_
 ·exact ⟨0, 0, 0, none, rfl, (by rw [putsR_size]; exact hs), (by rw [putsR_defers]; exact hd), ((pm rfl).trans t0), ((pm rfl).trans t1), ((pm rfl).trans t2), ((pm rfl).trans t3), (pe hs rfl rfl), (pe hs rfl rfl), (pe hs rfl rfl), (pe hs rfl rfl), (pe hs rfl rfl), (pe hs rfl rfl), (pe hs rfl rfl), (pe hs rfl rfl), (pe hs rfl rfl), (pe hs rfl rfl), (pe hs rfl rfl), (pe hs rfl rfl), Nat.zero_le _, (by omega), Own.nil _ _, Below.refl _ _⟩
 ·skip
  clear t0 t1 t2 t3 hd
  rintro nna_1 a_1 w_1 ⟨K, n1, c1, A1, hm_1, hs_1, hd_1, ta_1_0, ta_1_1, ta_1_2, ta_1_3, ta_1_8, ta_1_9, ta_1_10, ta_1_11, ta_1_14, ta_1_15, ta_1_16, ta_1_17, ta_1_18, ta_1_19, ta_1_20, ta_1_21, hK, hn1, hO, HBL⟩ K_8 hK_8
  subst hm_1
  have hsl : (xorSt ks ns n bs (List.range K)).1.length = n1 := (xorSt_length ks ns n bs K).trans (by rw [hq, hn1])
  refine w2_seq (fun K_9 hK_9 => ?_)
  refine w2_sr (fun K_10 hK_10 => ?_)
  refine q_mv ((pm rfl).trans ta_1_11) ?_
  refine q_mv ((pm rfl).trans ta_1_3) ?_
  refine q_v 24 (.int .i64 ((q : Nat) : Int)) (o_len rfl (pe hs_1 rfl rfl)) ?_
  refine q_v 25 (.bool (decide ((64 * K) < q))) (o_lss (m := (64 * K)) (n := q) rfl (pe hs_1 rfl rfl) (pe hs_1 rfl rfl)) ?_
  refine x_nil (hK_10 _ _ ?_)
  refine w2_split (pe hs_1 rfl rfl) (fun h_1 => ?_) (fun h_1 => ?_)
  ·simp only [DD9] at h_1
   have hKq : 64 * K < q := h_1
   have hcl := hc.le
   refine w2_skip ?_
   refine hK_9 _ _ ?_
   refine w2_seq (fun K_11 hK_11 => ?_)
   refine w2_block (fun K_12 hK_12 => ?_)
   refine w2_sr (fun K_13 hK_13 => ?_)
   refine q_mv ((pm rfl).trans ta_1_0) ?_
   refine q_mv ((pm rfl).trans ta_1_1) ?_
   refine q_mv ((pm rfl).trans ta_1_2) ?_
   refine q_ca (vs := #[.slice A (m) (c), .slice B (k) (d), .int .u32 (((xorSt ks ns n bs (List.range K)).2 : Nat) : Int)]) Try.func58 (args3 (pe hs_1 rfl rfl) (pe hs_1 rfl rfl) (pe hs_1 rfl rfl)) (BlockW_ok ((xorSt ks ns n bs (List.range K)).2) _ (ha.below HBL) (hb.below HBL) hm hk (xorSt_lt ks ns n bs hn (List.range K)) hm32 hk12) (fun e_1 w_2 hR_1 => ?_)
   obtain ⟨A_1, c_1, rfl, ho_1, hb_1⟩ := hR_1
   replace ho_1 := ho_1.mono HBL.size
   replace hO := hO.nx hb_1
   have HB_1 := below_from HBL hb_1
   refine ⟨_, rfl, ?_⟩
   refine q_mv (pe hs_1 rfl rfl) ?_
   refine q_ex (v := .slice A_1 (64) (c_1)) (pe hs_1 rfl rfl) rfl ?_
   refine q_ex (v := .int .i64 ((0 : Nat) : Int)) (pe hs_1 rfl rfl) rfl ?_
   refine q_at (pe hs_1 rfl rfl) ?_
   refine q_at (v := .int .i64 ((0 : Nat) : Int)) (pe hs_1 rfl rfl) ?_
   refine x_nil (hK_13 _ _ ?_)
   refine w2_seq (fun K_14 hK_14 => ?_)
   have hsb := hc.sub (l := 64 * K) (q := q) (m := f) (by omega) (by have := hc.le; omega) (Nat.le_refl _)
   rw [show (bs.drop (64 * K)).take (q - 64 * K) = bs.drop (64 * K) from List.take_of_length_le (by rw [List.length_drop]; omega)] at hsb
   refine x_region (by kernel_rfl) ?_
   refine q_mv ((pm rfl).trans ta_1_10) ?_
   refine q_mv ((pm rfl).trans ta_1_3) ?_
   refine q_mv ((pm rfl).trans ta_1_11) ?_
   refine q_v 38 (.slice ((subA C (64 * K) f)) (q - (64 * K)) (f - (64 * K))) (o_sliceL (l := 64 * K) rfl (pe hs_1 rfl rfl) (pe hs_1 rfl rfl) (by omega)) ?_
   refine q_mv (pe hs_1 rfl rfl) ?_
   refine q_ca (vs := #[.slice ((subA C (64 * K) f)) (q - (64 * K)) (f - (64 * K)), .slice A_1 (64) (c_1)]) Try.func59 (args2 (pe hs_1 rfl rfl) (pe hs_1 rfl rfl)) (XorW_any _ (hsb.below HB_1) (ho_1).bs (by rw [List.length_drop, hq]) (by simp only [blockL_length]) (by omega)) (fun e_2 w_3 hR_2 => ?_)
   obtain ⟨A_2, c_2, rfl, ho_2, hb_2⟩ := hR_2
   replace ho_2 := ho_2.mono HB_1.size
   replace hO := hO.nx hb_2
   have HB_2 := below_from HB_1 hb_2
   refine ⟨_, rfl, ?_⟩
   refine op_ex (d := 41) rfl rfl (o_append rfl (pe hs_1 rfl rfl) (pe hs_1 rfl rfl) hO (ho_2).bs (by rw [hsl]) (by simp only [xorL_length]) (by omega) HB_2.size) (fun v_1 w_4 hR_3 => ?_)
   obtain ⟨A_3, c_3, rfl, ho_3, hb_3, hg_1, hat_1⟩ := hR_3
   have HB_3 : Below w.heap.size w w_4 := (HB_2).trans hb_3
   clear hg_1 hat_1 hO
   refine q_at (pe hs_1 rfl rfl) ?_
   refine x_nil (hK_14 _ _ ?_)
   refine x_region (by kernel_rfl) ?_
   refine q_mv ((pm rfl).trans ta_1_2) ?_
   refine q_v 43 (.int .u32 (((xorSt ks ns n bs (List.range (K + 1))).2 : Nat) : Int)) (o_eq (o_addU (m := ((xorSt ks ns n bs (List.range K)).2)) (n := 1) ((((xorSt ks ns n bs (List.range K)).2) + 1) % 4294967296) rfl (pe hs_1 rfl rfl) rfl (by rw [IntKind.wrap_u32]; omega)) (by rw [xor_snd])) ?_
   refine q_at (pe hs_1 rfl rfl) ?_
   refine x_nil (hK_12 _ _ ?_)
   refine hK_11 _ _ ?_
   refine x_region (by kernel_rfl) ?_
   refine q_mv ((pm rfl).trans ta_1_11) ?_
   refine q_v 27 (.int .i64 ((64 * (K + 1) : Nat) : Int)) (o_eq (o_add64 (m := (64 * K)) (n := 64) rfl (pe hs_1 rfl rfl) rfl (by omega)) (congrArg (fun z : Nat => Value.int .i64 (z : Int)) (by omega))) ?_
   refine q_at (pe hs_1 rfl rfl) ?_
   refine x_nil ?_
   refine hK_8 _ _ _ ⟨K + 1, _, c_3, A_3, rfl, (by rw [putsR_size]; exact hs_1), (by rw [putsR_defers]; exact hd_1), ((pm rfl).trans ta_1_0), ((pm rfl).trans ta_1_1), (pe hs_1 rfl rfl), ((pm rfl).trans ta_1_3), ((pm rfl).trans ta_1_8), ((pm rfl).trans ta_1_9), (pe hs_1 rfl rfl), (pe hs_1 rfl rfl), ((pm rfl).trans ta_1_14), ((pm rfl).trans ta_1_15), ((pm rfl).trans ta_1_16), ((pm rfl).trans ta_1_17), ((pm rfl).trans ta_1_18), ((pm rfl).trans ta_1_19), ((pm rfl).trans ta_1_20), ((pm rfl).trans ta_1_21), (by omega), (by omega), (by rw [← xor_step ks ns n hq K]; exact ho_3), HB_3⟩ ?_
   omega
  ·simp only [DD9] at h_1
   obtain rfl : K = (q + 64 - 1) / 64 := by omega
   refine w2_exit ?_
   refine thn_exit ?_
   refine thn_exit ?_
   refine exb_hit ?_
   refine hK_7 _ _ ?_
   refine hK_5 _ _ ?_
   refine w2_sr (fun K_15 hK_15 => ?_)
   refine q_mv ((pm rfl).trans ta_1_10) ?_
   refine q_at (pe hs_1 rfl rfl) ?_
   refine q_as (.int .i64 ((0 : Nat) : Int)) rfl ?_
   refine x_nil (hK_15 _ _ ?_)
   refine w2_ret ?_
   refine ret2 rfl hd_1 (pe hs_1 rfl rfl) (pe hs_1 rfl rfl) ?_
   exact ⟨_, _, by rw [hn1, Nat.min_eq_right (by omega)], (by unfold xorS; rw [hq]; exact hO), HBL⟩
theorem XorChaW_no1 {A B C : Option Addr} {c d f m k q : Nat} {ks ns bs : List Nat} (n : Nat) (w : World) (ha : Bs w A c ks) (hb : Bs w B d ns) (hc : Bs w C f bs) (hm : ks.length = m) (hk : ns.length = k) (hq : bs.length = q) (hn : n < 4294967296) (h32 : ¬ m = 32) :
  Calls Try.prog 32 #[.slice A (m) (c), .slice B (k) (d), .int .u32 ((n : Nat) : Int), .slice C (q) (f)] w fun e w' => e = .returned (.tuple #[.slice none 0 0, .int .i64 ((1 : Nat) : Int)]) ∧ Below w.heap.size w w' := by
 refine x_enter 45 Try.func32 rfl rfl (fun a hs hd ha0 => ?_)
 have t0 : a.eval (.tmp 0) = .slice A (m) (c) := ha0 0 _ rfl
 clear ha0
 refine w2_sr (fun K_1 hK_1 => ?_)
 refine q_as (.slice none (0) (0)) rfl ?_
 refine q_as (.int .i64 ((0 : Nat) : Int)) rfl ?_
 refine x_nil (hK_1 _ _ ?_)
 refine w2_seq (fun K_2 hK_2 => ?_)
 refine w2_sr (fun K_3 hK_3 => ?_)
 refine q_mv ((pm rfl).trans t0) ?_
 refine q_v 15 (.int .i64 ((m : Nat) : Int)) (o_len rfl (pe hs rfl rfl)) ?_
 refine q_v 16 (.bool (true)) (o_eq (o_neq (m := m) (n := 32) rfl (pe hs rfl rfl) rfl) (by rw [decide_eq_false h32]; rfl)) ?_
 refine q_mv (pe hs rfl rfl) ?_
 refine op_left (e := 17) rfl rfl (by kernel_rfl) (pe hs rfl rfl) rfl ?_
 refine op_left (e := 17) rfl rfl (by kernel_rfl) (pe hs rfl rfl) rfl ?_
 refine op_left (e := 17) rfl rfl (by kernel_rfl) (pe hs rfl rfl) rfl ?_
 refine q_v 21 (.bool (true)) (o_pickT rfl (pe hs rfl rfl) rfl) ?_
 refine x_nil (hK_3 _ _ ?_)
 refine w2_condT (pe hs rfl rfl) ?_
 refine w2_sr (fun K_4 hK_4 => ?_)
 refine q_as (.slice none (0) (0)) rfl ?_
 refine q_as (.int .i64 ((1 : Nat) : Int)) rfl ?_
 refine x_nil (hK_4 _ _ ?_)
 refine w2_ret ?_
 refine thn_ret ?_
 refine ret2 rfl hd (pe hs rfl rfl) (pe hs rfl rfl) ?_
 exact ⟨rfl, Below.refl _ _⟩
theorem XorChaW_no2 {A B C : Option Addr} {c d f m k q : Nat} {ks ns bs : List Nat} (n : Nat) (w : World) (ha : Bs w A c ks) (hb : Bs w B d ns) (hc : Bs w C f bs) (hm : ks.length = m) (hk : ns.length = k) (hq : bs.length = q) (hn : n < 4294967296) (h32 : m = 32) (h12 : ¬ k = 12) :
  Calls Try.prog 32 #[.slice A (m) (c), .slice B (k) (d), .int .u32 ((n : Nat) : Int), .slice C (q) (f)] w fun e w' => e = .returned (.tuple #[.slice none 0 0, .int .i64 ((1 : Nat) : Int)]) ∧ Below w.heap.size w w' := by
 refine x_enter 45 Try.func32 rfl rfl (fun a hs hd ha0 => ?_)
 have t0 : a.eval (.tmp 0) = .slice A (m) (c) := ha0 0 _ rfl
 have t1 : a.eval (.tmp 1) = .slice B (k) (d) := ha0 1 _ rfl
 clear ha0
 refine w2_sr (fun K_1 hK_1 => ?_)
 refine q_as (.slice none (0) (0)) rfl ?_
 refine q_as (.int .i64 ((0 : Nat) : Int)) rfl ?_
 refine x_nil (hK_1 _ _ ?_)
 refine w2_seq (fun K_2 hK_2 => ?_)
 refine w2_sr (fun K_3 hK_3 => ?_)
 refine q_mv ((pm rfl).trans t0) ?_
 refine q_v 15 (.int .i64 ((m : Nat) : Int)) (o_len rfl (pe hs rfl rfl)) ?_
 refine q_v 16 (.bool (false)) (o_eq (o_neq (m := m) (n := 32) rfl (pe hs rfl rfl) rfl) (by rw [decide_eq_true h32]; rfl)) ?_
 refine q_mv (pe hs rfl rfl) ?_
 refine op_valG (e := 17) (d := 18) (v := .slice B (k) (d)) rfl rfl (by kernel_rfl) (pe hs rfl rfl) (o_move rfl ((pm rfl).trans t1)) ?_
 refine op_valG (e := 17) (d := 19) (v := .int .i64 ((k : Nat) : Int)) rfl rfl (by kernel_rfl) (pe hs rfl rfl) (o_len rfl (pe hs rfl rfl)) ?_
 refine op_valG (e := 17) (d := 20) (v := .bool (true)) rfl rfl (by kernel_rfl) (pe hs rfl rfl) (o_eq (o_neq (m := k) (n := 12) rfl (pe hs rfl rfl) rfl) (by rw [decide_eq_false h12]; rfl)) ?_
 refine q_v 21 (.bool (true)) (o_pickF rfl (pe hs rfl rfl) (pe hs rfl rfl)) ?_
 refine x_nil (hK_3 _ _ ?_)
 refine w2_condT (pe hs rfl rfl) ?_
 refine w2_sr (fun K_4 hK_4 => ?_)
 refine q_as (.slice none (0) (0)) rfl ?_
 refine q_as (.int .i64 ((1 : Nat) : Int)) rfl ?_
 refine x_nil (hK_4 _ _ ?_)
 refine w2_ret ?_
 refine thn_ret ?_
 refine ret2 rfl hd (pe hs rfl rfl) (pe hs rfl rfl) ?_
 exact ⟨rfl, Below.refl _ _⟩
theorem joinW_any {ps : List Part} {gs : Nat} (w : World) (hB : Blk w gs (ps.map Part.val).toArray 22) (hP : ∀ p ∈ ps, Bs w p.A p.c p.xs) (hl : (joinP ps ps.length).length ≤ 70368744177664) (hl2 : ps.length ≤ 4611686018427387904) :
  Calls Try.prog 61 #[.slice ((some ⟨gs, 0, none⟩)) (ps.length) (ps.length)] w fun e w' => ∃ A c, e = .returned (.slice A (joinP ps ps.length).length c) ∧ Own w' w.heap.size A c (joinP ps ps.length) ∧ Below w.heap.size w w' := by
 refine x_enter 17 Try.func61 rfl rfl (fun a hs hd ha0 => ?_)
 have t0 : a.eval (.tmp 0) = .slice ((some ⟨gs, 0, none⟩)) (ps.length) (ps.length) := ha0 0 _ rfl
 clear ha0
 refine w2_sr (fun K_1 hK_1 => ?_)
 refine q_as (.slice none (0) (0)) rfl ?_
 refine x_nil (hK_1 _ _ ?_)
 refine w2_sr (fun K_2 hK_2 => ?_)
 refine q_as (.slice none (0) (0)) rfl ?_
 refine x_nil (hK_2 _ _ ?_)
 refine w2_seq (fun K_3 hK_3 => ?_)
 refine w2_sr (fun K_4 hK_4 => ?_)
 refine q_mv ((pm rfl).trans t0) ?_
 refine q_v 7 (.int .i64 ((ps.length : Nat) : Int)) (o_lenS rfl (pe hs rfl rfl)) ?_
 refine q_v 8 (.int .i64 ((0 : Nat) : Int)) (o_move rfl rfl) ?_
 refine x_nil (hK_4 _ _ ?_)
 refine w2_block (fun K_5 hK_5 => ?_)
 refine x_loop (fun nn aa ww => ∃ (K n1 c1 : Nat) (A1 : Option Addr), nn = ps.length - K ∧ aa.tmps.size = 17 ∧ aa.defers = [] ∧ aa.eval (.tmp 0) = .slice ((some ⟨gs, 0, none⟩)) (ps.length) (ps.length) ∧ aa.eval (.tmp 2) = .slice none (0) (0) ∧ aa.eval (.tmp 3) = .slice A1 (n1) (c1) ∧ aa.eval (.tmp 6) = .slice ((some ⟨gs, 0, none⟩)) (ps.length) (ps.length) ∧ aa.eval (.tmp 7) = .int .i64 ((ps.length : Nat) : Int) ∧ aa.eval (.tmp 8) = .int .i64 ((K : Nat) : Int) ∧ K ≤ ps.length ∧ n1 = (joinP ps K).length ∧ Own ww w.heap.size A1 c1 (joinP ps K) ∧ Below w.heap.size w ww) (ps.length) ?_ ?_
 ·exact ⟨0, 0, 0, none, rfl, (by rw [putsR_size]; exact hs), (by rw [putsR_defers]; exact hd), ((pm rfl).trans t0), (pe hs rfl rfl), (pe hs rfl rfl), (pe hs rfl rfl), (pe hs rfl rfl), (pe hs rfl rfl), Nat.zero_le _, rfl, Own.nil _ _, Below.refl _ _⟩
 ·skip
  clear t0 hd
  rintro nna_1 a_1 w_1 ⟨K, n1, c1, A1, hm_1, hs_1, hd_1, ta_1_0, ta_1_2, ta_1_3, ta_1_6, ta_1_7, ta_1_8, hK, hn1, hO, HBL⟩ K_6 hK_6
  subst hm_1
  refine w2_sr (fun K_7 hK_7 => ?_)
  refine q_v 9 (.bool (decide (K < ps.length))) (o_lss (m := K) (n := ps.length) rfl ((pm rfl).trans ta_1_8) ((pm rfl).trans ta_1_7)) ?_
  refine x_nil (hK_7 _ _ ?_)
  refine w2_seq (fun K_8 hK_8 => ?_)
  refine w2_split (pe hs_1 rfl rfl) (fun h_1 => ?_) (fun h_1 => ?_)
  ·simp only [DD9] at h_1
   have hlt : K < ps.length := h_1
   have hPK := hP _ (Part.mem hlt)
   have hjl := joinP_le ps _ hl (K + 1) hlt
   rw [joinP, List.length_append] at hjl
   refine w2_skip ?_
   refine hK_8 _ _ ?_
   refine w2_seq (fun K_9 hK_9 => ?_)
   refine w2_block (fun K_10 hK_10 => ?_)
   refine w2_sr (fun K_11 hK_11 => ?_)
   refine op_val (d := 10) (v := .pointer (some ⟨gs, K, none⟩)) rfl rfl (zero_off (o_ixS (off := 0) (i := K) rfl ((pm rfl).trans ta_1_6) ((pm rfl).trans ta_1_8) (by omega))) ?_
   refine q_v 11 (.slice ((Part.at ps K).A) ((Part.at ps K).xs.length) ((Part.at ps K).c)) (o_eq (o_load1 rfl (pe hs_1 rfl rfl) (hB.nx HBL) (Part.get hlt) ⟨by kernel_rfl, by kernel_rfl⟩) rfl) ?_
   refine q_at (pe hs_1 rfl rfl) ?_
   refine x_nil (hK_11 _ _ ?_)
   refine x_region (by kernel_rfl) ?_
   refine q_mv ((pm rfl).trans ta_1_3) ?_
   refine q_mv (pe hs_1 rfl rfl) ?_
   refine op_ex (d := 14) rfl rfl (o_append rfl (pe hs_1 rfl rfl) (pe hs_1 rfl rfl) hO (hPK.below HBL) (by rw [hn1]) rfl (by omega) HBL.size) (fun v_1 w_2 hR_1 => ?_)
   obtain ⟨A_1, c_1, rfl, ho_1, hb_1, hg_1, hat_1⟩ := hR_1
   have HB_1 : Below w.heap.size w w_2 := (HBL).trans hb_1
   clear hg_1 hat_1 hO
   refine q_at (pe hs_1 rfl rfl) ?_
   refine x_nil (hK_10 _ _ ?_)
   refine hK_9 _ _ ?_
   refine x_region (by kernel_rfl) ?_
   refine q_v 15 (.int .i64 ((K + 1 : Nat) : Int)) (o_add64 (m := K) (n := 1) rfl ((pm rfl).trans ta_1_8) rfl (by omega)) ?_
   refine q_mv (pe hs_1 rfl rfl) ?_
   refine x_nil ?_
   refine hK_6 _ _ _ ⟨K + 1, _, c_1, A_1, rfl, (by rw [putsR_size]; exact hs_1), (by rw [putsR_defers]; exact hd_1), ((pm rfl).trans ta_1_0), ((pm rfl).trans ta_1_2), (pe hs_1 rfl rfl), ((pm rfl).trans ta_1_6), ((pm rfl).trans ta_1_7), (pe hs_1 rfl rfl), (by omega), (by rw [joinP, List.length_append, hn1]), ho_1, HB_1⟩ ?_
   omega
  ·simp only [DD9] at h_1
   obtain rfl : K = ps.length := by omega
   refine w2_exit ?_
   refine thn_exit ?_
   refine thn_exit ?_
   refine exb_hit ?_
   refine hK_5 _ _ ?_
   refine hK_3 _ _ ?_
   refine w2_sr (fun K_12 hK_12 => ?_)
   refine q_mv ((pm rfl).trans ta_1_3) ?_
   refine q_at (pe hs_1 rfl rfl) ?_
   refine x_nil (hK_12 _ _ ?_)
   refine w2_ret ?_
   refine ret1 rfl hd_1 (pe hs_1 rfl rfl) ?_
   exact ⟨_, _, by rw [hn1], hO, HBL⟩
theorem joinW4 {A1 A2 A3 A4 : Option Addr} {c1 n1 c2 n2 c3 n3 c4 n4 gs : Nat} {x1 x2 x3 x4 : List Nat} (w : World) (hB : Blk w gs #[.slice A1 n1 c1, .slice A2 n2 c2, .slice A3 n3 c3, .slice A4 n4 c4] 22) (h1 : Bs w A1 c1 x1) (e1 : x1.length = n1) (h2 : Bs w A2 c2 x2) (e2 : x2.length = n2) (h3 : Bs w A3 c3 x3) (e3 : x3.length = n3) (h4 : Bs w A4 c4 x4) (e4 : x4.length = n4) (hl : n1 + n2 + n3 + n4 ≤ 70368744177664) :
  Calls Try.prog 61 #[.slice (some ⟨gs, 0, none⟩) 4 4] w fun e w' => ∃ A c, e = .returned (.slice A (n1 + n2 + n3 + n4) c) ∧ Own w' w.heap.size A c (x1 ++ x2 ++ x3 ++ x4) ∧ Below w.heap.size w w' := by
 subst e1 e2 e3 e4
 have hj : joinP [⟨A1, c1, x1⟩, ⟨A2, c2, x2⟩, ⟨A3, c3, x3⟩, ⟨A4, c4, x4⟩] 4 = x1 ++ x2 ++ x3 ++ x4 := by simp [joinP, Part.at]
 have h := joinW_any (ps := [⟨A1, c1, x1⟩, ⟨A2, c2, x2⟩, ⟨A3, c3, x3⟩, ⟨A4, c4, x4⟩]) (gs := gs) w hB (by intro p hp; simp only [List.mem_cons, List.not_mem_nil, or_false] at hp; rcases hp with rfl | rfl | rfl | rfl <;> assumption) (by show (joinP _ 4).length ≤ _; rw [hj]; simp only [List.length_append]; omega) (by simp)
 have hlen : (joinP [⟨A1, c1, x1⟩, ⟨A2, c2, x2⟩, ⟨A3, c3, x3⟩, ⟨A4, c4, x4⟩] 4).length = x1.length + x2.length + x3.length + x4.length := by rw [hj]; simp only [List.length_append]
 simp only [List.length_cons, List.length_nil, Nat.zero_add, Nat.reduceAdd] at h
 rw [hlen, hj] at h
 exact h
theorem NonceW_any (n : Nat) (w : World) (hn : n < 18446744073709551616) :
  Calls Try.prog 10 #[.int .u64 ((n : Nat) : Int)] w fun e w' => ∃ A c, e = .returned (.slice A 12 c) ∧ Own w' w.heap.size A c (nonceL n) ∧ Below w.heap.size w w' := by
 refine x_enter 7 Try.func10 rfl rfl (fun a hs hd ha0 => ?_)
 have t0 : a.eval (.tmp 0) = .int .u64 ((n : Nat) : Int) := ha0 0 _ rfl
 clear ha0
 refine w2_sr (fun K_1 hK_1 => ?_)
 refine q_as (.slice none (0) (0)) rfl ?_
 refine x_nil (hK_1 _ _ ?_)
 refine w2_seq (fun K_2 hK_2 => ?_)
 refine x_drawn 3 [fun ww vv => OwnN w.heap.size (4) (List.replicate 4 0) ww vv, fun _ v => v = .int .u64 ((n : Nat) : Int), fun ww vv => OwnN w.heap.size (8) (putL n 8) ww vv] [3, 4, 5] hs hd (by kernel_rfl) (by kernel_rfl) (by kernel_rfl) (by kernel_rfl) (by kernel_rfl) ⟨stOwn, stLit, stOwn, trivial⟩ ⟨(step_ok rfl (fun a' w' hb' hO hD => by
   exact out_new (o_make (n := 4) rfl rfl rfl (fun _ => by kernel_rfl) (by omega)) (fun v w_1 hR => by obtain ⟨g_1, rfl, ho_1, hb_1⟩ := hR; exact ⟨⟨_, _, rfl, ho_1.mono hb'.size⟩, hb_1⟩))),
(step_ok rfl (fun a' w' hb' hO hD => by
   have d_1 := (hO 0 (by decide)).trans ((pm rfl).trans t0)
   exact .inl ⟨_, _, (o_move rfl d_1), rfl, Below.refl _ _⟩)),
(step_ok rfl (fun a' w' hb' hO hD => by
   have d_2 : a'.eval (.tmp 4) = .int .u64 ((n : Nat) : Int) := hD 1 4 (by kernel_rfl) rfl
   exact .inr ⟨_, #[.int .u64 ((n : Nat) : Int), .int .i64 ((8 : Nat) : Int)], (exec_call Try.func35 (by kernel_rfl) (by kernel_rfl) _ rfl _ _ (args2 d_2 rfl)), Calls.mono (PutLowW_any n 8 _ hn (by decide)) (fun e w'' hR => by obtain ⟨A_1, c_1, rfl, ho_2, hb_2⟩ := hR; exact ⟨_, rfl, ⟨_, _, rfl, ho_2.mono hb'.size⟩, hb_2⟩)⟩)), trivial⟩ (fun a_1 w_2 hs_1 hd_1 hb_3 hO_1 hV_1 => ?_)
 clear t0 hd
 have x_1 := hV_1 0 3 rfl rfl
 obtain ⟨A_2, c_2, hv_1, hO_2⟩ := x_1
 have x_2 := hV_1 2 5 rfl rfl
 obtain ⟨A_3, c_3, hv_2, hO_3⟩ := x_2
 clear hV_1 hO_1
 simp only [List.drop_succ_cons, List.drop_zero]
 refine op_ex (d := 6) rfl rfl (o_append rfl ((pm rfl).trans hv_1) ((pm rfl).trans hv_2) hO_2 (hO_3).bs (by rw [List.length_replicate]) (putL_length _ _) (by omega) hb_3.size) (fun v_1 w_3 hR_1 => ?_)
 obtain ⟨A_4, c_4, rfl, ho_3, hb_4, hg_1, hat_1⟩ := hR_1
 have HB_1 : Below w.heap.size w w_3 := (hb_3).trans hb_4
 clear hg_1 hat_1 hO_2
 refine q_at (pe hs_1 rfl rfl) ?_
 refine x_nil (hK_2 _ _ ?_)
 refine w2_ret ?_
 refine ret1 rfl hd_1 (pe hs_1 rfl rfl) ?_
 exact ⟨_, _, rfl, ho_3, HB_1⟩
theorem filledW_any {A : Option Addr} {c n : Nat} {xs : List Nat} (w : World) (ha : Bs w A c xs) (hn : xs.length = n) (hl : n ≤ 70368744177664) :
  Calls Try.prog 62 #[.slice A (n) (c)] w fun e w' => ∃ A c, e = .returned (.slice A (fillL xs).length c) ∧ Own w' w.heap.size A c (fillL xs) ∧ Below w.heap.size w w' := by
 refine x_enter 11 Try.func62 rfl rfl (fun a hs hd ha0 => ?_)
 have t0 : a.eval (.tmp 0) = .slice A (n) (c) := ha0 0 _ rfl
 clear ha0
 refine w2_sr (fun K_1 hK_1 => ?_)
 refine q_as (.slice none (0) (0)) rfl ?_
 refine x_nil (hK_1 _ _ ?_)
 refine w2_sr (fun K_2 hK_2 => ?_)
 refine q_mv ((pm rfl).trans t0) ?_
 refine op_ex (d := 4) rfl rfl (o_append rfl rfl (pe hs rfl rfl) (Own.nil w w.heap.size) ha rfl hn (by omega) (Nat.le_refl _)) (fun v_1 w_1 hR_1 => ?_)
 obtain ⟨A_1, c_1, rfl, ho_1, hb_1, hg_1, hat_1⟩ := hR_1
 have HB_1 : Below w.heap.size w w_1 := hb_1
 clear hg_1 hat_1 
 refine q_mv ((pm rfl).trans t0) ?_
 refine q_v 6 (.int .i64 ((n : Nat) : Int)) (o_len rfl (pe hs rfl rfl)) ?_
 refine q_v 7 (.int .i64 ((n % 16 : Nat) : Int)) (o_rem (m := n) (n := 16) rfl (pe hs rfl rfl) rfl (by omega) (IntWalk.i64_in _ (by omega))) ?_
 refine q_v 8 (.int .i64 ((16 - (n % 16) : Nat) : Int)) (o_sub64 (m := 16) (n := (n % 16)) rfl rfl (pe hs rfl rfl) (by omega) (by omega)) ?_
 refine q_v 9 (.int .i64 (((16 - (n % 16)) % 16 : Nat) : Int)) (o_rem (m := (16 - (n % 16))) (n := 16) rfl (pe hs rfl rfl) rfl (by omega) (IntWalk.i64_in _ (by omega))) ?_
 refine op_ex (d := 10) rfl rfl (o_appendZ (m := (16 - (n % 16)) % 16) rfl (pe hs rfl rfl) (pe hs rfl rfl) ho_1 (by rw [List.nil_append, hn, Nat.zero_add]) (by omega) HB_1.size) (fun v_2 w_2 hR_2 => ?_)
 obtain ⟨A_2, c_2, rfl, ho_2, hb_2, hg_2, hat_2⟩ := hR_2
 have HB_2 : Below w.heap.size w w_2 := (HB_1).trans hb_2
 clear hg_2 hat_2 ho_1
 refine q_at (pe hs rfl rfl) ?_
 refine x_nil (hK_2 _ _ ?_)
 refine w2_ret ?_
 refine ret1 rfl hd (pe hs rfl rfl) ?_
 exact ⟨_, _, by rw [fillL_length, hn, Nat.zero_add], (by unfold fillL; rw [hn]; exact ho_2), HB_2⟩
end Go.Proofs.Ytggalcdkfielkaa
