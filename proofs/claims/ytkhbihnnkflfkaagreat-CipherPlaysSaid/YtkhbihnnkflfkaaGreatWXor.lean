/-
 WALKS: word.Xor.
-/
import Derived.Test.YtkhbihnnkflfkaaGreatEz
import Derived.Test.YtkhbihnnkflfkaaGreatOps
namespace Go.Proofs.YtkhbihnnkflfkaaGreat
open Go.RowKit
set_option maxHeartbeats 8000000
set_option linter.unusedVariables false
set_option linter.unusedSimpArgs false
set_option maxRecDepth 100000
attribute [local irreducible] wpList wpListIn putsR

def xorL (xs ys : List Nat) : Nat → List Nat
 | 0 => []
 | K + 1 => xorL xs ys K ++ [xs.getD K 0 ^^^ ys.getD K 0]
theorem xorL_length (xs ys : List Nat) (K : Nat) : (xorL xs ys K).length = K := by
 induction K with
 | zero => rfl
 | succ K ih => simp [xorL, ih]
theorem xor8 (a b : Nat) (ha : a < 256) (hb : b < 256) : a ^^^ b < 256 := Nat.xor_lt_two_pow (n := 8) ha hb
theorem WXor_any {A B : Option Addr} {c d n m : Nat} {xs ys : List Nat} (w : World) (ha : Bs w A c xs) (hb : Bs w B d ys) (hn : xs.length = n) (hm : ys.length = m) (hl : n ≤ 70368744177664) :
  Calls Tryz.prog 98 #[.slice A (n) (c), .slice B (m) (d)] w fun e w' => ∃ A' c', e = .returned (.slice A' (min n m) c') ∧ Own w' w.heap.size A' c' (xorL xs ys (min n m)) ∧ Below w.heap.size w w' := by
 refine x_enter 29 Tryz.func98 rfl rfl (fun a hs hd ha0 => ?_)
 have t0 := tA 0 ha0
 have t1 := tA 1 ha0
 clear ha0
 iterate 12 refine e1 ?_
 refine q_w (o_len rfl ev) ?_
 refine e1 ?_
 refine q_w (o_len rfl ev) ?_
 refine q_v 11 (.int .i64 ((min n m : Nat) : Int)) (o_min rfl ev ev) ?_
 refine q_v 12 (.int .i64 ((0 : Nat) : Int)) (o_move rfl rfl) ?_
 iterate 2 refine e1 ?_
 refine x_loop (fun nn aa ww => ∃ (K : Nat) (A1 : Option Addr) (c1 : Nat), nn = min n m - K ∧ aa.tmps.size = 29 ∧ aa.defers = [] ∧ aa.eval (.tmp 0) = .slice A (n) (c) ∧ aa.eval (.tmp 1) = .slice B (m) (d) ∧ aa.eval (.tmp 5) = .slice A1 (K) (c1) ∧ aa.eval (.tmp 11) = .int .i64 ((min n m : Nat) : Int) ∧ aa.eval (.tmp 12) = .int .i64 ((K : Nat) : Int) ∧ K ≤ min n m ∧ Own ww w.heap.size A1 c1 (xorL xs ys K) ∧ Below w.heap.size w ww) (min n m) ?_ ?_
 ·exact ⟨0, none, 0, rfl, (psz hs), (pdf hd), ev, ev, ev, ev, ev, Nat.zero_le _, Own.nil _ _, Below.refl _ _⟩
 ·skip
  rintro nna_1 a_1 w_1 ⟨K, A1, c1, hm_1, hs_1, hd_1, ta_1_0, ta_1_1, ta_1_5, ta_1_11, ta_1_12, hK, hO, HBL⟩ K_6 hK_6
  subst hm_1
  iterate 2 refine e1 ?_
  refine q_w (o_lss rfl ev ev) ?_
  iterate 2 refine e1 ?_
  refine w2_split (pe hs_1 rfl rfl) (fun h_1 => ?_) (fun h_1 => ?_)
  ·simp only [DD9] at h_1
   have hn1 : K < n := by omega
   have hm1 : K < m := by omega
   iterate 9 refine e1 ?_
   refine y_drawn 11 [iV (.slice A1 (K) (c1)), iV (.slice A (n) (c)), iI .i64 K, iV (.pointer (atA A (K))), iV (.int .u8 ((xs.getD (K) 0 : Nat) : Int)), iV (.slice B (m) (d)), iI .i64 K, iV (.pointer (atA B (K))), iV (.int .u8 ((ys.getD (K) 0 : Nat) : Int)), iV (.int .u8 (((xs.getD (K) 0) ^^^ (ys.getD (K) 0) : Nat) : Int)), fun w v => OwnN w_1.heap.size 1 [(xs.getD (K) 0) ^^^ (ys.getD (K) 0)] w v] [15, 16, 17, 18, 19, 20, 21, 22, 23, 24, 25] hs_1 hd_1 ⟨sx, sx, sx, (step_ok rfl fun a' w' hb' hO hD => oV (o_ix (k := K) rfl ed ed (by omega) ((ha.below (below_from HBL hb')).some (by rw [hn]; omega))) rfl), (step_ok rfl fun a' w' hb' hO hD => oV (o_ld8 rfl ed (ha.below (below_from HBL hb')) (by rw [hn]; omega) rfl) rfl), sx, sx, (step_ok rfl fun a' w' hb' hO hD => oV (o_ix (k := K) rfl ed ed (by omega) ((hb.below (below_from HBL hb')).some (by rw [hm]; omega))) rfl), (step_ok rfl fun a' w' hb' hO hD => oV (o_ld8 rfl ed (hb.below (below_from HBL hb')) (by rw [hm]; omega) rfl) rfl), (step_ok rfl fun a' w' hb' hO hD => oV (o_bits (m := (xs.getD (K) 0)) (n := (ys.getD (K) 0)) ((xs.getD (K) 0) ^^^ (ys.getD (K) 0)) rfl ed ed (by decide) (u8_xor_nat _ _ (getD_lt ha.b8 _) (getD_lt hb.b8 _))) rfl),
(step_ok rfl (fun a' w' hb' hO hD => by
     have d_14 : a'.eval (.tmp 24) = .int .u8 (((xs.getD (K) 0) ^^^ (ys.getD (K) 0) : Nat) : Int) := hD 9 24 (by kernel_rfl) rfl
     exact out_new (o_build1 (m := (xs.getD (K) 0) ^^^ (ys.getD (K) 0)) rfl d_14 (xor8 _ _ (getD_lt ha.b8 _) (getD_lt hb.b8 _))) (fun v w_2 hR => by obtain ⟨g_1, rfl, ho_1, hb_1⟩ := hR; exact ⟨⟨_, _, rfl, ho_1.mono hb'.size⟩, hb_1⟩))), trivial⟩ (fun a_2 w_3 hs_2 hd_2 hb_2 hO_1 hV_1 => ?_)
   have ta_2_0 := fK 0 hO_1
   have ta_2_1 := fK 1 hO_1
   have ta_2_11 := fK 11 hO_1
   have ta_2_12 := fK 12 hO_1
   replace hO := hO.nx hb_2
   have HB_1 := below_from HBL hb_2
   have ta_2_15 := fV 15 hV_1
   have x_1 := hV_1 10 25 rfl rfl
   obtain ⟨A_1, c_1, hv_1, hO_2⟩ := x_1
   replace hO_2 := hO_2.mono HBL.size
   simp only [List.drop_succ_cons, List.drop_zero]
   refine q_x (o_append rfl ev ((pm rfl).trans hv_1) hO (hO_2).bs (by rw [xorL_length]) (by simp only [List.length_cons, List.length_nil]) (by omega) HB_1.size) (fun v_1 w_4 hR_1 => ?_)
   obtain ⟨A_2, c_2, rfl, ho_2, hb_3, hg_1, hat_1⟩ := hR_1
   have HB_2 : Below w.heap.size w w_4 := (HB_1).trans hb_3
   iterate 4 refine e1 ?_
   refine q_w (o_add64 (n := 1) rfl ev rfl (by omega)) ?_
   refine e1 ?_
   refine x_nil ?_
   refine hK_6 _ _ _ ⟨K + 1, A_2, c_2, rfl, (psz hs_2), (pdf hd_2), ev, ev, ev, ev, ev, (by omega), ho_2, HB_2⟩ ?_
   omega
  ·simp only [DD9] at h_1
   iterate 12 refine e1 ?_
   obtain rfl : K = min n m := by omega
   exact ⟨A1, c1, rfl, hO, HBL⟩
end Go.Proofs.YtkhbihnnkflfkaaGreat
