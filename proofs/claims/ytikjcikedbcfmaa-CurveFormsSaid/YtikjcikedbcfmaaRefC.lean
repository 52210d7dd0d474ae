/-
 WALKS: the reference's numbers: at, Low, PutLow, NumOf, ParseNum, NumBytes, InvNum.
-/
import Derived.Test.YtikjcikedbcfmaaRefB
import Derived.Test.YtikjcikedbcfmaaRefPar
import Derived.Test.YtikjcikedbcfmaaApp
import Derived.Test.YtikjcikedbcfmaaInv
namespace Go.Proofs.Ytikjcikedbcfmaa
open Go.RowKit
set_option linter.unusedVariables false
set_option linter.unusedSimpArgs false
set_option maxRecDepth 100000
attribute [local irreducible] wpList wpListIn putsR

theorem at_0 {A : Option Addr} {c q : Nat} {xs : List Nat} (w : World) (h0 : Bs w A c xs) (hq : xs.length = q) (i k : Nat) (hi : i < 4611686018427387904) (hk9 : k < 4611686018427387904) (hb : q < i) :
  Calls Try.prog 45 #[.slice A (q) (c), .int .i64 ((i : Nat) : Int), .int .i64 ((k : Nat) : Int)] w fun e w' => e = .returned (.int .u8 ((xs.getD (i + k) 0 : Nat) : Int)) ∧ w = w' := by
 have hcl := h0.le
 have hcm := h0.max
 unfold maxLen at hcm
 refine x_enter 29 Try.func45 rfl rfl (fun a hs hd ha0 => ?_)
 have t0 : a.eval (.tmp 0) = .slice A (q) (c) := ha0 0 _ rfl
 have t1 : a.eval (.tmp 1) = .int .i64 ((i : Nat) : Int) := ha0 1 _ rfl
 clear ha0
 refine w2_sr (fun K_1 hK_1 => ?_)
 refine q_as (.int .u8 ((0 : Nat) : Int)) rfl ?_
 refine x_nil (hK_1 _ _ ?_)
 refine w2_seq (fun K_2 hK_2 => ?_)
 refine w2_sr (fun K_3 hK_3 => ?_)
 refine q_mv ((pm rfl).trans t1) ?_
 refine q_v 8 (.bool (false)) (o_eq (o_lss (m := i) (n := 0) rfl (pe hs rfl rfl) rfl) (by rw [decide_eq_false (by omega)])) ?_
 refine q_mv (pe hs rfl rfl) ?_
 refine op_valG (e := 9) (d := 10) (v := .int .i64 ((i : Nat) : Int)) rfl rfl (by kernel_rfl) (pe hs rfl rfl) (o_move rfl ((pm rfl).trans t1)) ?_
 refine op_valG (e := 9) (d := 11) (v := .slice A (q) (c)) rfl rfl (by kernel_rfl) (pe hs rfl rfl) (o_move rfl ((pm rfl).trans t0)) ?_
 refine op_valG (e := 9) (d := 12) (v := .int .i64 ((q : Nat) : Int)) rfl rfl (by kernel_rfl) (pe hs rfl rfl) (o_len rfl (pe hs rfl rfl)) ?_
 refine op_valG (e := 9) (d := 13) (v := .bool (true)) rfl rfl (by kernel_rfl) (pe hs rfl rfl) (o_eq (o_gtr (m := i) (n := q) rfl (pe hs rfl rfl) (pe hs rfl rfl)) (by rw [decide_eq_true hb])) ?_
 refine q_v 14 (.bool (true)) (o_pickF rfl (pe hs rfl rfl) (pe hs rfl rfl)) ?_
 refine q_mv (pe hs rfl rfl) ?_
 refine op_left (e := 15) rfl rfl (by kernel_rfl) (pe hs rfl rfl) rfl ?_
 refine op_left (e := 15) rfl rfl (by kernel_rfl) (pe hs rfl rfl) rfl ?_
 refine op_left (e := 15) rfl rfl (by kernel_rfl) (pe hs rfl rfl) rfl ?_
 refine op_left (e := 15) rfl rfl (by kernel_rfl) (pe hs rfl rfl) rfl ?_
 refine op_left (e := 15) rfl rfl (by kernel_rfl) (pe hs rfl rfl) rfl ?_
 refine op_left (e := 15) rfl rfl (by kernel_rfl) (pe hs rfl rfl) rfl ?_
 refine q_v 22 (.bool (true)) (o_pickT rfl (pe hs rfl rfl) rfl) ?_
 refine x_nil (hK_3 _ _ ?_)
 refine w2_condT (pe hs rfl rfl) ?_
 refine w2_sr (fun K_4 hK_4 => ?_)
 refine q_as (.int .u8 ((0 : Nat) : Int)) rfl ?_
 refine x_nil (hK_4 _ _ ?_)
 refine w2_ret ?_
 refine thn_ret ?_
 refine ret1 rfl hd (pe hs rfl rfl) ?_
 exact ⟨by rw [show xs.getD (i + k) 0 = 0 from by rw [List.getD_eq_getElem?_getD, List.getElem?_eq_none (by omega)]; rfl], rfl⟩
theorem at_1 {A : Option Addr} {c q : Nat} {xs : List Nat} (w : World) (h0 : Bs w A c xs) (hq : xs.length = q) (i k : Nat) (hi : i < 4611686018427387904) (hk9 : k < 4611686018427387904) (hb : i ≤ q) (hk : q ≤ i + k) :
  Calls Try.prog 45 #[.slice A (q) (c), .int .i64 ((i : Nat) : Int), .int .i64 ((k : Nat) : Int)] w fun e w' => e = .returned (.int .u8 ((xs.getD (i + k) 0 : Nat) : Int)) ∧ w = w' := by
 have hcl := h0.le
 have hcm := h0.max
 unfold maxLen at hcm
 refine x_enter 29 Try.func45 rfl rfl (fun a hs hd ha0 => ?_)
 have t0 : a.eval (.tmp 0) = .slice A (q) (c) := ha0 0 _ rfl
 have t1 : a.eval (.tmp 1) = .int .i64 ((i : Nat) : Int) := ha0 1 _ rfl
 have t2 : a.eval (.tmp 2) = .int .i64 ((k : Nat) : Int) := ha0 2 _ rfl
 clear ha0
 refine w2_sr (fun K_1 hK_1 => ?_)
 refine q_as (.int .u8 ((0 : Nat) : Int)) rfl ?_
 refine x_nil (hK_1 _ _ ?_)
 refine w2_seq (fun K_2 hK_2 => ?_)
 refine w2_sr (fun K_3 hK_3 => ?_)
 refine q_mv ((pm rfl).trans t1) ?_
 refine q_v 8 (.bool (false)) (o_eq (o_lss (m := i) (n := 0) rfl (pe hs rfl rfl) rfl) (by rw [decide_eq_false (by omega)])) ?_
 refine q_mv (pe hs rfl rfl) ?_
 refine op_valG (e := 9) (d := 10) (v := .int .i64 ((i : Nat) : Int)) rfl rfl (by kernel_rfl) (pe hs rfl rfl) (o_move rfl ((pm rfl).trans t1)) ?_
 refine op_valG (e := 9) (d := 11) (v := .slice A (q) (c)) rfl rfl (by kernel_rfl) (pe hs rfl rfl) (o_move rfl ((pm rfl).trans t0)) ?_
 refine op_valG (e := 9) (d := 12) (v := .int .i64 ((q : Nat) : Int)) rfl rfl (by kernel_rfl) (pe hs rfl rfl) (o_len rfl (pe hs rfl rfl)) ?_
 refine op_valG (e := 9) (d := 13) (v := .bool (false)) rfl rfl (by kernel_rfl) (pe hs rfl rfl) (o_eq (o_gtr (m := i) (n := q) rfl (pe hs rfl rfl) (pe hs rfl rfl)) (by rw [decide_eq_false (by omega)])) ?_
 refine q_v 14 (.bool (false)) (o_pickF rfl (pe hs rfl rfl) (pe hs rfl rfl)) ?_
 refine q_mv (pe hs rfl rfl) ?_
 refine op_valG (e := 15) (d := 16) (v := .int .i64 ((k : Nat) : Int)) rfl rfl (by kernel_rfl) (pe hs rfl rfl) (o_move rfl ((pm rfl).trans t2)) ?_
 refine op_valG (e := 15) (d := 17) (v := .slice A (q) (c)) rfl rfl (by kernel_rfl) (pe hs rfl rfl) (o_move rfl ((pm rfl).trans t0)) ?_
 refine op_valG (e := 15) (d := 18) (v := .int .i64 ((q : Nat) : Int)) rfl rfl (by kernel_rfl) (pe hs rfl rfl) (o_len rfl (pe hs rfl rfl)) ?_
 refine op_valG (e := 15) (d := 19) (v := .int .i64 ((i : Nat) : Int)) rfl rfl (by kernel_rfl) (pe hs rfl rfl) (o_move rfl ((pm rfl).trans t1)) ?_
 refine op_valG (e := 15) (d := 20) (v := .int .i64 ((q - i : Nat) : Int)) rfl rfl (by kernel_rfl) (pe hs rfl rfl) (o_sub64 (m := q) (n := i) rfl (pe hs rfl rfl) (pe hs rfl rfl) (by omega) (by omega)) ?_
 refine op_valG (e := 15) (d := 21) (v := .bool (true)) rfl rfl (by kernel_rfl) (pe hs rfl rfl) (o_eq (o_geq (m := k) (n := (q - i)) rfl (pe hs rfl rfl) (pe hs rfl rfl)) (by rw [decide_eq_true (by omega)])) ?_
 refine q_v 22 (.bool (true)) (o_pickF rfl (pe hs rfl rfl) (pe hs rfl rfl)) ?_
 refine x_nil (hK_3 _ _ ?_)
 refine w2_condT (pe hs rfl rfl) ?_
 refine w2_sr (fun K_4 hK_4 => ?_)
 refine q_as (.int .u8 ((0 : Nat) : Int)) rfl ?_
 refine x_nil (hK_4 _ _ ?_)
 refine w2_ret ?_
 refine thn_ret ?_
 refine ret1 rfl hd (pe hs rfl rfl) ?_
 exact ⟨by rw [show xs.getD (i + k) 0 = 0 from by rw [List.getD_eq_getElem?_getD, List.getElem?_eq_none (by omega)]; rfl], rfl⟩
theorem at_2 {A : Option Addr} {c q : Nat} {xs : List Nat} (w : World) (h0 : Bs w A c xs) (hq : xs.length = q) (i k : Nat) (hi : i < 4611686018427387904) (hk9 : k < 4611686018427387904) (hb : i ≤ q) (hk : i + k < q) :
  Calls Try.prog 45 #[.slice A (q) (c), .int .i64 ((i : Nat) : Int), .int .i64 ((k : Nat) : Int)] w fun e w' => e = .returned (.int .u8 ((xs.getD (i + k) 0 : Nat) : Int)) ∧ w = w' := by
 have hcl := h0.le
 have hcm := h0.max
 unfold maxLen at hcm
 refine x_enter 29 Try.func45 rfl rfl (fun a hs hd ha0 => ?_)
 have t0 : a.eval (.tmp 0) = .slice A (q) (c) := ha0 0 _ rfl
 have t1 : a.eval (.tmp 1) = .int .i64 ((i : Nat) : Int) := ha0 1 _ rfl
 have t2 : a.eval (.tmp 2) = .int .i64 ((k : Nat) : Int) := ha0 2 _ rfl
 clear ha0
 refine w2_sr (fun K_1 hK_1 => ?_)
 refine q_as (.int .u8 ((0 : Nat) : Int)) rfl ?_
 refine x_nil (hK_1 _ _ ?_)
 refine w2_seq (fun K_2 hK_2 => ?_)
 refine w2_sr (fun K_3 hK_3 => ?_)
 refine q_mv ((pm rfl).trans t1) ?_
 refine q_v 8 (.bool (false)) (o_eq (o_lss (m := i) (n := 0) rfl (pe hs rfl rfl) rfl) (by rw [decide_eq_false (by omega)])) ?_
 refine q_mv (pe hs rfl rfl) ?_
 refine op_valG (e := 9) (d := 10) (v := .int .i64 ((i : Nat) : Int)) rfl rfl (by kernel_rfl) (pe hs rfl rfl) (o_move rfl ((pm rfl).trans t1)) ?_
 refine op_valG (e := 9) (d := 11) (v := .slice A (q) (c)) rfl rfl (by kernel_rfl) (pe hs rfl rfl) (o_move rfl ((pm rfl).trans t0)) ?_
 refine op_valG (e := 9) (d := 12) (v := .int .i64 ((q : Nat) : Int)) rfl rfl (by kernel_rfl) (pe hs rfl rfl) (o_len rfl (pe hs rfl rfl)) ?_
 refine op_valG (e := 9) (d := 13) (v := .bool (false)) rfl rfl (by kernel_rfl) (pe hs rfl rfl) (o_eq (o_gtr (m := i) (n := q) rfl (pe hs rfl rfl) (pe hs rfl rfl)) (by rw [decide_eq_false (by omega)])) ?_
 refine q_v 14 (.bool (false)) (o_pickF rfl (pe hs rfl rfl) (pe hs rfl rfl)) ?_
 refine q_mv (pe hs rfl rfl) ?_
 refine op_valG (e := 15) (d := 16) (v := .int .i64 ((k : Nat) : Int)) rfl rfl (by kernel_rfl) (pe hs rfl rfl) (o_move rfl ((pm rfl).trans t2)) ?_
 refine op_valG (e := 15) (d := 17) (v := .slice A (q) (c)) rfl rfl (by kernel_rfl) (pe hs rfl rfl) (o_move rfl ((pm rfl).trans t0)) ?_
 refine op_valG (e := 15) (d := 18) (v := .int .i64 ((q : Nat) : Int)) rfl rfl (by kernel_rfl) (pe hs rfl rfl) (o_len rfl (pe hs rfl rfl)) ?_
 refine op_valG (e := 15) (d := 19) (v := .int .i64 ((i : Nat) : Int)) rfl rfl (by kernel_rfl) (pe hs rfl rfl) (o_move rfl ((pm rfl).trans t1)) ?_
 refine op_valG (e := 15) (d := 20) (v := .int .i64 ((q - i : Nat) : Int)) rfl rfl (by kernel_rfl) (pe hs rfl rfl) (o_sub64 (m := q) (n := i) rfl (pe hs rfl rfl) (pe hs rfl rfl) (by omega) (by omega)) ?_
 refine op_valG (e := 15) (d := 21) (v := .bool (false)) rfl rfl (by kernel_rfl) (pe hs rfl rfl) (o_eq (o_geq (m := k) (n := (q - i)) rfl (pe hs rfl rfl) (pe hs rfl rfl)) (by rw [decide_eq_false (by omega)])) ?_
 refine q_v 22 (.bool (false)) (o_pickF rfl (pe hs rfl rfl) (pe hs rfl rfl)) ?_
 refine x_nil (hK_3 _ _ ?_)
 refine w2_condF (pe hs rfl rfl) ?_
 refine w2_skip ?_
 refine hK_2 _ _ ?_
 refine w2_sr (fun K_4 hK_4 => ?_)
 refine q_mv ((pm rfl).trans t0) ?_
 refine q_mv ((pm rfl).trans t1) ?_
 refine q_mv ((pm rfl).trans t2) ?_
 refine q_v 26 (.int .i64 ((i + k : Nat) : Int)) (o_add64 (m := i) (n := k) rfl (pe hs rfl rfl) (pe hs rfl rfl) (by omega)) ?_
 refine q_v 27 (.pointer (atA A (i + k))) (o_ix (k := i + k) rfl (pe hs rfl rfl) (pe hs rfl rfl) (by omega) (h0.some (by rw [hq]; omega))) ?_
 refine q_v 28 (.int .u8 ((xs.getD (i + k) 0 : Nat) : Int)) (o_ld8 rfl (pe hs rfl rfl) h0 (by rw [hq]; omega) rfl) ?_
 refine q_at (pe hs rfl rfl) ?_
 refine x_nil (hK_4 _ _ ?_)
 refine w2_ret ?_
 refine ret1 rfl hd (pe hs rfl rfl) ?_
 exact ⟨rfl, rfl⟩
theorem atR_any {A : Option Addr} {c q : Nat} {xs : List Nat} (w : World) (h0 : Bs w A c xs) (hq : xs.length = q) (i k : Nat) (hi : i < 4611686018427387904) (hk9 : k < 4611686018427387904) :
  Calls Try.prog 45 #[.slice A (q) (c), .int .i64 ((i : Nat) : Int), .int .i64 ((k : Nat) : Int)] w fun e w' => e = .returned (.int .u8 ((xs.getD (i + k) 0 : Nat) : Int)) ∧ w = w' := by
 by_cases hb : i ≤ q
 ·by_cases hk : q ≤ i + k
  ·exact at_1 w h0 hq i k hi hk9 hb hk
  ·exact at_2 w h0 hq i k hi hk9 hb (by omega)
 ·exact at_0 w h0 hq i k hi hk9 (by omega)
theorem LowR_any {A : Option Addr} {c q : Nat} {xs : List Nat} (w : World) (h0 : Bs w A c xs) (hq : xs.length = q) (i n : Nat) (hi : i < 4611686018427387904) (hn : n ≤ 8) :
  Calls Try.prog 32 #[.slice A (q) (c), .int .i64 ((i : Nat) : Int), .int .i64 ((n : Nat) : Int)] w fun e w' => e = .returned (.int .u64 ((lowN xs i n : Nat) : Int)) ∧ w = w' := by
 refine x_enter 26 Try.func32 rfl rfl (fun a hs hd ha0 => ?_)
 have t0 : a.eval (.tmp 0) = .slice A (q) (c) := ha0 0 _ rfl
 have t1 : a.eval (.tmp 1) = .int .i64 ((i : Nat) : Int) := ha0 1 _ rfl
 have t2 : a.eval (.tmp 2) = .int .i64 ((n : Nat) : Int) := ha0 2 _ rfl
 clear ha0
 refine w2_sr (fun K_1 hK_1 => ?_)
 refine q_as (.int .u64 ((0 : Nat) : Int)) rfl ?_
 refine x_nil (hK_1 _ _ ?_)
 refine w2_sr (fun K_2 hK_2 => ?_)
 refine q_as (.int .u64 ((0 : Nat) : Int)) rfl ?_
 refine x_nil (hK_2 _ _ ?_)
 refine w2_seq (fun K_3 hK_3 => ?_)
 refine w2_sr (fun K_4 hK_4 => ?_)
 refine q_mv ((pm rfl).trans t2) ?_
 refine q_v 10 (.int .i64 ((0 : Nat) : Int)) (o_move rfl rfl) ?_
 refine x_nil (hK_4 _ _ ?_)
 refine w2_block (fun K_5 hK_5 => ?_)
 refine x_loop (fun nn aa ww => ∃ (K : Nat), nn = n - K ∧ aa.tmps.size = 26 ∧ aa.defers = [] ∧ aa.eval (.tmp 0) = .slice A (q) (c) ∧ aa.eval (.tmp 1) = .int .i64 ((i : Nat) : Int) ∧ aa.eval (.tmp 2) = .int .i64 ((n : Nat) : Int) ∧ aa.eval (.tmp 6) = .int .u64 ((0 : Nat) : Int) ∧ aa.eval (.tmp 7) = .int .u64 ((lowN xs i K : Nat) : Int) ∧ aa.eval (.tmp 9) = .int .i64 ((n : Nat) : Int) ∧ aa.eval (.tmp 10) = .int .i64 ((K : Nat) : Int) ∧ K ≤ n ∧ w = ww) (n) ?_ ?_
 ·exact ⟨0, rfl, (by rw [putsR_size]; exact hs), (by rw [putsR_defers]; exact hd), ((pm rfl).trans t0), ((pm rfl).trans t1), ((pm rfl).trans t2), (pe hs rfl rfl), (pe hs rfl rfl), (pe hs rfl rfl), (pe hs rfl rfl), (Nat.zero_le _), rfl⟩
 ·skip
  clear t0 t1 t2 hd
  rintro nna_1 a_1 w_1 ⟨K, hm_1, hs_1, hd_1, ta_1_0, ta_1_1, ta_1_2, ta_1_6, ta_1_7, ta_1_9, ta_1_10, hK, hW⟩ K_6 hK_6
  subst hm_1
  subst hW
  have hlo := lowN_lt h0.b8 i K
  have hp8 := getD_lt h0.b8 (i + K)
  refine w2_sr (fun K_7 hK_7 => ?_)
  refine q_v 11 (.bool (decide (K < n))) (o_lss (m := K) (n := n) rfl ((pm rfl).trans ta_1_10) ((pm rfl).trans ta_1_9)) ?_
  refine x_nil (hK_7 _ _ ?_)
  refine w2_seq (fun K_8 hK_8 => ?_)
  refine w2_split (pe hs_1 rfl rfl) (fun h_1 => ?_) (fun h_1 => ?_)
  ·simp only [DD9] at h_1
   refine w2_skip ?_
   refine hK_8 _ _ ?_
   refine w2_seq (fun K_9 hK_9 => ?_)
   refine w2_block (fun K_10 hK_10 => ?_)
   refine w2_sr (fun K_11 hK_11 => ?_)
   refine q_mv ((pm rfl).trans ta_1_10) ?_
   refine q_at (pe hs_1 rfl rfl) ?_
   refine x_nil (hK_11 _ _ ?_)
   refine x_region (by kernel_rfl) ?_
   refine q_mv ((pm rfl).trans ta_1_7) ?_
   refine q_mv ((pm rfl).trans ta_1_0) ?_
   refine q_mv ((pm rfl).trans ta_1_1) ?_
   refine q_mv (pe hs_1 rfl rfl) ?_
   refine q_ca (vs := #[.slice A (q) (c), .int .i64 ((i : Nat) : Int), .int .i64 ((K : Nat) : Int)]) Try.func45 (args3 (pe hs_1 rfl rfl) (pe hs_1 rfl rfl) (pe hs_1 rfl rfl)) (atR_any _ h0 hq i K (by omega) (by omega)) (fun e_1 w_2 hR_1 => ?_)
   obtain ⟨rfl, rfl⟩ := hR_1
   refine ⟨_, rfl, ?_⟩
   refine q_v 18 (.int .u64 ((xs.getD (i + K) 0 : Nat) : Int)) (o_conv (m := (xs.getD (i + K) 0)) (r := xs.getD (i + K) 0) rfl (pe hs_1 rfl rfl) ⟨.int .u8, fun _ => by kernel_rfl⟩ (fun _ => by kernel_rfl) (by rw [IntKind.wrap_u64]; omega)) ?_
   refine q_mv (pe hs_1 rfl rfl) ?_
   refine q_v 20 (.int .i64 ((8 * K : Nat) : Int)) (o_mul64 (m := 8) (n := K) rfl rfl (pe hs_1 rfl rfl) (by omega)) ?_
   refine q_v 21 (.int .u64 ((8 * K : Nat) : Int)) (o_conv (m := (8 * K)) (r := 8 * K) rfl (pe hs_1 rfl rfl) ⟨.int .i64, fun _ => by kernel_rfl⟩ (fun _ => by kernel_rfl) (by rw [IntKind.wrap_u64]; omega)) ?_
   refine q_v 22 (.int .u64 ((xs.getD (i + K) 0 * 2 ^ (8 * K) : Nat) : Int)) (o_shl (m := xs.getD (i + K) 0) (n := 8 * K) (xs.getD (i + K) 0 * 2 ^ (8 * K)) rfl (pe hs_1 rfl rfl) (pe hs_1 rfl rfl) (by show 8 * K ≤ 64; omega) (low_shl _ K hp8 (by omega))) ?_
   refine q_v 23 (.int .u64 ((lowN xs i (K + 1) : Nat) : Int)) (o_bits (m := lowN xs i K) (n := xs.getD (i + K) 0 * 2 ^ (8 * K)) (lowN xs i (K + 1)) rfl (pe hs_1 rfl rfl) (pe hs_1 rfl rfl) (by decide) (low_or _ _ K hlo hp8 (by omega))) ?_
   refine q_at (pe hs_1 rfl rfl) ?_
   refine x_nil (hK_10 _ _ ?_)
   refine hK_9 _ _ ?_
   refine x_region (by kernel_rfl) ?_
   refine q_v 24 (.int .i64 ((K + 1 : Nat) : Int)) (o_add64 (m := K) (n := 1) rfl ((pm rfl).trans ta_1_10) rfl (by omega)) ?_
   refine q_mv (pe hs_1 rfl rfl) ?_
   refine x_nil ?_
   refine hK_6 _ _ _ ⟨K + 1, rfl, (by rw [putsR_size]; exact hs_1), (by rw [putsR_defers]; exact hd_1), ((pm rfl).trans ta_1_0), ((pm rfl).trans ta_1_1), ((pm rfl).trans ta_1_2), ((pm rfl).trans ta_1_6), (pe hs_1 rfl rfl), ((pm rfl).trans ta_1_9), (pe hs_1 rfl rfl), (by omega), rfl⟩ ?_
   omega
  ·simp only [DD9] at h_1
   obtain rfl : K = n := by omega
   refine w2_exit ?_
   refine thn_exit ?_
   refine thn_exit ?_
   refine exb_hit ?_
   refine hK_5 _ _ ?_
   refine hK_3 _ _ ?_
   refine w2_sr (fun K_12 hK_12 => ?_)
   refine q_mv ((pm rfl).trans ta_1_7) ?_
   refine q_at (pe hs_1 rfl rfl) ?_
   refine x_nil (hK_12 _ _ ?_)
   refine w2_ret ?_
   refine ret1 rfl hd_1 (pe hs_1 rfl rfl) ?_
   exact ⟨rfl, rfl⟩
theorem retC2 {P : Program} {fn : Func} {R : Ending → World → Prop} {a : Act} {w : World} {l : List (Tmp × Value)} {t u : Tmp} {T : TypeId} {p : Addr} {v x : Value} (hf : fn.results = #[.cell t T, .tmp u]) (hd : a.defers = []) (hv : (putsR a l).eval (.tmp t) = .pointer (some p)) (hu : (putsR a l).eval (.tmp u) = x) (hl : (loadVar T p).run P w = .ok v w)
  (hR : R (.returned (.tuple #[v, x])) w) : bodyPost P fn R .ret (putsR a l) w := by
 refine ⟨by rw [putsR_defers, hd], .tuple #[v, x], ?_, hR⟩
 have hv' : (putsR a l).tmps.getD t undef = .pointer (some p) := hv
 have hu' : (putsR a l).tmps.getD u undef = x := hu
 generalize (putsR a l).tmps = tm at *
 have hv2 : tm[t]?.getD undef = .pointer (some p) := by simpa [Array.getD_eq_getD_getElem?] using hv'
 have hu2 : tm[u]?.getD undef = x := by simpa [Array.getD_eq_getD_getElem?] using hu'
 simp [results, hf, hv2, hu2, asAddr, Sem.run_bind, Sem.run_pure, hl]
theorem leastD_any {x : F} (w : World) : Calls Try.prog 33 #[.agg (iws .u64 (dg x)).toArray] w fun e w' => e = .returned (.agg (iws .u64 (dg x)).toArray) ∧ Below w.heap.size w w' := by
 have h := least_any w (dg_length x) (fun j => Nat.le_trans (dg_le x j) (by decide))
 rw [least_dg] at h
 exact h
theorem bitP_not {i : Nat} (h2 : ¬ i = 2) (h4 : ¬ i = 4) : bitP i = true := by
 unfold bitP
 by_cases h : 4 < i
 ·simp [h]
 ·rcases (show i = 0 ∨ i = 1 ∨ i = 3 by omega) with rfl | rfl | rfl <;> rfl
theorem PutLowR_any (x n : Nat) (w : World) (hx : x < 18446744073709551616) (hn : n ≤ 8) :
  Calls Try.prog 38 #[.int .u64 ((x : Nat) : Int), .int .i64 ((n : Nat) : Int)] w fun e w' => ∃ A c, e = .returned (.slice A n c) ∧ Own w' w.heap.size A c (putK x n) ∧ Below w.heap.size w w' := by
 refine x_enter 22 Try.func38 rfl rfl (fun a hs hd ha0 => ?_)
 have t0 : a.eval (.tmp 0) = .int .u64 ((x : Nat) : Int) := ha0 0 _ rfl
 have t1 : a.eval (.tmp 1) = .int .i64 ((n : Nat) : Int) := ha0 1 _ rfl
 clear ha0
 refine w2_sr (fun K_1 hK_1 => ?_)
 refine q_as (.slice none (0) (0)) rfl ?_
 refine x_nil (hK_1 _ _ ?_)
 refine w2_sr (fun K_2 hK_2 => ?_)
 refine q_as (.slice none (0) (0)) rfl ?_
 refine x_nil (hK_2 _ _ ?_)
 refine w2_seq (fun K_3 hK_3 => ?_)
 refine w2_sr (fun K_4 hK_4 => ?_)
 refine q_mv ((pm rfl).trans t1) ?_
 refine q_v 8 (.int .i64 ((0 : Nat) : Int)) (o_move rfl rfl) ?_
 refine x_nil (hK_4 _ _ ?_)
 refine w2_block (fun K_5 hK_5 => ?_)
 refine x_loop (fun nn aa ww => ∃ (K : Nat) (A1 : Option Addr) (c1 : Nat), nn = n - K ∧ aa.tmps.size = 22 ∧ aa.defers = [] ∧ aa.eval (.tmp 0) = .int .u64 ((x : Nat) : Int) ∧ aa.eval (.tmp 1) = .int .i64 ((n : Nat) : Int) ∧ aa.eval (.tmp 4) = .slice none (0) (0) ∧ aa.eval (.tmp 5) = .slice A1 (K) (c1) ∧ aa.eval (.tmp 7) = .int .i64 ((n : Nat) : Int) ∧ aa.eval (.tmp 8) = .int .i64 ((K : Nat) : Int) ∧ K ≤ n ∧ Own ww w.heap.size A1 c1 (putK x K) ∧ Below w.heap.size w ww) (n) ?_ ?_
 ·exact ⟨0, none, 0, rfl, (by rw [putsR_size]; exact hs), (by rw [putsR_defers]; exact hd), ((pm rfl).trans t0), ((pm rfl).trans t1), (pe hs rfl rfl), (pe hs rfl rfl), (pe hs rfl rfl), (pe hs rfl rfl), Nat.zero_le _, Own.nil _ _, Below.refl _ _⟩
 ·skip
  clear t0 t1 hd
  rintro nna_1 a_1 w_1 ⟨K, A1, c1, hm_1, hs_1, hd_1, ta_1_0, ta_1_1, ta_1_4, ta_1_5, ta_1_7, ta_1_8, hK, hO, HBL⟩ K_6 hK_6
  subst hm_1
  refine w2_sr (fun K_7 hK_7 => ?_)
  refine q_v 9 (.bool (decide (K < n))) (o_lss (m := K) (n := n) rfl ((pm rfl).trans ta_1_8) ((pm rfl).trans ta_1_7)) ?_
  refine x_nil (hK_7 _ _ ?_)
  refine w2_seq (fun K_8 hK_8 => ?_)
  refine w2_split (pe hs_1 rfl rfl) (fun h_1 => ?_) (fun h_1 => ?_)
  ·simp only [DD9] at h_1
   refine w2_skip ?_
   refine hK_8 _ _ ?_
   refine w2_seq (fun K_9 hK_9 => ?_)
   refine w2_block (fun K_10 hK_10 => ?_)
   refine w2_sr (fun K_11 hK_11 => ?_)
   refine q_mv ((pm rfl).trans ta_1_8) ?_
   refine q_at (pe hs_1 rfl rfl) ?_
   refine x_nil (hK_11 _ _ ?_)
   refine x_region (by kernel_rfl) ?_
   refine q_mv ((pm rfl).trans ta_1_5) ?_
   refine q_mv ((pm rfl).trans ta_1_0) ?_
   refine q_mv (pe hs_1 rfl rfl) ?_
   refine q_v 14 (.int .i64 ((8 * K : Nat) : Int)) (o_mul64 (m := 8) (n := K) rfl rfl (pe hs_1 rfl rfl) (by omega)) ?_
   refine q_v 15 (.int .u64 ((8 * K : Nat) : Int)) (o_conv (m := (8 * K)) (r := 8 * K) rfl (pe hs_1 rfl rfl) ⟨.int .i64, fun _ => by kernel_rfl⟩ (fun _ => by kernel_rfl) (by rw [IntKind.wrap_u64]; omega)) ?_
   refine q_v 16 (.int .u64 ((x / 2 ^ (8 * K) : Nat) : Int)) (o_shr (m := x) (n := (8 * K)) rfl (pe hs_1 rfl rfl) (pe hs_1 rfl rfl) (by simp [IntKind.bits]; omega)) ?_
   refine q_v 17 (.int .u8 (((x / 2 ^ (8 * K)) % 256 : Nat) : Int)) (o_conv (m := (x / 2 ^ (8 * K))) (r := (x / 2 ^ (8 * K)) % 256) rfl (pe hs_1 rfl rfl) ⟨.int .u64, fun _ => by kernel_rfl⟩ (fun _ => by kernel_rfl) (by rw [IntKind.wrap_u8]; omega)) ?_
   refine op_ex (d := 18) rfl rfl (o_build1 (m := (x / 2 ^ (8 * K)) % 256) rfl (pe hs_1 rfl rfl) (Nat.mod_lt _ (by decide))) (fun v_1 w_2 hR_1 => ?_)
   obtain ⟨g_1, rfl, ho_1, hb_1⟩ := hR_1
   replace ho_1 := ho_1.mono HBL.size
   replace hO := hO.nx hb_1
   have HB_1 := below_from HBL hb_1
   refine op_ex (d := 19) rfl rfl (o_append rfl (pe hs_1 rfl rfl) (pe hs_1 rfl rfl) hO (ho_1).bs (by rw [(putK_length x K)]) (by simp only [List.length_cons, List.length_nil]) (by omega) HB_1.size) (fun v_2 w_3 hR_2 => ?_)
   obtain ⟨A_1, c_1, rfl, ho_2, hb_2, hg_1, hat_1⟩ := hR_2
   have HB_2 : Below w.heap.size w w_3 := (HB_1).trans hb_2
   clear hg_1 hat_1 hO
   refine q_at (pe hs_1 rfl rfl) ?_
   refine x_nil (hK_10 _ _ ?_)
   refine hK_9 _ _ ?_
   refine x_region (by kernel_rfl) ?_
   refine q_v 20 (.int .i64 ((K + 1 : Nat) : Int)) (o_add64 (m := K) (n := 1) rfl ((pm rfl).trans ta_1_8) rfl (by omega)) ?_
   refine q_mv (pe hs_1 rfl rfl) ?_
   refine x_nil ?_
   refine hK_6 _ _ _ ⟨K + 1, A_1, c_1, rfl, (by rw [putsR_size]; exact hs_1), (by rw [putsR_defers]; exact hd_1), ((pm rfl).trans ta_1_0), ((pm rfl).trans ta_1_1), ((pm rfl).trans ta_1_4), (pe hs_1 rfl rfl), ((pm rfl).trans ta_1_7), (pe hs_1 rfl rfl), (by omega), ho_2, HB_2⟩ ?_
   omega
  ·simp only [DD9] at h_1
   obtain rfl : K = n := by omega
   refine w2_exit ?_
   refine thn_exit ?_
   refine thn_exit ?_
   refine exb_hit ?_
   refine hK_5 _ _ ?_
   refine hK_3 _ _ ?_
   refine w2_sr (fun K_12 hK_12 => ?_)
   refine q_mv ((pm rfl).trans ta_1_5) ?_
   refine q_at (pe hs_1 rfl rfl) ?_
   refine x_nil (hK_12 _ _ ?_)
   refine w2_ret ?_
   refine ret1 rfl hd_1 (pe hs_1 rfl rfl) ?_
   exact ⟨_, _, rfl, hO, HBL⟩
theorem NumOfR_any (n : Nat) (w : World) (hn : n < 18446744073709551616) :
  Calls Try.prog 10 #[.int .u64 ((n : Nat) : Int)] w fun e w' => e = .returned (.agg (iws .u64 (digN n)).toArray) ∧ Below w.heap.size w w' := by
 refine x_enter 18 Try.func10 rfl rfl (fun a hs hd ha0 => ?_)
 have t0 : a.eval (.tmp 0) = .int .u64 ((n : Nat) : Int) := ha0 0 _ rfl
 clear ha0
 refine w2_sr (fun K_1 hK_1 => ?_)
 refine op_ex (d := 2) rfl rfl (o_alloc (zs := (iws .u64 (List.replicate 16 0)).toArray) rfl (fun _ => by kernel_rfl)) (fun v_1 w_1 hR_1 => ?_)
 obtain ⟨g_1, rfl, hle_1, hB_1, hb_1⟩ := hR_1
 have ge_1 : w.heap.size ≤ g_1 := hle_1
 refine x_nil (hK_1 _ _ ?_)
 refine w2_sr (fun K_2 hK_2 => ?_)
 refine op_ex (d := 3) rfl rfl (o_alloc (zs := (iws .u64 (List.replicate 16 0)).toArray) rfl (fun _ => by kernel_rfl)) (fun v_2 w_2 hR_2 => ?_)
 obtain ⟨g_2, rfl, hle_2, hB_2, hb_2⟩ := hR_2
 have ne_1 : g_1 ≠ g_2 := Nat.ne_of_lt (Nat.lt_of_lt_of_le hB_1.lt hle_2)
 have ge_2 : w.heap.size ≤ g_2 := Nat.le_trans hb_1.size hle_2
 replace hB_1 := hB_1.nx hb_2
 have HB_1 := below_from hb_1 hb_2
 refine x_nil (hK_2 _ _ ?_)
 refine w2_seq (fun K_3 hK_3 => ?_)
 refine w2_sr (fun K_4 hK_4 => ?_)
 refine q_v 5 (.int .i64 ((0 : Nat) : Int)) (o_move rfl rfl) ?_
 refine x_nil (hK_4 _ _ ?_)
 refine w2_block (fun K_5 hK_5 => ?_)
 refine x_loop (fun nn aa ww => ∃ (K : Nat), nn = 4 - K ∧ aa.tmps.size = 18 ∧ aa.defers = [] ∧ aa.eval (.tmp 0) = .int .u64 ((n : Nat) : Int) ∧ aa.eval (.tmp 2) = .pointer (some ⟨g_1, 0, none⟩) ∧ aa.eval (.tmp 3) = .pointer (some ⟨g_2, 0, none⟩) ∧ aa.eval (.tmp 5) = .int .i64 ((K : Nat) : Int) ∧ K ≤ 4 ∧ Blk ww g_1 (iws .u64 (List.replicate 16 0)).toArray 32 ∧ Blk ww g_2 (iws .u64 (numK n K)).toArray 32 ∧ Below w.heap.size w ww) (4) ?_ ?_
 ·exact ⟨0, rfl, (by rw [putsR_size]; exact hs), (by rw [putsR_defers]; exact hd), ((pm rfl).trans t0), (pe hs rfl rfl), (pe hs rfl rfl), (pe hs rfl rfl), by omega, hB_1, hB_2, HB_1⟩
 ·skip
  clear t0 hd hB_1 hB_2 HB_1
  rintro nna_1 a_1 w_3 ⟨K, hm_1, hs_1, hd_1, ta_1_0, ta_1_2, ta_1_3, ta_1_5, hK, BR, BA, HBL⟩ K_6 hK_6
  subst hm_1
  have hnl := numK_length n K
  refine w2_sr (fun K_7 hK_7 => ?_)
  refine q_v 6 (.bool (decide (K < 4))) (o_lss (m := K) (n := 4) rfl ((pm rfl).trans ta_1_5) rfl) ?_
  refine x_nil (hK_7 _ _ ?_)
  refine w2_seq (fun K_8 hK_8 => ?_)
  refine w2_split (pe hs_1 rfl rfl) (fun h_1 => ?_) (fun h_1 => ?_)
  ·simp only [DD9] at h_1
   refine w2_skip ?_
   refine hK_8 _ _ ?_
   refine w2_seq (fun K_9 hK_9 => ?_)
   refine w2_block (fun K_10 hK_10 => ?_)
   refine w2_sr (fun K_11 hK_11 => ?_)
   refine q_mv ((pm rfl).trans ta_1_5) ?_
   refine q_at (pe hs_1 rfl rfl) ?_
   refine x_nil (hK_11 _ _ ?_)
   refine x_region (by kernel_rfl) ?_
   refine q_mv (pe hs_1 rfl rfl) ?_
   refine q_mv ((pm rfl).trans ta_1_0) ?_
   refine q_mv (pe hs_1 rfl rfl) ?_
   refine q_v 11 (.int .i64 ((16 * K : Nat) : Int)) (o_mul64 (m := 16) (n := K) rfl rfl (pe hs_1 rfl rfl) (by omega)) ?_
   refine q_v 12 (.int .u64 ((16 * K : Nat) : Int)) (o_conv (m := (16 * K)) (r := 16 * K) rfl (pe hs_1 rfl rfl) ⟨.int .i64, fun _ => by kernel_rfl⟩ (fun _ => by kernel_rfl) (by rw [IntKind.wrap_u64]; omega)) ?_
   refine q_v 13 (.int .u64 ((n / 2 ^ (16 * K) : Nat) : Int)) (o_shr (m := n) (n := (16 * K)) rfl (pe hs_1 rfl rfl) (pe hs_1 rfl rfl) (by simp [IntKind.bits]; omega)) ?_
   refine q_v 14 (.int .u64 ((n / 2 ^ (16 * K) % 65536 : Nat) : Int)) (o_eq (o_bits (m := (n / 2 ^ (16 * K))) (n := 65535) ((n / 2 ^ (16 * K)) &&& 65535) rfl (pe hs_1 rfl rfl) rfl (by decide) (u64_and_nat _ _ (Nat.lt_of_le_of_lt (Nat.div_le_self _ _) hn) (by decide))) (by rw [and_m16])) ?_
   refine op_val (d := 15) (v := .pointer (some ⟨g_2, K, none⟩)) rfl rfl (zero_off (o_ixA (k := 0) (i := K) (n := 16) (e := 23) rfl ((pm rfl).trans ta_1_3) (pe hs_1 rfl rfl) (by omega) (fun _ => by kernel_rfl) (fun _ => by kernel_rfl))) ?_
   refine op_do rfl rfl (o_storeW rfl (pe hs_1 rfl rfl) (pe hs_1 rfl rfl) BA (by rw [hnl]; omega) ⟨by kernel_rfl, by kernel_rfl⟩) (fun w_4 hR_3 => ?_)
   obtain ⟨hB_3, hX_1⟩ := hR_3
   replace BR := hX_1.blk BR ne_1
   have HB_2 := hX_1.below HBL HBL.size (fun k hk => hk ▸ ge_2)
   clear BA
   refine x_nil (hK_10 _ _ ?_)
   refine hK_9 _ _ ?_
   refine x_region (by kernel_rfl) ?_
   refine q_v 16 (.int .i64 ((K + 1 : Nat) : Int)) (o_add64 (m := K) (n := 1) rfl ((pm rfl).trans ta_1_5) rfl (by omega)) ?_
   refine q_mv (pe hs_1 rfl rfl) ?_
   refine x_nil ?_
   refine hK_6 _ _ _ ⟨K + 1, rfl, (by rw [putsR_size]; exact hs_1), (by rw [putsR_defers]; exact hd_1), ((pm rfl).trans ta_1_0), ((pm rfl).trans ta_1_2), ((pm rfl).trans ta_1_3), (pe hs_1 rfl rfl), (by omega), BR, hB_3, HB_2⟩ ?_
   omega
  ·simp only [DD9] at h_1
   obtain rfl : K = 4 := by omega
   refine w2_exit ?_
   refine thn_exit ?_
   refine thn_exit ?_
   refine exb_hit ?_
   refine hK_5 _ _ ?_
   refine hK_3 _ _ ?_
   refine w2_seq (fun K_12 hK_12 => ?_)
   rw [numK_4 hn] at BA
   refine x_region (by kernel_rfl) ?_
   refine q_v 17 (.agg (iws .u64 (digN n)).toArray) (o_loadI rfl ((pm rfl).trans ta_1_3) BA (by rw [digN_length]; exact ⟨by kernel_rfl, by kernel_rfl⟩)) ?_
   refine op_do rfl rfl (o_storeI rfl ((pm rfl).trans ta_1_2) (pe hs_1 rfl rfl) BR (by rw [(digN_length _)]; exact ⟨by kernel_rfl, by kernel_rfl⟩) (by rw [digN_length]; simp [iws])) (fun w_5 hR_4 => ?_)
   obtain ⟨hB_4, hX_2⟩ := hR_4
   replace BA := hX_2.blk BA (Ne.symm ne_1)
   have HB_3 := hX_2.below HBL HBL.size (fun k hk => hk ▸ ge_1)
   clear BR
   refine x_nil (hK_12 _ _ ?_)
   refine w2_ret ?_
   refine retC rfl hd_1 ((pm rfl).trans ta_1_2) (loadI hB_4 (by rw [(digN_length _)]; exact ⟨by kernel_rfl, by kernel_rfl⟩)) ?_
   exact ⟨rfl, HB_3⟩
set_option maxHeartbeats 1000000 in
theorem ParseNum_ok {A : Option Addr} {c q : Nat} {xs : List Nat} (w : World) (h0 : Bs w A c xs) (hq : xs.length = q) (h32 : q = 32) :
  Calls Try.prog 7 #[.slice A (q) (c)] w fun e w' => e = .returned (.tuple #[.agg (iws .u64 (dg (toF ((lowN xs 0 32 % 57896044618658097711785492504343953926634992332820282019728792003956564819968 : Nat) : Int)))).toArray, .int .i64 ((0 : Nat) : Int)]) ∧ Below w.heap.size w w' := by
 refine x_enter 26 Try.func7 rfl rfl (fun a hs hd ha0 => ?_)
 have t0 : a.eval (.tmp 0) = .slice A (q) (c) := ha0 0 _ rfl
 clear ha0
 refine w2_sr (fun K_1 hK_1 => ?_)
 refine op_ex (d := 2) rfl rfl (o_alloc (zs := (iws .u64 (List.replicate 16 0)).toArray) rfl (fun _ => by kernel_rfl)) (fun v_1 w_1 hR_1 => ?_)
 obtain ⟨g_1, rfl, hle_1, hB_1, hb_1⟩ := hR_1
 have ge_1 : w.heap.size ≤ g_1 := hle_1
 refine q_as (.int .i64 ((0 : Nat) : Int)) rfl ?_
 refine x_nil (hK_1 _ _ ?_)
 refine w2_seq (fun K_2 hK_2 => ?_)
 refine w2_sr (fun K_3 hK_3 => ?_)
 refine q_mv ((pm rfl).trans t0) ?_
 refine q_v 7 (.int .i64 ((q : Nat) : Int)) (o_len rfl (pe hs rfl rfl)) ?_
 refine q_v 8 (.bool (false)) (o_eq (o_neq (m := q) (n := 32) rfl (pe hs rfl rfl) rfl) (by rw [decide_eq_true h32]; rfl)) ?_
 refine x_nil (hK_3 _ _ ?_)
 refine w2_condF (pe hs rfl rfl) ?_
 refine w2_skip ?_
 refine hK_2 _ _ ?_
 refine w2_sr (fun K_4 hK_4 => ?_)
 refine op_ex (d := 4) rfl rfl (o_alloc (zs := (iws .u64 (List.replicate 16 0)).toArray) rfl (fun _ => by kernel_rfl)) (fun v_2 w_2 hR_2 => ?_)
 obtain ⟨g_2, rfl, hle_2, hB_2, hb_2⟩ := hR_2
 have ne_1 : g_1 ≠ g_2 := Nat.ne_of_lt (Nat.lt_of_lt_of_le hB_1.lt hle_2)
 have ge_2 : w.heap.size ≤ g_2 := Nat.le_trans hb_1.size hle_2
 replace hB_1 := hB_1.nx hb_2
 have HB_1 := below_from hb_1 hb_2
 refine x_nil (hK_4 _ _ ?_)
 refine w2_seq (fun K_5 hK_5 => ?_)
 refine w2_sr (fun K_6 hK_6 => ?_)
 refine q_v 10 (.int .i64 ((0 : Nat) : Int)) (o_move rfl rfl) ?_
 refine x_nil (hK_6 _ _ ?_)
 refine w2_block (fun K_7 hK_7 => ?_)
 refine x_loop (fun nn aa ww => ∃ (K : Nat), nn = 16 - K ∧ aa.tmps.size = 26 ∧ aa.defers = [] ∧ aa.eval (.tmp 0) = .slice A (q) (c) ∧ aa.eval (.tmp 2) = .pointer (some ⟨g_1, 0, none⟩) ∧ aa.eval (.tmp 3) = .int .i64 ((0 : Nat) : Int) ∧ aa.eval (.tmp 4) = .pointer (some ⟨g_2, 0, none⟩) ∧ aa.eval (.tmp 6) = .slice A (q) (c) ∧ aa.eval (.tmp 7) = .int .i64 ((q : Nat) : Int) ∧ aa.eval (.tmp 8) = .bool (false) ∧ aa.eval (.tmp 10) = .int .i64 ((K : Nat) : Int) ∧ K ≤ 16 ∧ Blk ww g_1 (iws .u64 (List.replicate 16 0)).toArray 32 ∧ Blk ww g_2 (iws .u64 (parK xs K)).toArray 32 ∧ Below w.heap.size w ww) (16) ?_ ?_
 ·exact ⟨0, rfl, (by rw [putsR_size]; exact hs), (by rw [putsR_defers]; exact hd), ((pm rfl).trans t0), (pe hs rfl rfl), (pe hs rfl rfl), (pe hs rfl rfl), (pe hs rfl rfl), (pe hs rfl rfl), (pe hs rfl rfl), (pe hs rfl rfl), by omega, hB_1, hB_2, HB_1⟩
 ·skip
  clear t0 hd hB_1 hB_2 HB_1
  rintro nna_1 a_1 w_3 ⟨K, hm_1, hs_1, hd_1, ta_1_0, ta_1_2, ta_1_3, ta_1_4, ta_1_6, ta_1_7, ta_1_8, ta_1_10, hK, BR, BA, HBL⟩ K_8 hK_8
  subst hm_1
  have hpl := parK_length xs K
  refine w2_sr (fun K_9 hK_9 => ?_)
  refine q_v 11 (.bool (decide (K < 16))) (o_lss (m := K) (n := 16) rfl ((pm rfl).trans ta_1_10) rfl) ?_
  refine x_nil (hK_9 _ _ ?_)
  refine w2_seq (fun K_10 hK_10 => ?_)
  refine w2_split (pe hs_1 rfl rfl) (fun h_1 => ?_) (fun h_1 => ?_)
  ·simp only [DD9] at h_1
   refine w2_skip ?_
   refine hK_10 _ _ ?_
   refine w2_seq (fun K_11 hK_11 => ?_)
   refine w2_block (fun K_12 hK_12 => ?_)
   refine w2_sr (fun K_13 hK_13 => ?_)
   refine q_mv ((pm rfl).trans ta_1_10) ?_
   refine q_at (pe hs_1 rfl rfl) ?_
   refine x_nil (hK_13 _ _ ?_)
   refine x_region (by kernel_rfl) ?_
   refine q_mv (pe hs_1 rfl rfl) ?_
   refine q_mv ((pm rfl).trans ta_1_0) ?_
   refine q_mv (pe hs_1 rfl rfl) ?_
   refine q_v 16 (.int .i64 ((2 * K : Nat) : Int)) (o_mul64 (m := 2) (n := K) rfl rfl (pe hs_1 rfl rfl) (by omega)) ?_
   refine q_ca (vs := #[.slice A (q) (c), .int .i64 ((2 * K : Nat) : Int), .int .i64 ((2 : Nat) : Int)]) Try.func32 (args3 (pe hs_1 rfl rfl) (pe hs_1 rfl rfl) rfl) (LowR_any _ (h0.below HBL) hq (2 * K) 2 (by omega) (by decide)) (fun e_1 w_4 hR_3 => ?_)
   obtain ⟨rfl, rfl⟩ := hR_3
   refine ⟨_, rfl, ?_⟩
   refine op_val (d := 18) (v := .pointer (some ⟨g_2, K, none⟩)) rfl rfl (zero_off (o_ixA (k := 0) (i := K) (n := 16) (e := 23) rfl ((pm rfl).trans ta_1_4) (pe hs_1 rfl rfl) (by omega) (fun _ => by kernel_rfl) (fun _ => by kernel_rfl))) ?_
   refine op_do rfl rfl (o_storeW rfl (pe hs_1 rfl rfl) (pe hs_1 rfl rfl) BA (by rw [hpl]; omega) ⟨by kernel_rfl, by kernel_rfl⟩) (fun w_5 hR_4 => ?_)
   obtain ⟨hB_3, hX_1⟩ := hR_4
   replace BR := hX_1.blk BR ne_1
   have HB_2 := hX_1.below HBL HBL.size (fun k hk => hk ▸ ge_2)
   clear BA
   refine x_nil (hK_12 _ _ ?_)
   refine hK_11 _ _ ?_
   refine x_region (by kernel_rfl) ?_
   refine q_v 19 (.int .i64 ((K + 1 : Nat) : Int)) (o_add64 (m := K) (n := 1) rfl ((pm rfl).trans ta_1_10) rfl (by omega)) ?_
   refine q_mv (pe hs_1 rfl rfl) ?_
   refine x_nil ?_
   refine hK_8 _ _ _ ⟨K + 1, rfl, (by rw [putsR_size]; exact hs_1), (by rw [putsR_defers]; exact hd_1), ((pm rfl).trans ta_1_0), ((pm rfl).trans ta_1_2), ((pm rfl).trans ta_1_3), ((pm rfl).trans ta_1_4), ((pm rfl).trans ta_1_6), ((pm rfl).trans ta_1_7), ((pm rfl).trans ta_1_8), (pe hs_1 rfl rfl), (by omega), BR, hB_3, HB_2⟩ ?_
   omega
  ·simp only [DD9] at h_1
   obtain rfl : K = 16 := by omega
   refine w2_exit ?_
   refine thn_exit ?_
   refine thn_exit ?_
   refine exb_hit ?_
   refine hK_7 _ _ ?_
   refine hK_5 _ _ ?_
   refine w2_seq (fun K_14 hK_14 => ?_)
   have h15 := parK_below h0.b8 16 15
   refine x_region (by kernel_rfl) ?_
   refine op_val (d := 20) (v := .pointer (some ⟨g_2, 15, none⟩)) rfl rfl (zero_off (o_ixA (k := 0) (i := 15) (n := 16) (e := 23) rfl ((pm rfl).trans ta_1_4) rfl (by omega) (fun _ => by kernel_rfl) (fun _ => by kernel_rfl))) ?_
   refine q_v 21 (.int .u64 (((parK xs 16).getD (15) 0 : Nat) : Int)) (o_loadW rfl (pe hs_1 rfl rfl) BA (by rw [hpl]; omega) rfl ⟨by kernel_rfl, by kernel_rfl⟩) ?_
   refine q_v 22 (.int .u64 (((parK xs 16).getD (15) 0 % 32768 : Nat) : Int)) (o_eq (o_bits (m := ((parK xs 16).getD (15) 0)) (n := 32767) (((parK xs 16).getD (15) 0) &&& 32767) rfl (pe hs_1 rfl rfl) rfl (by decide) (u64_and_nat _ _ (by omega) (by omega))) (by rw [and_m15])) ?_
   refine op_val (d := 23) (v := .pointer (some ⟨g_2, 15, none⟩)) rfl rfl (zero_off (o_ixA (k := 0) (i := 15) (n := 16) (e := 23) rfl ((pm rfl).trans ta_1_4) rfl (by omega) (fun _ => by kernel_rfl) (fun _ => by kernel_rfl))) ?_
   refine op_do rfl rfl (o_storeW rfl (pe hs_1 rfl rfl) (pe hs_1 rfl rfl) BA (by rw [hpl]; omega) ⟨by kernel_rfl, by kernel_rfl⟩) (fun w_6 hR_5 => ?_)
   obtain ⟨hB_4, hX_2⟩ := hR_5
   replace BR := hX_2.blk BR ne_1
   have HB_3 := hX_2.below HBL HBL.size (fun k hk => hk ▸ ge_2)
   clear BA
   refine x_nil (hK_14 _ _ ?_)
   refine w2_seq (fun K_15 hK_15 => ?_)
   have hl9 : ((parK xs 16).set (15) ((parK xs 16).getD (15) 0 % 32768)).length = 16 := by rw [List.length_set]; exact hpl
   have hM9 : ∀ j, ((parK xs 16).set (15) ((parK xs 16).getD (15) 0 % 32768)).getD j 0 ≤ 65535 * 17592186044416 := by intro j; have h7 := parK_below h0.b8 16 j; by_cases e : 15 = j; (subst e; rw [getD_set_eq (by omega)]; omega); (rw [getD_set_ne e]; omega)
   refine x_region (by kernel_rfl) ?_
   refine q_v 24 (.agg (iws .u64 ((parK xs 16).set (15) ((parK xs 16).getD (15) 0 % 32768))).toArray) (o_loadI rfl ((pm rfl).trans ta_1_4) hB_4 (by rw [hl9]; exact ⟨by kernel_rfl, by kernel_rfl⟩)) ?_
   refine q_ca (vs := #[.agg (iws .u64 ((parK xs 16).set (15) ((parK xs 16).getD (15) 0 % 32768))).toArray]) Try.func33 (args1 (pe hs_1 rfl rfl)) (least_any _ hl9 hM9) (fun e_2 w_7 hR_6 => ?_)
   obtain ⟨rfl, hb_5⟩ := hR_6
   replace BR := BR.nx hb_5
   have HB_4 := below_from HB_3 hb_5
   refine ⟨_, rfl, ?_⟩
   refine op_do rfl rfl (o_storeI rfl ((pm rfl).trans ta_1_2) (pe hs_1 rfl rfl) BR (by rw [(digN_length _)]; exact ⟨by kernel_rfl, by kernel_rfl⟩) (by rw [digN_length]; simp [iws])) (fun w_8 hR_7 => ?_)
   obtain ⟨hB_5, hX_3⟩ := hR_7
   have HB_5 := hX_3.below HB_4 HB_4.size (fun k hk => hk ▸ ge_1)
   clear BR
   refine q_as (.int .i64 ((0 : Nat) : Int)) rfl ?_
   refine x_nil (hK_15 _ _ ?_)
   refine w2_ret ?_
   refine retC2 rfl hd_1 ((pm rfl).trans ta_1_2) (pe hs_1 rfl rfl) (loadI hB_5 (by rw [(digN_length _)]; exact ⟨by kernel_rfl, by kernel_rfl⟩)) ?_
   exact ⟨by rw [par_top h0.b8, par_dg], HB_5⟩
set_option maxHeartbeats 1000000 in
theorem ParseNum_no {A : Option Addr} {c q : Nat} {xs : List Nat} (w : World) (h0 : Bs w A c xs) (hq : xs.length = q) (h32 : ¬ q = 32) :
  Calls Try.prog 7 #[.slice A (q) (c)] w fun e w' => e = .returned (.tuple #[.agg (iws .u64 (List.replicate 16 0)).toArray, .int .i64 ((1 : Nat) : Int)]) ∧ Below w.heap.size w w' := by
 refine x_enter 26 Try.func7 rfl rfl (fun a hs hd ha0 => ?_)
 have t0 : a.eval (.tmp 0) = .slice A (q) (c) := ha0 0 _ rfl
 clear ha0
 refine w2_sr (fun K_1 hK_1 => ?_)
 refine op_ex (d := 2) rfl rfl (o_alloc (zs := (iws .u64 (List.replicate 16 0)).toArray) rfl (fun _ => by kernel_rfl)) (fun v_1 w_1 hR_1 => ?_)
 obtain ⟨g_1, rfl, hle_1, hB_1, hb_1⟩ := hR_1
 have ge_1 : w.heap.size ≤ g_1 := hle_1
 refine q_as (.int .i64 ((0 : Nat) : Int)) rfl ?_
 refine x_nil (hK_1 _ _ ?_)
 refine w2_seq (fun K_2 hK_2 => ?_)
 refine w2_sr (fun K_3 hK_3 => ?_)
 refine q_mv ((pm rfl).trans t0) ?_
 refine q_v 7 (.int .i64 ((q : Nat) : Int)) (o_len rfl (pe hs rfl rfl)) ?_
 refine q_v 8 (.bool (true)) (o_eq (o_neq (m := q) (n := 32) rfl (pe hs rfl rfl) rfl) (by rw [decide_eq_false h32]; rfl)) ?_
 refine x_nil (hK_3 _ _ ?_)
 refine w2_condT (pe hs rfl rfl) ?_
 refine w2_sr (fun K_4 hK_4 => ?_)
 refine q_v 9 (.agg (iws .u64 (List.replicate 16 0)).toArray) (o_bld (vs := #[]) (v := .agg (iws .u64 (List.replicate 16 0)).toArray) rfl (by simp) (fun _ => by kernel_rfl)) ?_
 refine op_do rfl rfl (o_storeI rfl (pe hs rfl rfl) (pe hs rfl rfl) hB_1 (by simp only [List.length_replicate]; exact ⟨by kernel_rfl, by kernel_rfl⟩) (by simp only [List.length_replicate]; simp [iws])) (fun w_2 hR_2 => ?_)
 obtain ⟨hB_2, hX_1⟩ := hR_2
 have HB_1 := hX_1.below hb_1 hb_1.size (fun k hk => hk ▸ ge_1)
 clear hB_1
 refine q_as (.int .i64 ((1 : Nat) : Int)) rfl ?_
 refine x_nil (hK_4 _ _ ?_)
 refine w2_ret ?_
 refine thn_ret ?_
 refine retC2 rfl hd (pe hs rfl rfl) (pe hs rfl rfl) (loadI hB_2 (by simp only [List.length_replicate]; exact ⟨by kernel_rfl, by kernel_rfl⟩)) ?_
 exact ⟨rfl, HB_1⟩
theorem NumBytesR_any {x : F} (w : World) :
  Calls Try.prog 21 #[.agg (iws .u64 (dg x)).toArray] w fun e w' => ∃ A c, e = .returned (.slice A 32 c) ∧ Own w' w.heap.size A c (nbL x) ∧ Below w.heap.size w w' := by
 refine x_enter 17 Try.func21 rfl rfl (fun a hs hd ha0 => ?_)
 have t0 : a.eval (.tmp 0) = .agg (iws .u64 (dg x)).toArray := ha0 0 _ rfl
 clear ha0
 refine w2_sr (fun K_1 hK_1 => ?_)
 refine op_ex (d := 1) rfl rfl (o_boxI rfl ((pm rfl).trans t0)) (fun v_1 w_1 hR_1 => ?_)
 obtain ⟨g_1, rfl, hle_1, hB_1, hb_1⟩ := hR_1
 refine q_as (.slice none (0) (0)) rfl ?_
 refine x_nil (hK_1 _ _ ?_)
 refine w2_sr (fun K_2 hK_2 => ?_)
 refine q_as (.slice none (0) (0)) rfl ?_
 refine x_nil (hK_2 _ _ ?_)
 refine w2_seq (fun K_3 hK_3 => ?_)
 refine w2_sr (fun K_4 hK_4 => ?_)
 refine q_v 6 (.agg (iws .u64 (dg x)).toArray) (o_loadI rfl (pe hs rfl rfl) hB_1 (by rw [dg_length]; exact ⟨by kernel_rfl, by kernel_rfl⟩)) ?_
 refine q_ca (vs := #[.agg (iws .u64 (dg x)).toArray]) Try.func33 (args1 (pe hs rfl rfl)) (leastD_any _) (fun e_1 w_2 hR_2 => ?_)
 obtain ⟨rfl, hb_3⟩ := hR_2
 replace hB_1 := hB_1.nx hb_3
 have HB_1 := below_from hb_1 hb_3
 refine ⟨_, rfl, ?_⟩
 refine q_v 8 (.int .i64 ((0 : Nat) : Int)) (o_move rfl rfl) ?_
 refine x_nil (hK_4 _ _ ?_)
 refine w2_block (fun K_5 hK_5 => ?_)
 refine x_loop (fun nn aa ww => ∃ (K : Nat) (A1 : Option Addr) (c1 : Nat), nn = 16 - K ∧ aa.tmps.size = 17 ∧ aa.defers = [] ∧ aa.eval (.tmp 0) = .agg (iws .u64 (dg x)).toArray ∧ aa.eval (.tmp 1) = .pointer (some ⟨g_1, 0, none⟩) ∧ aa.eval (.tmp 2) = .slice none (0) (0) ∧ aa.eval (.tmp 3) = .slice A1 (2 * K) (c1) ∧ aa.eval (.tmp 6) = .agg (iws .u64 (dg x)).toArray ∧ aa.eval (.tmp 7) = .agg (iws .u64 (dg x)).toArray ∧ aa.eval (.tmp 8) = .int .i64 ((K : Nat) : Int) ∧ K ≤ 16 ∧ Own ww w.heap.size A1 c1 (byK (dg x) K) ∧ Below w.heap.size w ww) (16) ?_ ?_
 ·exact ⟨0, none, 0, rfl, (by rw [putsR_size]; exact hs), (by rw [putsR_defers]; exact hd), ((pm rfl).trans t0), (pe hs rfl rfl), (pe hs rfl rfl), (pe hs rfl rfl), (pe hs rfl rfl), (pe hs rfl rfl), (pe hs rfl rfl), Nat.zero_le _, Own.nil _ _, HB_1⟩
 ·skip
  clear t0 hd hB_1 HB_1
  rintro nna_1 a_1 w_3 ⟨K, A1, c1, hm_1, hs_1, hd_1, ta_1_0, ta_1_1, ta_1_2, ta_1_3, ta_1_6, ta_1_7, ta_1_8, hK, hO, HBL⟩ K_6 hK_6
  subst hm_1
  have hdl := dg_le x K
  refine w2_sr (fun K_7 hK_7 => ?_)
  refine q_v 9 (.bool (decide (K < 16))) (o_lss (m := K) (n := 16) rfl ((pm rfl).trans ta_1_8) rfl) ?_
  refine x_nil (hK_7 _ _ ?_)
  refine w2_seq (fun K_8 hK_8 => ?_)
  refine w2_split (pe hs_1 rfl rfl) (fun h_1 => ?_) (fun h_1 => ?_)
  ·simp only [DD9] at h_1
   refine w2_skip ?_
   refine hK_8 _ _ ?_
   refine w2_seq (fun K_9 hK_9 => ?_)
   refine w2_block (fun K_10 hK_10 => ?_)
   refine w2_sr (fun K_11 hK_11 => ?_)
   refine q_v 10 (.int .u64 (((dg x).getD (K) 0 : Nat) : Int)) (o_idx (n := 16) (e := 23) rfl ((pm rfl).trans ta_1_7) ((pm rfl).trans ta_1_8) (by omega) (by rw [(dg_length _)]) rfl (fun _ => by kernel_rfl) ⟨by kernel_rfl, by kernel_rfl⟩) ?_
   refine q_at (pe hs_1 rfl rfl) ?_
   refine x_nil (hK_11 _ _ ?_)
   refine x_region (by kernel_rfl) ?_
   refine q_mv ((pm rfl).trans ta_1_3) ?_
   refine q_mv (pe hs_1 rfl rfl) ?_
   refine q_ca (vs := #[.int .u64 (((dg x).getD (K) 0 : Nat) : Int), .int .i64 ((2 : Nat) : Int)]) Try.func38 (args2 (pe hs_1 rfl rfl) rfl) (PutLowR_any ((dg x).getD (K) 0) 2 _ (by omega) (by decide)) (fun e_2 w_4 hR_3 => ?_)
   obtain ⟨A_1, c_1, rfl, ho_1, hb_4⟩ := hR_3
   replace ho_1 := ho_1.mono HBL.size
   replace hO := hO.nx hb_4
   have HB_2 := below_from HBL hb_4
   refine ⟨_, rfl, ?_⟩
   refine op_ex (d := 14) rfl rfl (o_append rfl (pe hs_1 rfl rfl) (pe hs_1 rfl rfl) hO (ho_1).bs (by rw [(byK_length _ K)]) (putK_length _ _) (by omega) HB_2.size) (fun v_2 w_5 hR_4 => ?_)
   obtain ⟨A_2, c_2, rfl, ho_2, hb_5, hg_1, hat_1⟩ := hR_4
   have HB_3 : Below w.heap.size w w_5 := (HB_2).trans hb_5
   clear hg_1 hat_1 hO
   refine q_at (pe hs_1 rfl rfl) ?_
   refine x_nil (hK_10 _ _ ?_)
   refine hK_9 _ _ ?_
   refine x_region (by kernel_rfl) ?_
   refine q_v 15 (.int .i64 ((K + 1 : Nat) : Int)) (o_add64 (m := K) (n := 1) rfl ((pm rfl).trans ta_1_8) rfl (by omega)) ?_
   refine q_mv (pe hs_1 rfl rfl) ?_
   refine x_nil ?_
   refine hK_6 _ _ _ ⟨K + 1, A_2, c_2, rfl, (by rw [putsR_size]; exact hs_1), (by rw [putsR_defers]; exact hd_1), ((pm rfl).trans ta_1_0), ((pm rfl).trans ta_1_1), ((pm rfl).trans ta_1_2), (pe hs_1 rfl rfl), ((pm rfl).trans ta_1_6), ((pm rfl).trans ta_1_7), (pe hs_1 rfl rfl), (by omega), ho_2, HB_3⟩ ?_
   omega
  ·simp only [DD9] at h_1
   obtain rfl : K = 16 := by omega
   refine w2_exit ?_
   refine thn_exit ?_
   refine thn_exit ?_
   refine exb_hit ?_
   refine hK_5 _ _ ?_
   refine hK_3 _ _ ?_
   refine w2_sr (fun K_12 hK_12 => ?_)
   refine q_mv ((pm rfl).trans ta_1_3) ?_
   refine q_at (pe hs_1 rfl rfl) ?_
   refine x_nil (hK_12 _ _ ?_)
   refine w2_ret ?_
   refine ret1 rfl hd_1 (pe hs_1 rfl rfl) ?_
   exact ⟨_, _, rfl, hO, HBL⟩
set_option maxHeartbeats 1000000 in
theorem InvNum_any {x : F} (w : World) :
  Calls Try.prog 19 #[.agg (iws .u64 (dg x)).toArray] w fun e w' => e = .returned (.agg (iws .u64 (dg (finv x))).toArray) ∧ Below w.heap.size w w' := by
 refine x_enter 23 Try.func19 rfl rfl (fun a hs hd ha0 => ?_)
 have t0 : a.eval (.tmp 0) = .agg (iws .u64 (dg x)).toArray := ha0 0 _ rfl
 clear ha0
 refine w2_sr (fun K_1 hK_1 => ?_)
 refine op_ex (d := 1) rfl rfl (o_boxI rfl ((pm rfl).trans t0)) (fun v_1 w_1 hR_1 => ?_)
 obtain ⟨g_1, rfl, hle_1, hB_1, hb_1⟩ := hR_1
 refine op_ex (d := 2) rfl rfl (o_alloc (zs := (iws .u64 (List.replicate 16 0)).toArray) rfl (fun _ => by kernel_rfl)) (fun v_2 w_2 hR_2 => ?_)
 obtain ⟨g_2, rfl, hle_2, hB_2, hb_2⟩ := hR_2
 have ne_1 : g_1 ≠ g_2 := Nat.ne_of_lt (Nat.lt_of_lt_of_le hB_1.lt hle_2)
 have ge_2 : w.heap.size ≤ g_2 := Nat.le_trans hb_1.size hle_2
 replace hB_1 := hB_1.nx hb_2
 have HB_1 := below_from hb_1 hb_2
 refine x_nil (hK_1 _ _ ?_)
 refine w2_sr (fun K_2 hK_2 => ?_)
 refine q_ca (vs := #[.int .u64 ((1 : Nat) : Int)]) Try.func10 (args1 rfl) (NumOfR_any 1 _ (by decide)) (fun e_1 w_3 hR_3 => ?_)
 obtain ⟨rfl, hb_4⟩ := hR_3
 replace hB_1 := hB_1.nx hb_4
 replace hB_2 := hB_2.nx hb_4
 have HB_2 := below_from HB_1 hb_4
 refine ⟨_, rfl, ?_⟩
 refine op_ex (d := 3) rfl rfl (o_alloc (zs := (iws .u64 (List.replicate 16 0)).toArray) rfl (fun _ => by kernel_rfl)) (fun v_3 w_4 hR_4 => ?_)
 obtain ⟨g_3, rfl, hle_3, hB_3, hb_5⟩ := hR_4
 have ne_2 : g_1 ≠ g_3 := Nat.ne_of_lt (Nat.lt_of_lt_of_le hB_1.lt hle_3)
 have ne_3 : g_2 ≠ g_3 := Nat.ne_of_lt (Nat.lt_of_lt_of_le hB_2.lt hle_3)
 have ge_3 : w.heap.size ≤ g_3 := Nat.le_trans HB_2.size hle_3
 replace hB_1 := hB_1.nx hb_5
 replace hB_2 := hB_2.nx hb_5
 have HB_3 := below_from HB_2 hb_5
 refine op_do rfl rfl (o_storeI rfl (pe hs rfl rfl) (pe hs rfl rfl) hB_3 (by rw [(digN_length _)]; exact ⟨by kernel_rfl, by kernel_rfl⟩) (by rw [digN_length]; simp [iws])) (fun w_5 hR_5 => ?_)
 obtain ⟨hB_4, hX_1⟩ := hR_5
 replace hB_1 := hX_1.blk hB_1 ne_2
 replace hB_2 := hX_1.blk hB_2 ne_3
 have HB_4 := hX_1.below HB_3 HB_3.size (fun k hk => hk ▸ ge_3)
 clear hB_3
 refine x_nil (hK_2 _ _ ?_)
 refine w2_seq (fun K_3 hK_3 => ?_)
 refine w2_sr (fun K_4 hK_4 => ?_)
 refine q_as (.int .i64 ((254 : Nat) : Int)) rfl ?_
 refine x_nil ?_
 rw [one_dg] at hB_4
 refine hK_4 _ _ ?_
 refine w2_block (fun K_5 hK_5 => ?_)
 refine x_loop (fun nn aa ww => ∃ (K : Nat), nn = 255 - K ∧ aa.tmps.size = 23 ∧ aa.defers = [] ∧ aa.eval (.tmp 0) = .agg (iws .u64 (dg x)).toArray ∧ aa.eval (.tmp 1) = .pointer (some ⟨g_1, 0, none⟩) ∧ aa.eval (.tmp 2) = .pointer (some ⟨g_2, 0, none⟩) ∧ aa.eval (.tmp 3) = .pointer (some ⟨g_3, 0, none⟩) ∧ aa.eval (.tmp 4) = .int .i64 (254 - (K : Int)) ∧ aa.eval (.tmp 5) = .agg (iws .u64 (digN 1)).toArray ∧ K ≤ 255 ∧ Blk ww g_1 (iws .u64 (dg x)).toArray 32 ∧ Blk ww g_2 (iws .u64 (List.replicate 16 0)).toArray 32 ∧ Blk ww g_3 (iws .u64 (dg (invAt x K))).toArray 32 ∧ Below w.heap.size w ww) (255) ?_ ?_
 ·exact ⟨0, rfl, (by rw [putsR_size]; exact hs), (by rw [putsR_defers]; exact hd), ((pm rfl).trans t0), (pe hs rfl rfl), (pe hs rfl rfl), (pe hs rfl rfl), (pe hs rfl rfl), (pe hs rfl rfl), by omega, hB_1, hB_2, hB_4, HB_4⟩
 ·skip
  clear t0 hd hB_1 hB_2 hB_4 HB_4
  rintro nna_1 a_1 w_6 ⟨K, hm_1, hs_1, hd_1, ta_1_0, ta_1_1, ta_1_2, ta_1_3, ta_1_4, ta_1_5, hK, BA, BR, BO, HBL⟩ K_6 hK_6
  subst hm_1
  refine w2_seq (fun K_7 hK_7 => ?_)
  refine w2_sr (fun K_8 hK_8 => ?_)
  refine q_mv ((pm rfl).trans ta_1_4) ?_
  refine q_v 7 (.bool (decide (((0 : Nat) : Int) ≤ 254 - (K : Int)))) (o_geqZZ (m := 254 - (K : Int)) (n := ((0 : Nat) : Int)) rfl (pe hs_1 rfl rfl) rfl) ?_
  refine x_nil (hK_8 _ _ ?_)
  refine w2_split (pe hs_1 rfl rfl) (fun h_1 => ?_) (fun h_1 => ?_)
  ·simp only [DD9] at h_1
   have hK15 : K ≤ 254 := by have h9 := h_1; omega
   refine w2_skip ?_
   refine hK_7 _ _ ?_
   refine w2_seq (fun K_9 hK_9 => ?_)
   refine w2_block (fun K_10 hK_10 => ?_)
   refine w2_sr (fun K_11 hK_11 => ?_)
   refine q_v 10 (.agg (iws .u64 (dg (invAt x K))).toArray) (o_loadI rfl ((pm rfl).trans ta_1_3) BO (by rw [dg_length]; exact ⟨by kernel_rfl, by kernel_rfl⟩)) ?_
   refine q_v 11 (.agg (iws .u64 (dg (invAt x K))).toArray) (o_loadI rfl ((pm rfl).trans ta_1_3) BO (by rw [dg_length]; exact ⟨by kernel_rfl, by kernel_rfl⟩)) ?_
   refine q_ca (vs := #[.agg (iws .u64 (dg (invAt x K))).toArray, .agg (iws .u64 (dg (invAt x K))).toArray]) Try.func17 (args2 (pe hs_1 rfl rfl) (pe hs_1 rfl rfl)) (MulNum_any _) (fun e_2 w_7 hR_6 => ?_)
   obtain ⟨rfl, hb_7⟩ := hR_6
   replace BA := BA.nx hb_7
   replace BR := BR.nx hb_7
   replace BO := BO.nx hb_7
   have HB_5 := below_from HBL hb_7
   refine ⟨_, rfl, ?_⟩
   refine op_do rfl rfl (o_storeI rfl ((pm rfl).trans ta_1_3) (pe hs_1 rfl rfl) BO (by rw [(dg_length _)]; exact ⟨by kernel_rfl, by kernel_rfl⟩) (by simp [iws, dg_length])) (fun w_8 hR_7 => ?_)
   obtain ⟨hB_5, hX_2⟩ := hR_7
   replace BA := hX_2.blk BA ne_2
   replace BR := hX_2.blk BR ne_3
   have HB_6 := hX_2.below HB_5 HB_5.size (fun k hk => hk ▸ ge_3)
   clear BO
   refine x_nil (hK_11 _ _ ?_)
   refine w2_seq (fun K_12 hK_12 => ?_)
   rcases (show 254 - K = 2 ∨ 254 - K = 4 ∨ (¬ 254 - K = 2 ∧ ¬ 254 - K = 4) by omega) with z2 | z4 | ⟨z2, z4⟩
   ·skip
    have hb9 : bitP (254 - K) = false := by rw [z2]; rfl
    refine x_region (by kernel_rfl) ?_
    refine q_v 13 (.int .i64 ((254 - K : Nat) : Int)) (o_eq (o_move rfl ((pm rfl).trans ta_1_4)) (congrArg (Value.int .i64) (by omega))) ?_
    refine q_v 14 (.bool (false)) (o_eq (o_neq (m := (254 - K)) (n := 2) rfl (pe hs_1 rfl rfl) rfl) (by rw [decide_eq_true (by omega)]; rfl)) ?_
    refine q_mv (pe hs_1 rfl rfl) ?_
    refine op_left (e := 15) rfl rfl (by kernel_rfl) (pe hs_1 rfl rfl) rfl ?_
    refine op_left (e := 15) rfl rfl (by kernel_rfl) (pe hs_1 rfl rfl) rfl ?_
    refine q_v 18 (.bool (false)) (o_pickF rfl (pe hs_1 rfl rfl) rfl) ?_
    refine x_nil (hK_12 _ _ ?_)
    refine w2_condF (pe hs_1 rfl rfl) ?_
    refine w2_skip ?_
    refine hK_10 _ _ ?_
    refine hK_9 _ _ ?_
    refine x_region (by kernel_rfl) ?_
    refine q_mv ((pm rfl).trans ta_1_4) ?_
    refine q_v 9 (.int .i64 (254 - ((K + 1 : Nat) : Int))) (o_eq (o_subZZ (m := 254 - (K : Int)) (n := ((1 : Nat) : Int)) rfl (pe hs_1 rfl rfl) rfl (by omega)) (congrArg (Value.int .i64) (by omega))) ?_
    refine q_at (pe hs_1 rfl rfl) ?_
    refine x_nil ?_
    refine hK_6 _ _ _ ⟨K + 1, rfl, (by rw [putsR_size]; exact hs_1), (by rw [putsR_defers]; exact hd_1), ((pm rfl).trans ta_1_0), ((pm rfl).trans ta_1_1), ((pm rfl).trans ta_1_2), ((pm rfl).trans ta_1_3), (pe hs_1 rfl rfl), ((pm rfl).trans ta_1_5), (by omega), BA, BR, (by rw [invAt_not x K hb9]; exact hB_5), HB_6⟩ ?_
    omega
   ·skip
    have hb9 : bitP (254 - K) = false := by rw [z4]; rfl
    refine x_region (by kernel_rfl) ?_
    refine q_v 13 (.int .i64 ((254 - K : Nat) : Int)) (o_eq (o_move rfl ((pm rfl).trans ta_1_4)) (congrArg (Value.int .i64) (by omega))) ?_
    refine q_v 14 (.bool (true)) (o_eq (o_neq (m := (254 - K)) (n := 2) rfl (pe hs_1 rfl rfl) rfl) (by rw [decide_eq_false (by omega)]; rfl)) ?_
    refine q_mv (pe hs_1 rfl rfl) ?_
    refine op_valG (e := 15) (d := 16) (v := .int .i64 ((254 - K : Nat) : Int)) rfl rfl (by kernel_rfl) (pe hs_1 rfl rfl) (o_eq (o_move rfl ((pm rfl).trans ta_1_4)) (congrArg (Value.int .i64) (by omega))) ?_
    refine op_valG (e := 15) (d := 17) (v := .bool (false)) rfl rfl (by kernel_rfl) (pe hs_1 rfl rfl) (o_eq (o_neq (m := (254 - K)) (n := 4) rfl (pe hs_1 rfl rfl) rfl) (by rw [decide_eq_true (by omega)]; rfl)) ?_
    refine q_v 18 (.bool (false)) (o_pickT rfl (pe hs_1 rfl rfl) (pe hs_1 rfl rfl)) ?_
    refine x_nil (hK_12 _ _ ?_)
    refine w2_condF (pe hs_1 rfl rfl) ?_
    refine w2_skip ?_
    refine hK_10 _ _ ?_
    refine hK_9 _ _ ?_
    refine x_region (by kernel_rfl) ?_
    refine q_mv ((pm rfl).trans ta_1_4) ?_
    refine q_v 9 (.int .i64 (254 - ((K + 1 : Nat) : Int))) (o_eq (o_subZZ (m := 254 - (K : Int)) (n := ((1 : Nat) : Int)) rfl (pe hs_1 rfl rfl) rfl (by omega)) (congrArg (Value.int .i64) (by omega))) ?_
    refine q_at (pe hs_1 rfl rfl) ?_
    refine x_nil ?_
    refine hK_6 _ _ _ ⟨K + 1, rfl, (by rw [putsR_size]; exact hs_1), (by rw [putsR_defers]; exact hd_1), ((pm rfl).trans ta_1_0), ((pm rfl).trans ta_1_1), ((pm rfl).trans ta_1_2), ((pm rfl).trans ta_1_3), (pe hs_1 rfl rfl), ((pm rfl).trans ta_1_5), (by omega), BA, BR, (by rw [invAt_not x K hb9]; exact hB_5), HB_6⟩ ?_
    omega
   ·skip
    have hb9 : bitP (254 - K) = true := bitP_not z2 z4
    refine x_region (by kernel_rfl) ?_
    refine q_v 13 (.int .i64 ((254 - K : Nat) : Int)) (o_eq (o_move rfl ((pm rfl).trans ta_1_4)) (congrArg (Value.int .i64) (by omega))) ?_
    refine q_v 14 (.bool (true)) (o_eq (o_neq (m := (254 - K)) (n := 2) rfl (pe hs_1 rfl rfl) rfl) (by rw [decide_eq_false (by omega)]; rfl)) ?_
    refine q_mv (pe hs_1 rfl rfl) ?_
    refine op_valG (e := 15) (d := 16) (v := .int .i64 ((254 - K : Nat) : Int)) rfl rfl (by kernel_rfl) (pe hs_1 rfl rfl) (o_eq (o_move rfl ((pm rfl).trans ta_1_4)) (congrArg (Value.int .i64) (by omega))) ?_
    refine op_valG (e := 15) (d := 17) (v := .bool (true)) rfl rfl (by kernel_rfl) (pe hs_1 rfl rfl) (o_eq (o_neq (m := (254 - K)) (n := 4) rfl (pe hs_1 rfl rfl) rfl) (by rw [decide_eq_false (by omega)]; rfl)) ?_
    refine q_v 18 (.bool (true)) (o_pickT rfl (pe hs_1 rfl rfl) (pe hs_1 rfl rfl)) ?_
    refine x_nil (hK_12 _ _ ?_)
    refine w2_condT (pe hs_1 rfl rfl) ?_
    refine x_region (by kernel_rfl) ?_
    refine q_v 19 (.agg (iws .u64 (dg ((invAt x K) * (invAt x K)))).toArray) (o_loadI rfl ((pm rfl).trans ta_1_3) hB_5 (by rw [dg_length]; exact ⟨by kernel_rfl, by kernel_rfl⟩)) ?_
    refine q_v 20 (.agg (iws .u64 (dg x)).toArray) (o_loadI rfl ((pm rfl).trans ta_1_1) BA (by rw [dg_length]; exact ⟨by kernel_rfl, by kernel_rfl⟩)) ?_
    refine q_ca (vs := #[.agg (iws .u64 (dg ((invAt x K) * (invAt x K)))).toArray, .agg (iws .u64 (dg x)).toArray]) Try.func17 (args2 (pe hs_1 rfl rfl) (pe hs_1 rfl rfl)) (MulNum_any _) (fun e_3 w_9 hR_8 => ?_)
    obtain ⟨rfl, hb_9⟩ := hR_8
    replace BA := BA.nx hb_9
    replace BR := BR.nx hb_9
    replace hB_5 := hB_5.nx hb_9
    have HB_7 := below_from HB_6 hb_9
    refine ⟨_, rfl, ?_⟩
    refine op_do rfl rfl (o_storeI rfl ((pm rfl).trans ta_1_3) (pe hs_1 rfl rfl) hB_5 (by rw [(dg_length _)]; exact ⟨by kernel_rfl, by kernel_rfl⟩) (by simp [iws, dg_length])) (fun w_10 hR_9 => ?_)
    obtain ⟨hB_6, hX_3⟩ := hR_9
    replace BA := hX_3.blk BA ne_2
    replace BR := hX_3.blk BR ne_3
    have HB_8 := hX_3.below HB_7 HB_7.size (fun k hk => hk ▸ ge_3)
    clear hB_5
    refine x_nil (hK_10 _ _ ?_)
    refine hK_9 _ _ ?_
    refine x_region (by kernel_rfl) ?_
    refine q_mv ((pm rfl).trans ta_1_4) ?_
    refine q_v 9 (.int .i64 (254 - ((K + 1 : Nat) : Int))) (o_eq (o_subZZ (m := 254 - (K : Int)) (n := ((1 : Nat) : Int)) rfl (pe hs_1 rfl rfl) rfl (by omega)) (congrArg (Value.int .i64) (by omega))) ?_
    refine q_at (pe hs_1 rfl rfl) ?_
    refine x_nil ?_
    refine hK_6 _ _ _ ⟨K + 1, rfl, (by rw [putsR_size]; exact hs_1), (by rw [putsR_defers]; exact hd_1), ((pm rfl).trans ta_1_0), ((pm rfl).trans ta_1_1), ((pm rfl).trans ta_1_2), ((pm rfl).trans ta_1_3), (pe hs_1 rfl rfl), ((pm rfl).trans ta_1_5), (by omega), BA, BR, (by rw [invAt_set x K hb9]; exact hB_6), HB_8⟩ ?_
    omega
  ·simp only [DD9] at h_1
   obtain rfl : K = 255 := by have h9 := h_1; omega
   refine w2_exit ?_
   refine thn_exit ?_
   refine thn_exit ?_
   refine exb_hit ?_
   refine hK_5 _ _ ?_
   refine hK_3 _ _ ?_
   refine w2_sr (fun K_13 hK_13 => ?_)
   refine q_v 22 (.agg (iws .u64 (dg (invAt x 255))).toArray) (o_loadI rfl ((pm rfl).trans ta_1_3) BO (by rw [dg_length]; exact ⟨by kernel_rfl, by kernel_rfl⟩)) ?_
   refine op_do rfl rfl (o_storeI rfl ((pm rfl).trans ta_1_2) (pe hs_1 rfl rfl) BR (by rw [(dg_length _)]; exact ⟨by kernel_rfl, by kernel_rfl⟩) (by rw [dg_length]; simp [iws])) (fun w_11 hR_10 => ?_)
   obtain ⟨hB_7, hX_4⟩ := hR_10
   replace BA := hX_4.blk BA ne_1
   replace BO := hX_4.blk BO (Ne.symm ne_3)
   have HB_9 := hX_4.below HBL HBL.size (fun k hk => hk ▸ ge_2)
   clear BR
   refine x_nil (hK_13 _ _ ?_)
   refine w2_ret ?_
   refine retC rfl hd_1 ((pm rfl).trans ta_1_2) (loadI hB_7 (by rw [(dg_length _)]; exact ⟨by kernel_rfl, by kernel_rfl⟩)) ?_
   exact ⟨rfl, HB_9⟩
end Go.Proofs.Ytikjcikedbcfmaa
