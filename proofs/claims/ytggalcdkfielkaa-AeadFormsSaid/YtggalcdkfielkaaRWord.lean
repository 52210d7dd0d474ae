/-
 WALKS: the reference's words: at, Low, PutLow, Left, Quarter.
-/
import Derived.Test.YtggalcdkfielkaaCell
import Derived.Test.YtggalcdkfielkaaArr32
namespace Go.Proofs.Ytggalcdkfielkaa
open Go.RowKit
set_option linter.unusedVariables false
set_option linter.unusedSimpArgs false
set_option maxRecDepth 100000
attribute [local irreducible] wpList wpListIn putsR

theorem lw_shl (p K : Nat) (hp : p < 256) (hK : K < 8) : IntKind.u64.wrap (((p : Nat) : Int) * 2 ^ (8 * K)) = ((p * 2 ^ (8 * K) : Nat) : Int) := by
 have h1 : 2 ^ (8 * K) ≤ 2 ^ 56 := Nat.pow_le_pow_right (by omega) (by omega)
 have h2 : p * 2 ^ (8 * K) ≤ 255 * 2 ^ 56 := Nat.mul_le_mul (by omega) h1
 have e1 : (p : Int) * 2 ^ (8 * K) = ((p * 2 ^ (8 * K) : Nat) : Int) := by simp
 rw [e1, IntKind.wrap_u64]
 omega
theorem lw_or (q p K : Nat) (hq : q < 2 ^ (8 * K)) (hp : p < 256) (hK : K < 8) : bits .or .u64 ((q : Nat) : Int) ((p * 2 ^ (8 * K) : Nat) : Int) = ((q + p * 2 ^ (8 * K) : Nat) : Int) := by
 have h := or_low q p K hq hp hK
 rwa [lw_shl p K hp hK] at h
theorem atW_0 {A : Option Addr} {c q : Nat} {xs : List Nat} (w : World) (h0 : Bs w A c xs) (hq : xs.length = q) (i k : Nat) (hi : i < 4611686018427387904) (hk9 : k < 4611686018427387904) (hb : q < i) :
  Calls Try.prog 92 #[.slice A (q) (c), .int .i64 ((i : Nat) : Int), .int .i64 ((k : Nat) : Int)] w fun e w' => e = .returned (.int .u8 ((xs.getD (i + k) 0 : Nat) : Int)) ∧ w = w' := by
 have hcl := h0.le
 have hcm := h0.max
 unfold maxLen at hcm
 refine x_enter 29 Try.func92 rfl rfl (fun a hs hd ha0 => ?_)
 have t0 : a.eval (.tmp 0) = .slice A (q) (c) := ha0 0 _ rfl
 have t1 : a.eval (.tmp 1) = .int .i64 ((i : Nat) : Int) := ha0 1 _ rfl
 clear ha0
 refine w2_sr (fun K_1 hK_1 => ?_)
 refine q_as (.int .u8 ((0 : Nat) : Int)) rfl ?_
 refine x_nil (hK_1 _ _ ?_)
 refine w2_seq (fun K_2 hK_2 => ?_)
 refine w2_sr (fun K_3 hK_3 => ?_)
 refine q_mv ((pm rfl).trans t1) ?_
 refine q_v 8 (.bool (false)) (o_eq (o_lss (m := i) (n := 0) rfl (pe hs rfl rfl) rfl) (by rw [decide_eq_false (by omega)])) ?_
 refine q_mv (pe hs rfl rfl) ?_
 refine op_valG (e := 9) (d := 10) (v := .int .i64 ((i : Nat) : Int)) rfl rfl (by kernel_rfl) (pe hs rfl rfl) (o_move rfl ((pm rfl).trans t1)) ?_
 refine op_valG (e := 9) (d := 11) (v := .slice A (q) (c)) rfl rfl (by kernel_rfl) (pe hs rfl rfl) (o_move rfl ((pm rfl).trans t0)) ?_
 refine op_valG (e := 9) (d := 12) (v := .int .i64 ((q : Nat) : Int)) rfl rfl (by kernel_rfl) (pe hs rfl rfl) (o_len rfl (pe hs rfl rfl)) ?_
 refine op_valG (e := 9) (d := 13) (v := .bool (true)) rfl rfl (by kernel_rfl) (pe hs rfl rfl) (o_eq (o_gtr (m := i) (n := q) rfl (pe hs rfl rfl) (pe hs rfl rfl)) (by rw [decide_eq_true hb])) ?_
 refine q_v 14 (.bool (true)) (o_pickF rfl (pe hs rfl rfl) (pe hs rfl rfl)) ?_
 refine q_mv (pe hs rfl rfl) ?_
 refine op_left (e := 15) rfl rfl (by kernel_rfl) (pe hs rfl rfl) rfl ?_
 refine op_left (e := 15) rfl rfl (by kernel_rfl) (pe hs rfl rfl) rfl ?_
 refine op_left (e := 15) rfl rfl (by kernel_rfl) (pe hs rfl rfl) rfl ?_
 refine op_left (e := 15) rfl rfl (by kernel_rfl) (pe hs rfl rfl) rfl ?_
 refine op_left (e := 15) rfl rfl (by kernel_rfl) (pe hs rfl rfl) rfl ?_
 refine op_left (e := 15) rfl rfl (by kernel_rfl) (pe hs rfl rfl) rfl ?_
 refine q_v 22 (.bool (true)) (o_pickT rfl (pe hs rfl rfl) rfl) ?_
 refine x_nil (hK_3 _ _ ?_)
 refine w2_condT (pe hs rfl rfl) ?_
 refine w2_sr (fun K_4 hK_4 => ?_)
 refine q_as (.int .u8 ((0 : Nat) : Int)) rfl ?_
 refine x_nil (hK_4 _ _ ?_)
 refine w2_ret ?_
 refine thn_ret ?_
 refine ret1 rfl hd (pe hs rfl rfl) ?_
 exact ⟨by rw [show xs.getD (i + k) 0 = 0 from by rw [List.getD_eq_getElem?_getD, List.getElem?_eq_none (by omega)]; rfl], rfl⟩
theorem atW_1 {A : Option Addr} {c q : Nat} {xs : List Nat} (w : World) (h0 : Bs w A c xs) (hq : xs.length = q) (i k : Nat) (hi : i < 4611686018427387904) (hk9 : k < 4611686018427387904) (hb : i ≤ q) (hk : q ≤ i + k) :
  Calls Try.prog 92 #[.slice A (q) (c), .int .i64 ((i : Nat) : Int), .int .i64 ((k : Nat) : Int)] w fun e w' => e = .returned (.int .u8 ((xs.getD (i + k) 0 : Nat) : Int)) ∧ w = w' := by
 have hcl := h0.le
 have hcm := h0.max
 unfold maxLen at hcm
 refine x_enter 29 Try.func92 rfl rfl (fun a hs hd ha0 => ?_)
 have t0 : a.eval (.tmp 0) = .slice A (q) (c) := ha0 0 _ rfl
 have t1 : a.eval (.tmp 1) = .int .i64 ((i : Nat) : Int) := ha0 1 _ rfl
 have t2 : a.eval (.tmp 2) = .int .i64 ((k : Nat) : Int) := ha0 2 _ rfl
 clear ha0
 refine w2_sr (fun K_1 hK_1 => ?_)
 refine q_as (.int .u8 ((0 : Nat) : Int)) rfl ?_
 refine x_nil (hK_1 _ _ ?_)
 refine w2_seq (fun K_2 hK_2 => ?_)
 refine w2_sr (fun K_3 hK_3 => ?_)
 refine q_mv ((pm rfl).trans t1) ?_
 refine q_v 8 (.bool (false)) (o_eq (o_lss (m := i) (n := 0) rfl (pe hs rfl rfl) rfl) (by rw [decide_eq_false (by omega)])) ?_
 refine q_mv (pe hs rfl rfl) ?_
 refine op_valG (e := 9) (d := 10) (v := .int .i64 ((i : Nat) : Int)) rfl rfl (by kernel_rfl) (pe hs rfl rfl) (o_move rfl ((pm rfl).trans t1)) ?_
 refine op_valG (e := 9) (d := 11) (v := .slice A (q) (c)) rfl rfl (by kernel_rfl) (pe hs rfl rfl) (o_move rfl ((pm rfl).trans t0)) ?_
 refine op_valG (e := 9) (d := 12) (v := .int .i64 ((q : Nat) : Int)) rfl rfl (by kernel_rfl) (pe hs rfl rfl) (o_len rfl (pe hs rfl rfl)) ?_
 refine op_valG (e := 9) (d := 13) (v := .bool (false)) rfl rfl (by kernel_rfl) (pe hs rfl rfl) (o_eq (o_gtr (m := i) (n := q) rfl (pe hs rfl rfl) (pe hs rfl rfl)) (by rw [decide_eq_false (by omega)])) ?_
 refine q_v 14 (.bool (false)) (o_pickF rfl (pe hs rfl rfl) (pe hs rfl rfl)) ?_
 refine q_mv (pe hs rfl rfl) ?_
 refine op_valG (e := 15) (d := 16) (v := .int .i64 ((k : Nat) : Int)) rfl rfl (by kernel_rfl) (pe hs rfl rfl) (o_move rfl ((pm rfl).trans t2)) ?_
 refine op_valG (e := 15) (d := 17) (v := .slice A (q) (c)) rfl rfl (by kernel_rfl) (pe hs rfl rfl) (o_move rfl ((pm rfl).trans t0)) ?_
 refine op_valG (e := 15) (d := 18) (v := .int .i64 ((q : Nat) : Int)) rfl rfl (by kernel_rfl) (pe hs rfl rfl) (o_len rfl (pe hs rfl rfl)) ?_
 refine op_valG (e := 15) (d := 19) (v := .int .i64 ((i : Nat) : Int)) rfl rfl (by kernel_rfl) (pe hs rfl rfl) (o_move rfl ((pm rfl).trans t1)) ?_
 refine op_valG (e := 15) (d := 20) (v := .int .i64 ((q - i : Nat) : Int)) rfl rfl (by kernel_rfl) (pe hs rfl rfl) (o_sub64 (m := q) (n := i) rfl (pe hs rfl rfl) (pe hs rfl rfl) (by omega) (by omega)) ?_
 refine op_valG (e := 15) (d := 21) (v := .bool (true)) rfl rfl (by kernel_rfl) (pe hs rfl rfl) (o_eq (o_geq (m := k) (n := (q - i)) rfl (pe hs rfl rfl) (pe hs rfl rfl)) (by rw [decide_eq_true (by omega)])) ?_
 refine q_v 22 (.bool (true)) (o_pickF rfl (pe hs rfl rfl) (pe hs rfl rfl)) ?_
 refine x_nil (hK_3 _ _ ?_)
 refine w2_condT (pe hs rfl rfl) ?_
 refine w2_sr (fun K_4 hK_4 => ?_)
 refine q_as (.int .u8 ((0 : Nat) : Int)) rfl ?_
 refine x_nil (hK_4 _ _ ?_)
 refine w2_ret ?_
 refine thn_ret ?_
 refine ret1 rfl hd (pe hs rfl rfl) ?_
 exact ⟨by rw [show xs.getD (i + k) 0 = 0 from by rw [List.getD_eq_getElem?_getD, List.getElem?_eq_none (by omega)]; rfl], rfl⟩
theorem atW_2 {A : Option Addr} {c q : Nat} {xs : List Nat} (w : World) (h0 : Bs w A c xs) (hq : xs.length = q) (i k : Nat) (hi : i < 4611686018427387904) (hk9 : k < 4611686018427387904) (hb : i ≤ q) (hk : i + k < q) :
  Calls Try.prog 92 #[.slice A (q) (c), .int .i64 ((i : Nat) : Int), .int .i64 ((k : Nat) : Int)] w fun e w' => e = .returned (.int .u8 ((xs.getD (i + k) 0 : Nat) : Int)) ∧ w = w' := by
 have hcl := h0.le
 have hcm := h0.max
 unfold maxLen at hcm
 refine x_enter 29 Try.func92 rfl rfl (fun a hs hd ha0 => ?_)
 have t0 : a.eval (.tmp 0) = .slice A (q) (c) := ha0 0 _ rfl
 have t1 : a.eval (.tmp 1) = .int .i64 ((i : Nat) : Int) := ha0 1 _ rfl
 have t2 : a.eval (.tmp 2) = .int .i64 ((k : Nat) : Int) := ha0 2 _ rfl
 clear ha0
 refine w2_sr (fun K_1 hK_1 => ?_)
 refine q_as (.int .u8 ((0 : Nat) : Int)) rfl ?_
 refine x_nil (hK_1 _ _ ?_)
 refine w2_seq (fun K_2 hK_2 => ?_)
 refine w2_sr (fun K_3 hK_3 => ?_)
 refine q_mv ((pm rfl).trans t1) ?_
 refine q_v 8 (.bool (false)) (o_eq (o_lss (m := i) (n := 0) rfl (pe hs rfl rfl) rfl) (by rw [decide_eq_false (by omega)])) ?_
 refine q_mv (pe hs rfl rfl) ?_
 refine op_valG (e := 9) (d := 10) (v := .int .i64 ((i : Nat) : Int)) rfl rfl (by kernel_rfl) (pe hs rfl rfl) (o_move rfl ((pm rfl).trans t1)) ?_
 refine op_valG (e := 9) (d := 11) (v := .slice A (q) (c)) rfl rfl (by kernel_rfl) (pe hs rfl rfl) (o_move rfl ((pm rfl).trans t0)) ?_
 refine op_valG (e := 9) (d := 12) (v := .int .i64 ((q : Nat) : Int)) rfl rfl (by kernel_rfl) (pe hs rfl rfl) (o_len rfl (pe hs rfl rfl)) ?_
 refine op_valG (e := 9) (d := 13) (v := .bool (false)) rfl rfl (by kernel_rfl) (pe hs rfl rfl) (o_eq (o_gtr (m := i) (n := q) rfl (pe hs rfl rfl) (pe hs rfl rfl)) (by rw [decide_eq_false (by omega)])) ?_
 refine q_v 14 (.bool (false)) (o_pickF rfl (pe hs rfl rfl) (pe hs rfl rfl)) ?_
 refine q_mv (pe hs rfl rfl) ?_
 refine op_valG (e := 15) (d := 16) (v := .int .i64 ((k : Nat) : Int)) rfl rfl (by kernel_rfl) (pe hs rfl rfl) (o_move rfl ((pm rfl).trans t2)) ?_
 refine op_valG (e := 15) (d := 17) (v := .slice A (q) (c)) rfl rfl (by kernel_rfl) (pe hs rfl rfl) (o_move rfl ((pm rfl).trans t0)) ?_
 refine op_valG (e := 15) (d := 18) (v := .int .i64 ((q : Nat) : Int)) rfl rfl (by kernel_rfl) (pe hs rfl rfl) (o_len rfl (pe hs rfl rfl)) ?_
 refine op_valG (e := 15) (d := 19) (v := .int .i64 ((i : Nat) : Int)) rfl rfl (by kernel_rfl) (pe hs rfl rfl) (o_move rfl ((pm rfl).trans t1)) ?_
 refine op_valG (e := 15) (d := 20) (v := .int .i64 ((q - i : Nat) : Int)) rfl rfl (by kernel_rfl) (pe hs rfl rfl) (o_sub64 (m := q) (n := i) rfl (pe hs rfl rfl) (pe hs rfl rfl) (by omega) (by omega)) ?_
 refine op_valG (e := 15) (d := 21) (v := .bool (false)) rfl rfl (by kernel_rfl) (pe hs rfl rfl) (o_eq (o_geq (m := k) (n := (q - i)) rfl (pe hs rfl rfl) (pe hs rfl rfl)) (by rw [decide_eq_false (by omega)])) ?_
 refine q_v 22 (.bool (false)) (o_pickF rfl (pe hs rfl rfl) (pe hs rfl rfl)) ?_
 refine x_nil (hK_3 _ _ ?_)
 refine w2_condF (pe hs rfl rfl) ?_
 refine w2_skip ?_
 refine hK_2 _ _ ?_
 refine w2_sr (fun K_4 hK_4 => ?_)
 refine q_mv ((pm rfl).trans t0) ?_
 refine q_mv ((pm rfl).trans t1) ?_
 refine q_mv ((pm rfl).trans t2) ?_
 refine q_v 26 (.int .i64 ((i + k : Nat) : Int)) (o_add64 (m := i) (n := k) rfl (pe hs rfl rfl) (pe hs rfl rfl) (by omega)) ?_
 refine q_v 27 (.pointer (atA A (i + k))) (o_ix (k := i + k) rfl (pe hs rfl rfl) (pe hs rfl rfl) (by omega) (h0.some (by rw [hq]; omega))) ?_
 refine q_v 28 (.int .u8 ((xs.getD (i + k) 0 : Nat) : Int)) (o_ld8 rfl (pe hs rfl rfl) h0 (by rw [hq]; omega) rfl) ?_
 refine q_at (pe hs rfl rfl) ?_
 refine x_nil (hK_4 _ _ ?_)
 refine w2_ret ?_
 refine ret1 rfl hd (pe hs rfl rfl) ?_
 exact ⟨rfl, rfl⟩
theorem atW_any {A : Option Addr} {c q : Nat} {xs : List Nat} (w : World) (h0 : Bs w A c xs) (hq : xs.length = q) (i k : Nat) (hi : i < 4611686018427387904) (hk9 : k < 4611686018427387904) :
  Calls Try.prog 92 #[.slice A (q) (c), .int .i64 ((i : Nat) : Int), .int .i64 ((k : Nat) : Int)] w fun e w' => e = .returned (.int .u8 ((xs.getD (i + k) 0 : Nat) : Int)) ∧ w = w' := by
 by_cases hb : i ≤ q
 ·by_cases hk : q ≤ i + k
  ·exact atW_1 w h0 hq i k hi hk9 hb hk
  ·exact atW_2 w h0 hq i k hi hk9 hb (by omega)
 ·exact atW_0 w h0 hq i k hi hk9 (by omega)
theorem LowW_any {A : Option Addr} {c q : Nat} {xs : List Nat} (w : World) (h0 : Bs w A c xs) (hq : xs.length = q) (i n : Nat) (hi : i < 4611686018427387904) (hn : n ≤ 8) :
  Calls Try.prog 86 #[.slice A (q) (c), .int .i64 ((i : Nat) : Int), .int .i64 ((n : Nat) : Int)] w fun e w' => e = .returned (.int .u64 ((lowN xs i n : Nat) : Int)) ∧ w = w' := by
 refine x_enter 26 Try.func86 rfl rfl (fun a hs hd ha0 => ?_)
 have t0 : a.eval (.tmp 0) = .slice A (q) (c) := ha0 0 _ rfl
 have t1 : a.eval (.tmp 1) = .int .i64 ((i : Nat) : Int) := ha0 1 _ rfl
 have t2 : a.eval (.tmp 2) = .int .i64 ((n : Nat) : Int) := ha0 2 _ rfl
 clear ha0
 refine w2_sr (fun K_1 hK_1 => ?_)
 refine q_as (.int .u64 ((0 : Nat) : Int)) rfl ?_
 refine x_nil (hK_1 _ _ ?_)
 refine w2_sr (fun K_2 hK_2 => ?_)
 refine q_as (.int .u64 ((0 : Nat) : Int)) rfl ?_
 refine x_nil (hK_2 _ _ ?_)
 refine w2_seq (fun K_3 hK_3 => ?_)
 refine w2_sr (fun K_4 hK_4 => ?_)
 refine q_mv ((pm rfl).trans t2) ?_
 refine q_v 10 (.int .i64 ((0 : Nat) : Int)) (o_move rfl rfl) ?_
 refine x_nil (hK_4 _ _ ?_)
 refine w2_block (fun K_5 hK_5 => ?_)
 refine x_loop (fun nn aa ww => ∃ (K : Nat), nn = n - K ∧ aa.tmps.size = 26 ∧ aa.defers = [] ∧ aa.eval (.tmp 0) = .slice A (q) (c) ∧ aa.eval (.tmp 1) = .int .i64 ((i : Nat) : Int) ∧ aa.eval (.tmp 2) = .int .i64 ((n : Nat) : Int) ∧ aa.eval (.tmp 6) = .int .u64 ((0 : Nat) : Int) ∧ aa.eval (.tmp 7) = .int .u64 ((lowN xs i K : Nat) : Int) ∧ aa.eval (.tmp 9) = .int .i64 ((n : Nat) : Int) ∧ aa.eval (.tmp 10) = .int .i64 ((K : Nat) : Int) ∧ K ≤ n ∧ w = ww) (n) ?_ ?_
 ·exact ⟨0, rfl, (by rw [putsR_size]; exact hs), (by rw [putsR_defers]; exact hd), ((pm rfl).trans t0), ((pm rfl).trans t1), ((pm rfl).trans t2), (pe hs rfl rfl), (pe hs rfl rfl), (pe hs rfl rfl), (pe hs rfl rfl), (Nat.zero_le _), rfl⟩
 ·skip
  clear t0 t1 t2 hd
  rintro nna_1 a_1 w_1 ⟨K, hm_1, hs_1, hd_1, ta_1_0, ta_1_1, ta_1_2, ta_1_6, ta_1_7, ta_1_9, ta_1_10, hK, hW⟩ K_6 hK_6
  subst hm_1
  subst hW
  have hlo := lowN_lt h0.b8 i K
  have hp8 := getD_lt h0.b8 (i + K)
  refine w2_sr (fun K_7 hK_7 => ?_)
  refine q_v 11 (.bool (decide (K < n))) (o_lss (m := K) (n := n) rfl ((pm rfl).trans ta_1_10) ((pm rfl).trans ta_1_9)) ?_
  refine x_nil (hK_7 _ _ ?_)
  refine w2_seq (fun K_8 hK_8 => ?_)
  refine w2_split (pe hs_1 rfl rfl) (fun h_1 => ?_) (fun h_1 => ?_)
  ·simp only [DD9] at h_1
   refine w2_skip ?_
   refine hK_8 _ _ ?_
   refine w2_seq (fun K_9 hK_9 => ?_)
   refine w2_block (fun K_10 hK_10 => ?_)
   refine w2_sr (fun K_11 hK_11 => ?_)
   refine q_mv ((pm rfl).trans ta_1_10) ?_
   refine q_at (pe hs_1 rfl rfl) ?_
   refine x_nil (hK_11 _ _ ?_)
   refine x_region (by kernel_rfl) ?_
   refine q_mv ((pm rfl).trans ta_1_7) ?_
   refine q_mv ((pm rfl).trans ta_1_0) ?_
   refine q_mv ((pm rfl).trans ta_1_1) ?_
   refine q_mv (pe hs_1 rfl rfl) ?_
   refine q_ca (vs := #[.slice A (q) (c), .int .i64 ((i : Nat) : Int), .int .i64 ((K : Nat) : Int)]) Try.func92 (args3 (pe hs_1 rfl rfl) (pe hs_1 rfl rfl) (pe hs_1 rfl rfl)) (atW_any _ h0 hq i K (by omega) (by omega)) (fun e_1 w_2 hR_1 => ?_)
   obtain ⟨rfl, rfl⟩ := hR_1
   refine ⟨_, rfl, ?_⟩
   refine q_v 18 (.int .u64 ((xs.getD (i + K) 0 : Nat) : Int)) (o_conv (m := (xs.getD (i + K) 0)) (r := xs.getD (i + K) 0) rfl (pe hs_1 rfl rfl) ⟨.int .u8, fun _ => by kernel_rfl⟩ (fun _ => by kernel_rfl) (by rw [IntKind.wrap_u64]; omega)) ?_
   refine q_mv (pe hs_1 rfl rfl) ?_
   refine q_v 20 (.int .i64 ((8 * K : Nat) : Int)) (o_mul64 (m := 8) (n := K) rfl rfl (pe hs_1 rfl rfl) (by omega)) ?_
   refine q_v 21 (.int .u64 ((8 * K : Nat) : Int)) (o_conv (m := (8 * K)) (r := 8 * K) rfl (pe hs_1 rfl rfl) ⟨.int .i64, fun _ => by kernel_rfl⟩ (fun _ => by kernel_rfl) (by rw [IntKind.wrap_u64]; omega)) ?_
   refine q_v 22 (.int .u64 ((xs.getD (i + K) 0 * 2 ^ (8 * K) : Nat) : Int)) (o_shl (m := xs.getD (i + K) 0) (n := 8 * K) (xs.getD (i + K) 0 * 2 ^ (8 * K)) rfl (pe hs_1 rfl rfl) (pe hs_1 rfl rfl) (by show 8 * K ≤ 64; omega) (lw_shl _ K hp8 (by omega))) ?_
   refine q_v 23 (.int .u64 ((lowN xs i (K + 1) : Nat) : Int)) (o_bits (m := lowN xs i K) (n := xs.getD (i + K) 0 * 2 ^ (8 * K)) (lowN xs i (K + 1)) rfl (pe hs_1 rfl rfl) (pe hs_1 rfl rfl) (by decide) (lw_or _ _ K hlo hp8 (by omega))) ?_
   refine q_at (pe hs_1 rfl rfl) ?_
   refine x_nil (hK_10 _ _ ?_)
   refine hK_9 _ _ ?_
   refine x_region (by kernel_rfl) ?_
   refine q_v 24 (.int .i64 ((K + 1 : Nat) : Int)) (o_add64 (m := K) (n := 1) rfl ((pm rfl).trans ta_1_10) rfl (by omega)) ?_
   refine q_mv (pe hs_1 rfl rfl) ?_
   refine x_nil ?_
   refine hK_6 _ _ _ ⟨K + 1, rfl, (by rw [putsR_size]; exact hs_1), (by rw [putsR_defers]; exact hd_1), ((pm rfl).trans ta_1_0), ((pm rfl).trans ta_1_1), ((pm rfl).trans ta_1_2), ((pm rfl).trans ta_1_6), (pe hs_1 rfl rfl), ((pm rfl).trans ta_1_9), (pe hs_1 rfl rfl), (by omega), rfl⟩ ?_
   omega
  ·simp only [DD9] at h_1
   obtain rfl : K = n := by omega
   refine w2_exit ?_
   refine thn_exit ?_
   refine thn_exit ?_
   refine exb_hit ?_
   refine hK_5 _ _ ?_
   refine hK_3 _ _ ?_
   refine w2_sr (fun K_12 hK_12 => ?_)
   refine q_mv ((pm rfl).trans ta_1_7) ?_
   refine q_at (pe hs_1 rfl rfl) ?_
   refine x_nil (hK_12 _ _ ?_)
   refine w2_ret ?_
   refine ret1 rfl hd_1 (pe hs_1 rfl rfl) ?_
   exact ⟨rfl, rfl⟩
theorem PutLowW_any (x n : Nat) (w : World) (hx : x < 18446744073709551616) (hn : n ≤ 8) :
  Calls Try.prog 35 #[.int .u64 ((x : Nat) : Int), .int .i64 ((n : Nat) : Int)] w fun e w' => ∃ A c, e = .returned (.slice A n c) ∧ Own w' w.heap.size A c (putL x n) ∧ Below w.heap.size w w' := by
 refine x_enter 22 Try.func35 rfl rfl (fun a hs hd ha0 => ?_)
 have t0 : a.eval (.tmp 0) = .int .u64 ((x : Nat) : Int) := ha0 0 _ rfl
 have t1 : a.eval (.tmp 1) = .int .i64 ((n : Nat) : Int) := ha0 1 _ rfl
 clear ha0
 refine w2_sr (fun K_1 hK_1 => ?_)
 refine q_as (.slice none (0) (0)) rfl ?_
 refine x_nil (hK_1 _ _ ?_)
 refine w2_sr (fun K_2 hK_2 => ?_)
 refine q_as (.slice none (0) (0)) rfl ?_
 refine x_nil (hK_2 _ _ ?_)
 refine w2_seq (fun K_3 hK_3 => ?_)
 refine w2_sr (fun K_4 hK_4 => ?_)
 refine q_mv ((pm rfl).trans t1) ?_
 refine q_v 8 (.int .i64 ((0 : Nat) : Int)) (o_move rfl rfl) ?_
 refine x_nil (hK_4 _ _ ?_)
 refine w2_block (fun K_5 hK_5 => ?_)
 refine x_loop (fun nn aa ww => ∃ (K : Nat) (A1 : Option Addr) (c1 : Nat), nn = n - K ∧ aa.tmps.size = 22 ∧ aa.defers = [] ∧ aa.eval (.tmp 0) = .int .u64 ((x : Nat) : Int) ∧ aa.eval (.tmp 1) = .int .i64 ((n : Nat) : Int) ∧ aa.eval (.tmp 4) = .slice none (0) (0) ∧ aa.eval (.tmp 5) = .slice A1 (K) (c1) ∧ aa.eval (.tmp 7) = .int .i64 ((n : Nat) : Int) ∧ aa.eval (.tmp 8) = .int .i64 ((K : Nat) : Int) ∧ K ≤ n ∧ Own ww w.heap.size A1 c1 (putL x K) ∧ Below w.heap.size w ww) (n) ?_ ?_
 ·exact ⟨0, none, 0, rfl, (by rw [putsR_size]; exact hs), (by rw [putsR_defers]; exact hd), ((pm rfl).trans t0), ((pm rfl).trans t1), (pe hs rfl rfl), (pe hs rfl rfl), (pe hs rfl rfl), (pe hs rfl rfl), Nat.zero_le _, Own.nil _ _, Below.refl _ _⟩
 ·skip
  clear t0 t1 hd
  rintro nna_1 a_1 w_1 ⟨K, A1, c1, hm_1, hs_1, hd_1, ta_1_0, ta_1_1, ta_1_4, ta_1_5, ta_1_7, ta_1_8, hK, hO, HBL⟩ K_6 hK_6
  subst hm_1
  refine w2_sr (fun K_7 hK_7 => ?_)
  refine q_v 9 (.bool (decide (K < n))) (o_lss (m := K) (n := n) rfl ((pm rfl).trans ta_1_8) ((pm rfl).trans ta_1_7)) ?_
  refine x_nil (hK_7 _ _ ?_)
  refine w2_seq (fun K_8 hK_8 => ?_)
  refine w2_split (pe hs_1 rfl rfl) (fun h_1 => ?_) (fun h_1 => ?_)
  ·simp only [DD9] at h_1
   refine w2_skip ?_
   refine hK_8 _ _ ?_
   refine w2_seq (fun K_9 hK_9 => ?_)
   refine w2_block (fun K_10 hK_10 => ?_)
   refine w2_sr (fun K_11 hK_11 => ?_)
   refine q_mv ((pm rfl).trans ta_1_8) ?_
   refine q_at (pe hs_1 rfl rfl) ?_
   refine x_nil (hK_11 _ _ ?_)
   refine x_region (by kernel_rfl) ?_
   refine q_mv ((pm rfl).trans ta_1_5) ?_
   refine q_mv ((pm rfl).trans ta_1_0) ?_
   refine q_mv (pe hs_1 rfl rfl) ?_
   refine q_v 14 (.int .i64 ((8 * K : Nat) : Int)) (o_mul64 (m := 8) (n := K) rfl rfl (pe hs_1 rfl rfl) (by omega)) ?_
   refine q_v 15 (.int .u64 ((8 * K : Nat) : Int)) (o_conv (m := (8 * K)) (r := 8 * K) rfl (pe hs_1 rfl rfl) ⟨.int .i64, fun _ => by kernel_rfl⟩ (fun _ => by kernel_rfl) (by rw [IntKind.wrap_u64]; omega)) ?_
   refine q_v 16 (.int .u64 ((x / 2 ^ (8 * K) : Nat) : Int)) (o_shr (m := x) (n := (8 * K)) rfl (pe hs_1 rfl rfl) (pe hs_1 rfl rfl) (by simp [IntKind.bits]; omega)) ?_
   refine q_v 17 (.int .u8 (((x / 2 ^ (8 * K)) % 256 : Nat) : Int)) (o_conv (m := (x / 2 ^ (8 * K))) (r := (x / 2 ^ (8 * K)) % 256) rfl (pe hs_1 rfl rfl) ⟨.int .u64, fun _ => by kernel_rfl⟩ (fun _ => by kernel_rfl) (by rw [IntKind.wrap_u8]; omega)) ?_
   refine op_ex (d := 18) rfl rfl (o_build1 (m := (x / 2 ^ (8 * K)) % 256) rfl (pe hs_1 rfl rfl) (Nat.mod_lt _ (by decide))) (fun v_1 w_2 hR_1 => ?_)
   obtain ⟨g_1, rfl, ho_1, hb_1⟩ := hR_1
   replace ho_1 := ho_1.mono HBL.size
   replace hO := hO.nx hb_1
   have HB_1 := below_from HBL hb_1
   refine op_ex (d := 19) rfl rfl (o_append rfl (pe hs_1 rfl rfl) (pe hs_1 rfl rfl) hO (ho_1).bs (by rw [(putL_length x K)]) (by simp only [List.length_cons, List.length_nil]) (by omega) HB_1.size) (fun v_2 w_3 hR_2 => ?_)
   obtain ⟨A_1, c_1, rfl, ho_2, hb_2, hg_1, hat_1⟩ := hR_2
   have HB_2 : Below w.heap.size w w_3 := (HB_1).trans hb_2
   clear hg_1 hat_1 hO
   refine q_at (pe hs_1 rfl rfl) ?_
   refine x_nil (hK_10 _ _ ?_)
   refine hK_9 _ _ ?_
   refine x_region (by kernel_rfl) ?_
   refine q_v 20 (.int .i64 ((K + 1 : Nat) : Int)) (o_add64 (m := K) (n := 1) rfl ((pm rfl).trans ta_1_8) rfl (by omega)) ?_
   refine q_mv (pe hs_1 rfl rfl) ?_
   refine x_nil ?_
   refine hK_6 _ _ _ ⟨K + 1, A_1, c_1, rfl, (by rw [putsR_size]; exact hs_1), (by rw [putsR_defers]; exact hd_1), ((pm rfl).trans ta_1_0), ((pm rfl).trans ta_1_1), ((pm rfl).trans ta_1_4), (pe hs_1 rfl rfl), ((pm rfl).trans ta_1_7), (pe hs_1 rfl rfl), (by omega), ho_2, HB_2⟩ ?_
   omega
  ·simp only [DD9] at h_1
   obtain rfl : K = n := by omega
   refine w2_exit ?_
   refine thn_exit ?_
   refine thn_exit ?_
   refine exb_hit ?_
   refine hK_5 _ _ ?_
   refine hK_3 _ _ ?_
   refine w2_sr (fun K_12 hK_12 => ?_)
   refine q_mv ((pm rfl).trans ta_1_5) ?_
   refine q_at (pe hs_1 rfl rfl) ?_
   refine x_nil (hK_12 _ _ ?_)
   refine w2_ret ?_
   refine ret1 rfl hd_1 (pe hs_1 rfl rfl) ?_
   exact ⟨_, _, rfl, hO, HBL⟩
theorem ret4 {P : Program} {fn : Func} {R : Ending → World → Prop} {a : Act} {w : World} {l : List (Tmp × Value)} {t u s r : Tmp} {v x y z : Value} (hf : fn.results = #[.tmp t, .tmp u, .tmp s, .tmp r]) (hd : a.defers = []) (hv : (putsR a l).eval (.tmp t) = v) (hx : (putsR a l).eval (.tmp u) = x) (hy : (putsR a l).eval (.tmp s) = y) (hz : (putsR a l).eval (.tmp r) = z)
  (hR : R (.returned (.tuple #[v, x, y, z])) w) : bodyPost P fn R .ret (putsR a l) w := by
 subst hv; subst hx; subst hy; subst hz
 refine ⟨by rw [putsR_defers, hd], .tuple #[(putsR a l).eval (.tmp t), (putsR a l).eval (.tmp u), (putsR a l).eval (.tmp s), (putsR a l).eval (.tmp r)], ?_, hR⟩
 simp [results, hf, Act.eval]
theorem LeftW_any (x k : Nat) (w : World) (hx : x < 4294967296) (hk : k < 32) :
  Calls Try.prog 98 #[.int .u32 ((x : Nat) : Int), .int .i64 ((k : Nat) : Int)] w fun e w' => e = .returned (.int .u32 ((rotl x k : Nat) : Int)) ∧ w = w' := by
 refine x_enter 19 Try.func98 rfl rfl (fun a hs hd ha0 => ?_)
 have t0 : a.eval (.tmp 0) = .int .u32 ((x : Nat) : Int) := ha0 0 _ rfl
 have t1 : a.eval (.tmp 1) = .int .i64 ((k : Nat) : Int) := ha0 1 _ rfl
 clear ha0
 refine w2_sr (fun K_1 hK_1 => ?_)
 refine q_as (.int .u32 ((0 : Nat) : Int)) rfl ?_
 refine x_nil (hK_1 _ _ ?_)
 refine w2_sr (fun K_2 hK_2 => ?_)
 refine q_mv ((pm rfl).trans t1) ?_
 refine q_v 7 (.int .i64 ((k % 32 : Nat) : Int)) (o_rem (m := k) (n := 32) rfl (pe hs rfl rfl) rfl (by omega) (IntWalk.i64_in _ (by omega))) ?_
 refine q_v 8 (.int .i64 (((k % 32) + 32 : Nat) : Int)) (o_add64 (m := (k % 32)) (n := 32) rfl (pe hs rfl rfl) rfl (by omega)) ?_
 refine q_v 9 (.int .u64 (((k % 32) + 32 : Nat) : Int)) (o_conv (m := ((k % 32) + 32)) (r := (k % 32) + 32) rfl (pe hs rfl rfl) ⟨.int .i64, fun _ => by kernel_rfl⟩ (fun _ => by kernel_rfl) (by rw [IntKind.wrap_u64]; omega)) ?_
 refine q_v 10 (.int .u64 ((k : Nat) : Int)) (o_eq (o_rem (m := ((k % 32) + 32)) (n := 32) rfl (pe hs rfl rfl) rfl (by omega) (by rw [IntKind.wrap_u64]; omega)) (congrArg (fun z : Nat => Value.int .u64 (z : Int)) (by omega))) ?_
 refine q_at (pe hs rfl rfl) ?_
 refine x_nil (hK_2 _ _ ?_)
 refine w2_sr (fun K_3 hK_3 => ?_)
 refine q_mv ((pm rfl).trans t0) ?_
 refine q_mv (pe hs rfl rfl) ?_
 refine q_v 13 (.int .u32 ((x * 2 ^ k % 4294967296 : Nat) : Int)) (o_shl (m := x) (n := k) (x * 2 ^ k % 4294967296) rfl (pe hs rfl rfl) (pe hs rfl rfl) (by show k ≤ 32; omega) (by rw [IntKind.wrap_u32]; simp)) ?_
 refine q_mv ((pm rfl).trans t0) ?_
 refine q_mv (pe hs rfl rfl) ?_
 refine q_v 16 (.int .u64 ((32 - k : Nat) : Int)) (o_subU (m := 32) (n := k) (32 - k) rfl rfl (pe hs rfl rfl) (by rw [IntKind.wrap_u64]; omega)) ?_
 refine q_v 17 (.int .u32 ((x / 2 ^ (32 - k) : Nat) : Int)) (o_shr (m := x) (n := 32 - k) rfl (pe hs rfl rfl) (pe hs rfl rfl) (by show 32 - k ≤ 32; omega)) ?_
 refine q_v 18 (.int .u32 ((rotl x k : Nat) : Int)) (o_eq (o_bits (m := (x * 2 ^ k % 4294967296)) (n := (x / 2 ^ (32 - k))) ((x * 2 ^ k % 4294967296) ||| (x / 2 ^ (32 - k))) rfl (pe hs rfl rfl) (pe hs rfl rfl) (by decide) (u32_or_nat _ _ (Nat.mod_lt _ (by decide)) (Nat.lt_of_le_of_lt (Nat.div_le_self _ _) hx))) rfl) ?_
 refine q_at (pe hs rfl rfl) ?_
 refine x_nil (hK_3 _ _ ?_)
 refine w2_ret ?_
 refine ret1 rfl hd (pe hs rfl rfl) ?_
 exact ⟨rfl, rfl⟩
theorem QuarterW_any (xa xb xc xd : Nat) (w : World) (la : xa < 4294967296) (lb : xb < 4294967296) (lc : xc < 4294967296) (ld : xd < 4294967296) :
  Calls Try.prog 87 #[.int .u32 ((xa : Nat) : Int), .int .u32 ((xb : Nat) : Int), .int .u32 ((xc : Nat) : Int), .int .u32 ((xd : Nat) : Int)] w fun e w' => ∃ p q r s : Nat, e = .returned (.tuple #[.int .u32 (p : Int), .int .u32 (q : Int), .int .u32 (r : Int), .int .u32 (s : Int)]) ∧ qr xa xb xc xd = (p, q, r, s) ∧ p < 4294967296 ∧ q < 4294967296 ∧ r < 4294967296 ∧ s < 4294967296 ∧ w = w' := by
 refine x_enter 44 Try.func87 rfl rfl (fun a hs hd ha0 => ?_)
 have t0 : a.eval (.tmp 0) = .int .u32 ((xa : Nat) : Int) := ha0 0 _ rfl
 have t1 : a.eval (.tmp 1) = .int .u32 ((xb : Nat) : Int) := ha0 1 _ rfl
 have t2 : a.eval (.tmp 2) = .int .u32 ((xc : Nat) : Int) := ha0 2 _ rfl
 have t3 : a.eval (.tmp 3) = .int .u32 ((xd : Nat) : Int) := ha0 3 _ rfl
 clear ha0
 refine w2_sr (fun K_1 hK_1 => ?_)
 refine q_as (.int .u32 ((0 : Nat) : Int)) rfl ?_
 refine q_as (.int .u32 ((0 : Nat) : Int)) rfl ?_
 refine q_as (.int .u32 ((0 : Nat) : Int)) rfl ?_
 refine q_as (.int .u32 ((0 : Nat) : Int)) rfl ?_
 refine x_nil (hK_1 _ _ ?_)
 refine w2_seq (fun K_2 hK_2 => ?_)
 obtain ⟨a1, ha1, la1⟩ : ∃ q : Nat, q = (xa + xb) % 4294967296 ∧ q < 4294967296 := ⟨_, rfl, (Nat.mod_lt _ (by decide))⟩
 refine x_region (by kernel_rfl) ?_
 refine q_mv ((pm rfl).trans t0) ?_
 refine q_mv ((pm rfl).trans t1) ?_
 refine q_v 14 (.int .u32 ((a1 : Nat) : Int)) (o_eq (o_addU (m := xa) (n := xb) ((xa + xb) % 4294967296) rfl (pe hs rfl rfl) (pe hs rfl rfl) (by rw [IntKind.wrap_u32]; omega)) (by rw [ha1])) ?_
 refine q_at (pe hs rfl rfl) ?_
 refine x_nil (hK_2 _ _ ?_)
 refine w2_seq (fun K_3 hK_3 => ?_)
 obtain ⟨d1, hd1, ld1⟩ : ∃ q : Nat, q = rotl (xd ^^^ a1) 16 ∧ q < 4294967296 := ⟨_, rfl, (rotl_lt _ _ (Nat.xor_lt_two_pow (n := 32) (by omega) (by omega)))⟩
 refine x_region (by kernel_rfl) ?_
 refine q_mv ((pm rfl).trans t3) ?_
 refine q_mv (pe hs rfl rfl) ?_
 refine q_v 17 (.int .u32 ((xd ^^^ a1 : Nat) : Int)) (o_bits (m := xd) (n := a1) (xd ^^^ a1) rfl (pe hs rfl rfl) (pe hs rfl rfl) (by decide) (u32_xor_nat _ _ (by omega) (by omega))) ?_
 refine q_ca (vs := #[.int .u32 ((xd ^^^ a1 : Nat) : Int), .int .i64 ((16 : Nat) : Int)]) Try.func98 (args2 (pe hs rfl rfl) rfl) (LeftW_any (xd ^^^ a1) 16 _ (Nat.xor_lt_two_pow (n := 32) (by omega) (by omega)) (by decide)) (fun e_1 w_1 hR_1 => ?_)
 obtain ⟨rfl, rfl⟩ := hR_1
 refine ⟨_, rfl, ?_⟩
 refine q_v 3 (.int .u32 ((d1 : Nat) : Int)) (o_eq (o_assign rfl (pe hs rfl rfl)) (by rw [hd1])) ?_
 refine x_nil (hK_3 _ _ ?_)
 refine w2_seq (fun K_4 hK_4 => ?_)
 obtain ⟨c1, hc1, lc1⟩ : ∃ q : Nat, q = (xc + d1) % 4294967296 ∧ q < 4294967296 := ⟨_, rfl, (Nat.mod_lt _ (by decide))⟩
 refine x_region (by kernel_rfl) ?_
 refine q_mv ((pm rfl).trans t2) ?_
 refine q_mv (pe hs rfl rfl) ?_
 refine q_v 21 (.int .u32 ((c1 : Nat) : Int)) (o_eq (o_addU (m := xc) (n := d1) ((xc + d1) % 4294967296) rfl (pe hs rfl rfl) (pe hs rfl rfl) (by rw [IntKind.wrap_u32]; omega)) (by rw [hc1])) ?_
 refine q_at (pe hs rfl rfl) ?_
 refine x_nil (hK_4 _ _ ?_)
 refine w2_seq (fun K_5 hK_5 => ?_)
 obtain ⟨b1, hb1, lb1⟩ : ∃ q : Nat, q = rotl (xb ^^^ c1) 12 ∧ q < 4294967296 := ⟨_, rfl, (rotl_lt _ _ (Nat.xor_lt_two_pow (n := 32) (by omega) (by omega)))⟩
 refine x_region (by kernel_rfl) ?_
 refine q_mv ((pm rfl).trans t1) ?_
 refine q_mv (pe hs rfl rfl) ?_
 refine q_v 24 (.int .u32 ((xb ^^^ c1 : Nat) : Int)) (o_bits (m := xb) (n := c1) (xb ^^^ c1) rfl (pe hs rfl rfl) (pe hs rfl rfl) (by decide) (u32_xor_nat _ _ (by omega) (by omega))) ?_
 refine q_ca (vs := #[.int .u32 ((xb ^^^ c1 : Nat) : Int), .int .i64 ((12 : Nat) : Int)]) Try.func98 (args2 (pe hs rfl rfl) rfl) (LeftW_any (xb ^^^ c1) 12 _ (Nat.xor_lt_two_pow (n := 32) (by omega) (by omega)) (by decide)) (fun e_2 w_2 hR_2 => ?_)
 obtain ⟨rfl, rfl⟩ := hR_2
 refine ⟨_, rfl, ?_⟩
 refine q_v 1 (.int .u32 ((b1 : Nat) : Int)) (o_eq (o_assign rfl (pe hs rfl rfl)) (by rw [hb1])) ?_
 refine x_nil (hK_5 _ _ ?_)
 refine w2_seq (fun K_6 hK_6 => ?_)
 obtain ⟨a2, ha2, la2⟩ : ∃ q : Nat, q = (a1 + b1) % 4294967296 ∧ q < 4294967296 := ⟨_, rfl, (Nat.mod_lt _ (by decide))⟩
 refine x_region (by kernel_rfl) ?_
 refine q_mv (pe hs rfl rfl) ?_
 refine q_mv (pe hs rfl rfl) ?_
 refine q_v 28 (.int .u32 ((a2 : Nat) : Int)) (o_eq (o_addU (m := a1) (n := b1) ((a1 + b1) % 4294967296) rfl (pe hs rfl rfl) (pe hs rfl rfl) (by rw [IntKind.wrap_u32]; omega)) (by rw [ha2])) ?_
 refine q_at (pe hs rfl rfl) ?_
 refine x_nil (hK_6 _ _ ?_)
 refine w2_seq (fun K_7 hK_7 => ?_)
 obtain ⟨d2, hd2, ld2⟩ : ∃ q : Nat, q = rotl (d1 ^^^ a2) 8 ∧ q < 4294967296 := ⟨_, rfl, (rotl_lt _ _ (Nat.xor_lt_two_pow (n := 32) (by omega) (by omega)))⟩
 refine x_region (by kernel_rfl) ?_
 refine q_mv (pe hs rfl rfl) ?_
 refine q_mv (pe hs rfl rfl) ?_
 refine q_v 31 (.int .u32 ((d1 ^^^ a2 : Nat) : Int)) (o_bits (m := d1) (n := a2) (d1 ^^^ a2) rfl (pe hs rfl rfl) (pe hs rfl rfl) (by decide) (u32_xor_nat _ _ (by omega) (by omega))) ?_
 refine q_ca (vs := #[.int .u32 ((d1 ^^^ a2 : Nat) : Int), .int .i64 ((8 : Nat) : Int)]) Try.func98 (args2 (pe hs rfl rfl) rfl) (LeftW_any (d1 ^^^ a2) 8 _ (Nat.xor_lt_two_pow (n := 32) (by omega) (by omega)) (by decide)) (fun e_3 w_3 hR_3 => ?_)
 obtain ⟨rfl, rfl⟩ := hR_3
 refine ⟨_, rfl, ?_⟩
 refine q_v 3 (.int .u32 ((d2 : Nat) : Int)) (o_eq (o_assign rfl (pe hs rfl rfl)) (by rw [hd2])) ?_
 refine x_nil (hK_7 _ _ ?_)
 refine w2_seq (fun K_8 hK_8 => ?_)
 obtain ⟨c2, hc2, lc2⟩ : ∃ q : Nat, q = (c1 + d2) % 4294967296 ∧ q < 4294967296 := ⟨_, rfl, (Nat.mod_lt _ (by decide))⟩
 refine x_region (by kernel_rfl) ?_
 refine q_mv (pe hs rfl rfl) ?_
 refine q_mv (pe hs rfl rfl) ?_
 refine q_v 35 (.int .u32 ((c2 : Nat) : Int)) (o_eq (o_addU (m := c1) (n := d2) ((c1 + d2) % 4294967296) rfl (pe hs rfl rfl) (pe hs rfl rfl) (by rw [IntKind.wrap_u32]; omega)) (by rw [hc2])) ?_
 refine q_at (pe hs rfl rfl) ?_
 refine x_nil (hK_8 _ _ ?_)
 refine w2_seq (fun K_9 hK_9 => ?_)
 obtain ⟨b2, hb2, lb2⟩ : ∃ q : Nat, q = rotl (b1 ^^^ c2) 7 ∧ q < 4294967296 := ⟨_, rfl, (rotl_lt _ _ (Nat.xor_lt_two_pow (n := 32) (by omega) (by omega)))⟩
 refine x_region (by kernel_rfl) ?_
 refine q_mv (pe hs rfl rfl) ?_
 refine q_mv (pe hs rfl rfl) ?_
 refine q_v 38 (.int .u32 ((b1 ^^^ c2 : Nat) : Int)) (o_bits (m := b1) (n := c2) (b1 ^^^ c2) rfl (pe hs rfl rfl) (pe hs rfl rfl) (by decide) (u32_xor_nat _ _ (by omega) (by omega))) ?_
 refine q_ca (vs := #[.int .u32 ((b1 ^^^ c2 : Nat) : Int), .int .i64 ((7 : Nat) : Int)]) Try.func98 (args2 (pe hs rfl rfl) rfl) (LeftW_any (b1 ^^^ c2) 7 _ (Nat.xor_lt_two_pow (n := 32) (by omega) (by omega)) (by decide)) (fun e_4 w_4 hR_4 => ?_)
 obtain ⟨rfl, rfl⟩ := hR_4
 refine ⟨_, rfl, ?_⟩
 refine q_v 1 (.int .u32 ((b2 : Nat) : Int)) (o_eq (o_assign rfl (pe hs rfl rfl)) (by rw [hb2])) ?_
 refine x_nil (hK_9 _ _ ?_)
 refine w2_sr (fun K_10 hK_10 => ?_)
 refine q_mv (pe hs rfl rfl) ?_
 refine q_mv (pe hs rfl rfl) ?_
 refine q_mv (pe hs rfl rfl) ?_
 refine q_mv (pe hs rfl rfl) ?_
 refine q_at (pe hs rfl rfl) ?_
 refine q_at (pe hs rfl rfl) ?_
 refine q_at (pe hs rfl rfl) ?_
 refine q_at (pe hs rfl rfl) ?_
 refine x_nil (hK_10 _ _ ?_)
 refine w2_ret ?_
 refine ret4 rfl hd (pe hs rfl rfl) (pe hs rfl rfl) (pe hs rfl rfl) (pe hs rfl rfl) ?_
 exact ⟨a2, b2, c2, d2, rfl, (by rw [hb2, hc2, hd2, ha2, hb1, hc1, hd1, ha1]; rfl), la2, lb2, lc2, ld2, rfl⟩
theorem QuarterW_eq {a b c d p q r s : Nat} (w : World) (hq : qr a b c d = (p, q, r, s)) (la : a < 4294967296) (lb : b < 4294967296) (lc : c < 4294967296) (ld : d < 4294967296) :
  Calls Try.prog 87 #[.int .u32 ((a : Nat) : Int), .int .u32 ((b : Nat) : Int), .int .u32 ((c : Nat) : Int), .int .u32 ((d : Nat) : Int)] w fun e w' => e = .returned (.tuple #[.int .u32 ((p : Nat) : Int), .int .u32 ((q : Nat) : Int), .int .u32 ((r : Nat) : Int), .int .u32 ((s : Nat) : Int)]) ∧ w = w' := by
 refine Calls.mono (QuarterW_any a b c d w la lb lc ld) ?_
 rintro e w' ⟨p', q', r', s', he, hq', _, _, _, _, hw⟩
 rw [hq] at hq'
 simp only [Prod.mk.injEq] at hq'
 obtain ⟨rfl, rfl, rfl, rfl⟩ := hq'
 exact ⟨he, hw⟩
end Go.Proofs.Ytggalcdkfielkaa
