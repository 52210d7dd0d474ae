/-
 RWord · RBlock · RXor, IN ONE TEXT.
-/
import Derived.Test.YtggalcdkfielkaaCell
import Derived.Test.YtggalcdkfielkaaArr32
import Derived.Test.YtggalcdkfielkaaBlock
import Derived.Test.YtggalcdkfielkaaZero
import Derived.Test.YtggalcdkfielkaaCXor
import Derived.Test.YtggalcdkfielkaaConcat
import Derived.Test.YtggalcdkfielkaaAead
/-
 WALKS: the reference's words: at, Low, PutLow, Left, Quarter.
-/
namespace Go.Proofs.Ytggalcdkfielkaa
open Go.RowKit
set_option linter.unusedVariables false
set_option linter.unusedSimpArgs false
set_option maxRecDepth 100000
attribute [local irreducible] wpList wpListIn putsR

theorem lw_shl (p K : Nat) (hp : p < 256) (hK : K < 8) : IntKind.u64.wrap (((p : Nat) : Int) * 2 ^ (8 * K)) = ((p * 2 ^ (8 * K) : Nat) : Int) := by
 have h1 : 2 ^ (8 * K) ≤ 2 ^ 56 := Nat.pow_le_pow_right (by omega) (by omega)
 have h2 : p * 2 ^ (8 * K) ≤ 255 * 2 ^ 56 := Nat.mul_le_mul (by omega) h1
 have e1 : (p : Int) * 2 ^ (8 * K) = ((p * 2 ^ (8 * K) : Nat) : Int) := by simp
 rw [e1, IntKind.wrap_u64]
 omega
theorem lw_or (q p K : Nat) (hq : q < 2 ^ (8 * K)) (hp : p < 256) (hK : K < 8) : bits .or .u64 ((q : Nat) : Int) ((p * 2 ^ (8 * K) : Nat) : Int) = ((q + p * 2 ^ (8 * K) : Nat) : Int) := by
 have h := or_low q p K hq hp hK
 rwa [lw_shl p K hp hK] at h
theorem atW_0 {A : Option Addr} {c q : Nat} {xs : List Nat} (w : World) (h0 : Bs w A c xs) (hq : xs.length = q) (i k : Nat) (hi : i < 4611686018427387904) (hk9 : k < 4611686018427387904) (hb : q < i) :
  Calls Try.prog 92 #[.slice A (q) (c), .int .i64 ((i : Nat) : Int), .int .i64 ((k : Nat) : Int)] w fun e w' => e = .returned (.int .u8 ((xs.getD (i + k) 0 : Nat) : Int)) ∧ w = w' := by
 have hcl := h0.le
 have hcm := h0.max
 unfold maxLen at hcm
 refine x_enter 29 Try.func92 rfl rfl (fun a hs hd ha0 => ?_)
 have t0 : a.eval (.tmp 0) = .slice A (q) (c) := ha0 0 _ rfl
 have t1 : a.eval (.tmp 1) = .int .i64 ((i : Nat) : Int) := ha0 1 _ rfl
 clear ha0
 refine w2_sr (fun K_1 hK_1 => ?_)
 refine q_as (.int .u8 ((0 : Nat) : Int)) rfl ?_
 refine x_nil (hK_1 _ _ ?_)
 refine w2_seq (fun K_2 hK_2 => ?_)
 refine w2_sr (fun K_3 hK_3 => ?_)
 refine q_mv ((pm rfl).trans t1) ?_
 refine q_v 8 (.bool (false)) (o_eq (o_lss (m := i) (n := 0) rfl (pe hs rfl rfl) rfl) (by rw [decide_eq_false (by omega)])) ?_
 refine q_mv (pe hs rfl rfl) ?_
 refine op_valG (e := 9) (d := 10) (v := .int .i64 ((i : Nat) : Int)) rfl rfl (by kernel_rfl) (pe hs rfl rfl) (o_move rfl ((pm rfl).trans t1)) ?_
 refine op_valG (e := 9) (d := 11) (v := .slice A (q) (c)) rfl rfl (by kernel_rfl) (pe hs rfl rfl) (o_move rfl ((pm rfl).trans t0)) ?_
 refine op_valG (e := 9) (d := 12) (v := .int .i64 ((q : Nat) : Int)) rfl rfl (by kernel_rfl) (pe hs rfl rfl) (o_len rfl (pe hs rfl rfl)) ?_
 refine op_valG (e := 9) (d := 13) (v := .bool (true)) rfl rfl (by kernel_rfl) (pe hs rfl rfl) (o_eq (o_gtr (m := i) (n := q) rfl (pe hs rfl rfl) (pe hs rfl rfl)) (by rw [decide_eq_true hb])) ?_
 refine q_v 14 (.bool (true)) (o_pickF rfl (pe hs rfl rfl) (pe hs rfl rfl)) ?_
 refine q_mv (pe hs rfl rfl) ?_
 refine op_left (e := 15) rfl rfl (by kernel_rfl) (pe hs rfl rfl) rfl ?_
 refine op_left (e := 15) rfl rfl (by kernel_rfl) (pe hs rfl rfl) rfl ?_
 refine op_left (e := 15) rfl rfl (by kernel_rfl) (pe hs rfl rfl) rfl ?_
 refine op_left (e := 15) rfl rfl (by kernel_rfl) (pe hs rfl rfl) rfl ?_
 refine op_left (e := 15) rfl rfl (by kernel_rfl) (pe hs rfl rfl) rfl ?_
 refine op_left (e := 15) rfl rfl (by kernel_rfl) (pe hs rfl rfl) rfl ?_
 refine q_v 22 (.bool (true)) (o_pickT rfl (pe hs rfl rfl) rfl) ?_
 refine x_nil (hK_3 _ _ ?_)
 refine w2_condT (pe hs rfl rfl) ?_
 refine w2_sr (fun K_4 hK_4 => ?_)
 refine q_as (.int .u8 ((0 : Nat) : Int)) rfl ?_
 refine x_nil (hK_4 _ _ ?_)
 refine w2_ret ?_
 refine thn_ret ?_
 refine ret1 rfl hd (pe hs rfl rfl) ?_
 exact ⟨by rw [show xs.getD (i + k) 0 = 0 from by rw [List.getD_eq_getElem?_getD, List.getElem?_eq_none (by omega)]; rfl], rfl⟩
theorem atW_1 {A : Option Addr} {c q : Nat} {xs : List Nat} (w : World) (h0 : Bs w A c xs) (hq : xs.length = q) (i k : Nat) (hi : i < 4611686018427387904) (hk9 : k < 4611686018427387904) (hb : i ≤ q) (hk : q ≤ i + k) :
  Calls Try.prog 92 #[.slice A (q) (c), .int .i64 ((i : Nat) : Int), .int .i64 ((k : Nat) : Int)] w fun e w' => e = .returned (.int .u8 ((xs.getD (i + k) 0 : Nat) : Int)) ∧ w = w' := by
 have hcl := h0.le
 have hcm := h0.max
 unfold maxLen at hcm
 refine x_enter 29 Try.func92 rfl rfl (fun a hs hd ha0 => ?_)
 have t0 : a.eval (.tmp 0) = .slice A (q) (c) := ha0 0 _ rfl
 have t1 : a.eval (.tmp 1) = .int .i64 ((i : Nat) : Int) := ha0 1 _ rfl
 have t2 : a.eval (.tmp 2) = .int .i64 ((k : Nat) : Int) := ha0 2 _ rfl
 clear ha0
 refine w2_sr (fun K_1 hK_1 => ?_)
 refine q_as (.int .u8 ((0 : Nat) : Int)) rfl ?_
 refine x_nil (hK_1 _ _ ?_)
 refine w2_seq (fun K_2 hK_2 => ?_)
 refine w2_sr (fun K_3 hK_3 => ?_)
 refine q_mv ((pm rfl).trans t1) ?_
 refine q_v 8 (.bool (false)) (o_eq (o_lss (m := i) (n := 0) rfl (pe hs rfl rfl) rfl) (by rw [decide_eq_false (by omega)])) ?_
 refine q_mv (pe hs rfl rfl) ?_
 refine op_valG (e := 9) (d := 10) (v := .int .i64 ((i : Nat) : Int)) rfl rfl (by kernel_rfl) (pe hs rfl rfl) (o_move rfl ((pm rfl).trans t1)) ?_
 refine op_valG (e := 9) (d := 11) (v := .slice A (q) (c)) rfl rfl (by kernel_rfl) (pe hs rfl rfl) (o_move rfl ((pm rfl).trans t0)) ?_
 refine op_valG (e := 9) (d := 12) (v := .int .i64 ((q : Nat) : Int)) rfl rfl (by kernel_rfl) (pe hs rfl rfl) (o_len rfl (pe hs rfl rfl)) ?_
 refine op_valG (e := 9) (d := 13) (v := .bool (false)) rfl rfl (by kernel_rfl) (pe hs rfl rfl) (o_eq (o_gtr (m := i) (n := q) rfl (pe hs rfl rfl) (pe hs rfl rfl)) (by rw [decide_eq_false (by omega)])) ?_
 refine q_v 14 (.bool (false)) (o_pickF rfl (pe hs rfl rfl) (pe hs rfl rfl)) ?_
 refine q_mv (pe hs rfl rfl) ?_
 refine op_valG (e := 15) (d := 16) (v := .int .i64 ((k : Nat) : Int)) rfl rfl (by kernel_rfl) (pe hs rfl rfl) (o_move rfl ((pm rfl).trans t2)) ?_
 refine op_valG (e := 15) (d := 17) (v := .slice A (q) (c)) rfl rfl (by kernel_rfl) (pe hs rfl rfl) (o_move rfl ((pm rfl).trans t0)) ?_
 refine op_valG (e := 15) (d := 18) (v := .int .i64 ((q : Nat) : Int)) rfl rfl (by kernel_rfl) (pe hs rfl rfl) (o_len rfl (pe hs rfl rfl)) ?_
 refine op_valG (e := 15) (d := 19) (v := .int .i64 ((i : Nat) : Int)) rfl rfl (by kernel_rfl) (pe hs rfl rfl) (o_move rfl ((pm rfl).trans t1)) ?_
 refine op_valG (e := 15) (d := 20) (v := .int .i64 ((q - i : Nat) : Int)) rfl rfl (by kernel_rfl) (pe hs rfl rfl) (o_sub64 (m := q) (n := i) rfl (pe hs rfl rfl) (pe hs rfl rfl) (by omega) (by omega)) ?_
 refine op_valG (e := 15) (d := 21) (v := .bool (true)) rfl rfl (by kernel_rfl) (pe hs rfl rfl) (o_eq (o_geq (m := k) (n := (q - i)) rfl (pe hs rfl rfl) (pe hs rfl rfl)) (by rw [decide_eq_true (by omega)])) ?_
 refine q_v 22 (.bool (true)) (o_pickF rfl (pe hs rfl rfl) (pe hs rfl rfl)) ?_
 refine x_nil (hK_3 _ _ ?_)
 refine w2_condT (pe hs rfl rfl) ?_
 refine w2_sr (fun K_4 hK_4 => ?_)
 refine q_as (.int .u8 ((0 : Nat) : Int)) rfl ?_
 refine x_nil (hK_4 _ _ ?_)
 refine w2_ret ?_
 refine thn_ret ?_
 refine ret1 rfl hd (pe hs rfl rfl) ?_
 exact ⟨by rw [show xs.getD (i + k) 0 = 0 from by rw [List.getD_eq_getElem?_getD, List.getElem?_eq_none (by omega)]; rfl], rfl⟩
theorem atW_2 {A : Option Addr} {c q : Nat} {xs : List Nat} (w : World) (h0 : Bs w A c xs) (hq : xs.length = q) (i k : Nat) (hi : i < 4611686018427387904) (hk9 : k < 4611686018427387904) (hb : i ≤ q) (hk : i + k < q) :
  Calls Try.prog 92 #[.slice A (q) (c), .int .i64 ((i : Nat) : Int), .int .i64 ((k : Nat) : Int)] w fun e w' => e = .returned (.int .u8 ((xs.getD (i + k) 0 : Nat) : Int)) ∧ w = w' := by
 have hcl := h0.le
 have hcm := h0.max
 unfold maxLen at hcm
 refine x_enter 29 Try.func92 rfl rfl (fun a hs hd ha0 => ?_)
 have t0 : a.eval (.tmp 0) = .slice A (q) (c) := ha0 0 _ rfl
 have t1 : a.eval (.tmp 1) = .int .i64 ((i : Nat) : Int) := ha0 1 _ rfl
 have t2 : a.eval (.tmp 2) = .int .i64 ((k : Nat) : Int) := ha0 2 _ rfl
 clear ha0
 refine w2_sr (fun K_1 hK_1 => ?_)
 refine q_as (.int .u8 ((0 : Nat) : Int)) rfl ?_
 refine x_nil (hK_1 _ _ ?_)
 refine w2_seq (fun K_2 hK_2 => ?_)
 refine w2_sr (fun K_3 hK_3 => ?_)
 refine q_mv ((pm rfl).trans t1) ?_
 refine q_v 8 (.bool (false)) (o_eq (o_lss (m := i) (n := 0) rfl (pe hs rfl rfl) rfl) (by rw [decide_eq_false (by omega)])) ?_
 refine q_mv (pe hs rfl rfl) ?_
 refine op_valG (e := 9) (d := 10) (v := .int .i64 ((i : Nat) : Int)) rfl rfl (by kernel_rfl) (pe hs rfl rfl) (o_move rfl ((pm rfl).trans t1)) ?_
 refine op_valG (e := 9) (d := 11) (v := .slice A (q) (c)) rfl rfl (by kernel_rfl) (pe hs rfl rfl) (o_move rfl ((pm rfl).trans t0)) ?_
 refine op_valG (e := 9) (d := 12) (v := .int .i64 ((q : Nat) : Int)) rfl rfl (by kernel_rfl) (pe hs rfl rfl) (o_len rfl (pe hs rfl rfl)) ?_
 refine op_valG (e := 9) (d := 13) (v := .bool (false)) rfl rfl (by kernel_rfl) (pe hs rfl rfl) (o_eq (o_gtr (m := i) (n := q) rfl (pe hs rfl rfl) (pe hs rfl rfl)) (by rw [decide_eq_false (by omega)])) ?_
 refine q_v 14 (.bool (false)) (o_pickF rfl (pe hs rfl rfl) (pe hs rfl rfl)) ?_
 refine q_mv (pe hs rfl rfl) ?_
 refine op_valG (e := 15) (d := 16) (v := .int .i64 ((k : Nat) : Int)) rfl rfl (by kernel_rfl) (pe hs rfl rfl) (o_move rfl ((pm rfl).trans t2)) ?_
 refine op_valG (e := 15) (d := 17) (v := .slice A (q) (c)) rfl rfl (by kernel_rfl) (pe hs rfl rfl) (o_move rfl ((pm rfl).trans t0)) ?_
 refine op_valG (e := 15) (d := 18) (v := .int .i64 ((q : Nat) : Int)) rfl rfl (by kernel_rfl) (pe hs rfl rfl) (o_len rfl (pe hs rfl rfl)) ?_
 refine op_valG (e := 15) (d := 19) (v := .int .i64 ((i : Nat) : Int)) rfl rfl (by kernel_rfl) (pe hs rfl rfl) (o_move rfl ((pm rfl).trans t1)) ?_
 refine op_valG (e := 15) (d := 20) (v := .int .i64 ((q - i : Nat) : Int)) rfl rfl (by kernel_rfl) (pe hs rfl rfl) (o_sub64 (m := q) (n := i) rfl (pe hs rfl rfl) (pe hs rfl rfl) (by omega) (by omega)) ?_
 refine op_valG (e := 15) (d := 21) (v := .bool (false)) rfl rfl (by kernel_rfl) (pe hs rfl rfl) (o_eq (o_geq (m := k) (n := (q - i)) rfl (pe hs rfl rfl) (pe hs rfl rfl)) (by rw [decide_eq_false (by omega)])) ?_
 refine q_v 22 (.bool (false)) (o_pickF rfl (pe hs rfl rfl) (pe hs rfl rfl)) ?_
 refine x_nil (hK_3 _ _ ?_)
 refine w2_condF (pe hs rfl rfl) ?_
 refine w2_skip ?_
 refine hK_2 _ _ ?_
 refine w2_sr (fun K_4 hK_4 => ?_)
 refine q_mv ((pm rfl).trans t0) ?_
 refine q_mv ((pm rfl).trans t1) ?_
 refine q_mv ((pm rfl).trans t2) ?_
 refine q_v 26 (.int .i64 ((i + k : Nat) : Int)) (o_add64 (m := i) (n := k) rfl (pe hs rfl rfl) (pe hs rfl rfl) (by omega)) ?_
 refine q_v 27 (.pointer (atA A (i + k))) (o_ix (k := i + k) rfl (pe hs rfl rfl) (pe hs rfl rfl) (by omega) (h0.some (by rw [hq]; omega))) ?_
 refine q_v 28 (.int .u8 ((xs.getD (i + k) 0 : Nat) : Int)) (o_ld8 rfl (pe hs rfl rfl) h0 (by rw [hq]; omega) rfl) ?_
 refine q_at (pe hs rfl rfl) ?_
 refine x_nil (hK_4 _ _ ?_)
 refine w2_ret ?_
 refine ret1 rfl hd (pe hs rfl rfl) ?_
 exact ⟨rfl, rfl⟩
theorem atW_any {A : Option Addr} {c q : Nat} {xs : List Nat} (w : World) (h0 : Bs w A c xs) (hq : xs.length = q) (i k : Nat) (hi : i < 4611686018427387904) (hk9 : k < 4611686018427387904) :
  Calls Try.prog 92 #[.slice A (q) (c), .int .i64 ((i : Nat) : Int), .int .i64 ((k : Nat) : Int)] w fun e w' => e = .returned (.int .u8 ((xs.getD (i + k) 0 : Nat) : Int)) ∧ w = w' := by
 by_cases hb : i ≤ q
 ·by_cases hk : q ≤ i + k
  ·exact atW_1 w h0 hq i k hi hk9 hb hk
  ·exact atW_2 w h0 hq i k hi hk9 hb (by omega)
 ·exact atW_0 w h0 hq i k hi hk9 (by omega)
theorem LowW_any {A : Option Addr} {c q : Nat} {xs : List Nat} (w : World) (h0 : Bs w A c xs) (hq : xs.length = q) (i n : Nat) (hi : i < 4611686018427387904) (hn : n ≤ 8) :
  Calls Try.prog 86 #[.slice A (q) (c), .int .i64 ((i : Nat) : Int), .int .i64 ((n : Nat) : Int)] w fun e w' => e = .returned (.int .u64 ((lowN xs i n : Nat) : Int)) ∧ w = w' := by
 refine x_enter 26 Try.func86 rfl rfl (fun a hs hd ha0 => ?_)
 have t0 : a.eval (.tmp 0) = .slice A (q) (c) := ha0 0 _ rfl
 have t1 : a.eval (.tmp 1) = .int .i64 ((i : Nat) : Int) := ha0 1 _ rfl
 have t2 : a.eval (.tmp 2) = .int .i64 ((n : Nat) : Int) := ha0 2 _ rfl
 clear ha0
 refine w2_sr (fun K_1 hK_1 => ?_)
 refine q_as (.int .u64 ((0 : Nat) : Int)) rfl ?_
 refine x_nil (hK_1 _ _ ?_)
 refine w2_sr (fun K_2 hK_2 => ?_)
 refine q_as (.int .u64 ((0 : Nat) : Int)) rfl ?_
 refine x_nil (hK_2 _ _ ?_)
 refine w2_seq (fun K_3 hK_3 => ?_)
 refine w2_sr (fun K_4 hK_4 => ?_)
 refine q_mv ((pm rfl).trans t2) ?_
 refine q_v 10 (.int .i64 ((0 : Nat) : Int)) (o_move rfl rfl) ?_
 refine x_nil (hK_4 _ _ ?_)
 refine w2_block (fun K_5 hK_5 => ?_)
 refine x_loop (fun nn aa ww => ∃ (K : Nat), nn = n - K ∧ aa.tmps.size = 26 ∧ aa.defers = [] ∧ aa.eval (.tmp 0) = .slice A (q) (c) ∧ aa.eval (.tmp 1) = .int .i64 ((i : Nat) : Int) ∧ aa.eval (.tmp 2) = .int .i64 ((n : Nat) : Int) ∧ aa.eval (.tmp 6) = .int .u64 ((0 : Nat) : Int) ∧ aa.eval (.tmp 7) = .int .u64 ((lowN xs i K : Nat) : Int) ∧ aa.eval (.tmp 9) = .int .i64 ((n : Nat) : Int) ∧ aa.eval (.tmp 10) = .int .i64 ((K : Nat) : Int) ∧ K ≤ n ∧ w = ww) (n) ?_ ?_
 ·exact ⟨0, rfl, (by rw [putsR_size]; exact hs), (by rw [putsR_defers]; exact hd), ((pm rfl).trans t0), ((pm rfl).trans t1), ((pm rfl).trans t2), (pe hs rfl rfl), (pe hs rfl rfl), (pe hs rfl rfl), (pe hs rfl rfl), (Nat.zero_le _), rfl⟩
 ·skip
  clear t0 t1 t2 hd
  rintro nna_1 a_1 w_1 ⟨K, hm_1, hs_1, hd_1, ta_1_0, ta_1_1, ta_1_2, ta_1_6, ta_1_7, ta_1_9, ta_1_10, hK, hW⟩ K_6 hK_6
  subst hm_1
  subst hW
  have hlo := lowN_lt h0.b8 i K
  have hp8 := getD_lt h0.b8 (i + K)
  refine w2_sr (fun K_7 hK_7 => ?_)
  refine q_v 11 (.bool (decide (K < n))) (o_lss (m := K) (n := n) rfl ((pm rfl).trans ta_1_10) ((pm rfl).trans ta_1_9)) ?_
  refine x_nil (hK_7 _ _ ?_)
  refine w2_seq (fun K_8 hK_8 => ?_)
  refine w2_split (pe hs_1 rfl rfl) (fun h_1 => ?_) (fun h_1 => ?_)
  ·simp only [DD9] at h_1
   refine w2_skip ?_
   refine hK_8 _ _ ?_
   refine w2_seq (fun K_9 hK_9 => ?_)
   refine w2_block (fun K_10 hK_10 => ?_)
   refine w2_sr (fun K_11 hK_11 => ?_)
   refine q_mv ((pm rfl).trans ta_1_10) ?_
   refine q_at (pe hs_1 rfl rfl) ?_
   refine x_nil (hK_11 _ _ ?_)
   refine x_region (by kernel_rfl) ?_
   refine q_mv ((pm rfl).trans ta_1_7) ?_
   refine q_mv ((pm rfl).trans ta_1_0) ?_
   refine q_mv ((pm rfl).trans ta_1_1) ?_
   refine q_mv (pe hs_1 rfl rfl) ?_
   refine q_ca (vs := #[.slice A (q) (c), .int .i64 ((i : Nat) : Int), .int .i64 ((K : Nat) : Int)]) Try.func92 (args3 (pe hs_1 rfl rfl) (pe hs_1 rfl rfl) (pe hs_1 rfl rfl)) (atW_any _ h0 hq i K (by omega) (by omega)) (fun e_1 w_2 hR_1 => ?_)
   obtain ⟨rfl, rfl⟩ := hR_1
   refine ⟨_, rfl, ?_⟩
   refine q_v 18 (.int .u64 ((xs.getD (i + K) 0 : Nat) : Int)) (o_conv (m := (xs.getD (i + K) 0)) (r := xs.getD (i + K) 0) rfl (pe hs_1 rfl rfl) ⟨.int .u8, fun _ => by kernel_rfl⟩ (fun _ => by kernel_rfl) (by rw [IntKind.wrap_u64]; omega)) ?_
   refine q_mv (pe hs_1 rfl rfl) ?_
   refine q_v 20 (.int .i64 ((8 * K : Nat) : Int)) (o_mul64 (m := 8) (n := K) rfl rfl (pe hs_1 rfl rfl) (by omega)) ?_
   refine q_v 21 (.int .u64 ((8 * K : Nat) : Int)) (o_conv (m := (8 * K)) (r := 8 * K) rfl (pe hs_1 rfl rfl) ⟨.int .i64, fun _ => by kernel_rfl⟩ (fun _ => by kernel_rfl) (by rw [IntKind.wrap_u64]; omega)) ?_
   refine q_v 22 (.int .u64 ((xs.getD (i + K) 0 * 2 ^ (8 * K) : Nat) : Int)) (o_shl (m := xs.getD (i + K) 0) (n := 8 * K) (xs.getD (i + K) 0 * 2 ^ (8 * K)) rfl (pe hs_1 rfl rfl) (pe hs_1 rfl rfl) (by show 8 * K ≤ 64; omega) (lw_shl _ K hp8 (by omega))) ?_
   refine q_v 23 (.int .u64 ((lowN xs i (K + 1) : Nat) : Int)) (o_bits (m := lowN xs i K) (n := xs.getD (i + K) 0 * 2 ^ (8 * K)) (lowN xs i (K + 1)) rfl (pe hs_1 rfl rfl) (pe hs_1 rfl rfl) (by decide) (lw_or _ _ K hlo hp8 (by omega))) ?_
   refine q_at (pe hs_1 rfl rfl) ?_
   refine x_nil (hK_10 _ _ ?_)
   refine hK_9 _ _ ?_
   refine x_region (by kernel_rfl) ?_
   refine q_v 24 (.int .i64 ((K + 1 : Nat) : Int)) (o_add64 (m := K) (n := 1) rfl ((pm rfl).trans ta_1_10) rfl (by omega)) ?_
   refine q_mv (pe hs_1 rfl rfl) ?_
   refine x_nil ?_
   refine hK_6 _ _ _ ⟨K + 1, rfl, (by rw [putsR_size]; exact hs_1), (by rw [putsR_defers]; exact hd_1), ((pm rfl).trans ta_1_0), ((pm rfl).trans ta_1_1), ((pm rfl).trans ta_1_2), ((pm rfl).trans ta_1_6), (pe hs_1 rfl rfl), ((pm rfl).trans ta_1_9), (pe hs_1 rfl rfl), (by omega), rfl⟩ ?_
   omega
  ·simp only [DD9] at h_1
   obtain rfl : K = n := by omega
   refine w2_exit ?_
   refine thn_exit ?_
   refine thn_exit ?_
   refine exb_hit ?_
   refine hK_5 _ _ ?_
   refine hK_3 _ _ ?_
   refine w2_sr (fun K_12 hK_12 => ?_)
   refine q_mv ((pm rfl).trans ta_1_7) ?_
   refine q_at (pe hs_1 rfl rfl) ?_
   refine x_nil (hK_12 _ _ ?_)
   refine w2_ret ?_
   refine ret1 rfl hd_1 (pe hs_1 rfl rfl) ?_
   exact ⟨rfl, rfl⟩
theorem PutLowW_any (x n : Nat) (w : World) (hx : x < 18446744073709551616) (hn : n ≤ 8) :
  Calls Try.prog 35 #[.int .u64 ((x : Nat) : Int), .int .i64 ((n : Nat) : Int)] w fun e w' => ∃ A c, e = .returned (.slice A n c) ∧ Own w' w.heap.size A c (putL x n) ∧ Below w.heap.size w w' := by
 refine x_enter 22 Try.func35 rfl rfl (fun a hs hd ha0 => ?_)
 have t0 : a.eval (.tmp 0) = .int .u64 ((x : Nat) : Int) := ha0 0 _ rfl
 have t1 : a.eval (.tmp 1) = .int .i64 ((n : Nat) : Int) := ha0 1 _ rfl
 clear ha0
 refine w2_sr (fun K_1 hK_1 => ?_)
 refine q_as (.slice none (0) (0)) rfl ?_
 refine x_nil (hK_1 _ _ ?_)
 refine w2_sr (fun K_2 hK_2 => ?_)
 refine q_as (.slice none (0) (0)) rfl ?_
 refine x_nil (hK_2 _ _ ?_)
 refine w2_seq (fun K_3 hK_3 => ?_)
 refine w2_sr (fun K_4 hK_4 => ?_)
 refine q_mv ((pm rfl).trans t1) ?_
 refine q_v 8 (.int .i64 ((0 : Nat) : Int)) (o_move rfl rfl) ?_
 refine x_nil (hK_4 _ _ ?_)
 refine w2_block (fun K_5 hK_5 => ?_)
 refine x_loop (fun nn aa ww => ∃ (K : Nat) (A1 : Option Addr) (c1 : Nat), nn = n - K ∧ aa.tmps.size = 22 ∧ aa.defers = [] ∧ aa.eval (.tmp 0) = .int .u64 ((x : Nat) : Int) ∧ aa.eval (.tmp 1) = .int .i64 ((n : Nat) : Int) ∧ aa.eval (.tmp 4) = .slice none (0) (0) ∧ aa.eval (.tmp 5) = .slice A1 (K) (c1) ∧ aa.eval (.tmp 7) = .int .i64 ((n : Nat) : Int) ∧ aa.eval (.tmp 8) = .int .i64 ((K : Nat) : Int) ∧ K ≤ n ∧ Own ww w.heap.size A1 c1 (putL x K) ∧ Below w.heap.size w ww) (n) ?_ ?_
 ·exact ⟨0, none, 0, rfl, (by rw [putsR_size]; exact hs), (by rw [putsR_defers]; exact hd), ((pm rfl).trans t0), ((pm rfl).trans t1), (pe hs rfl rfl), (pe hs rfl rfl), (pe hs rfl rfl), (pe hs rfl rfl), Nat.zero_le _, Own.nil _ _, Below.refl _ _⟩
 ·skip
  clear t0 t1 hd
  rintro nna_1 a_1 w_1 ⟨K, A1, c1, hm_1, hs_1, hd_1, ta_1_0, ta_1_1, ta_1_4, ta_1_5, ta_1_7, ta_1_8, hK, hO, HBL⟩ K_6 hK_6
  subst hm_1
  refine w2_sr (fun K_7 hK_7 => ?_)
  refine q_v 9 (.bool (decide (K < n))) (o_lss (m := K) (n := n) rfl ((pm rfl).trans ta_1_8) ((pm rfl).trans ta_1_7)) ?_
  refine x_nil (hK_7 _ _ ?_)
  refine w2_seq (fun K_8 hK_8 => ?_)
  refine w2_split (pe hs_1 rfl rfl) (fun h_1 => ?_) (fun h_1 => ?_)
  ·simp only [DD9] at h_1
   refine w2_skip ?_
   refine hK_8 _ _ ?_
   refine w2_seq (fun K_9 hK_9 => ?_)
   refine w2_block (fun K_10 hK_10 => ?_)
   refine w2_sr (fun K_11 hK_11 => ?_)
   refine q_mv ((pm rfl).trans ta_1_8) ?_
   refine q_at (pe hs_1 rfl rfl) ?_
   refine x_nil (hK_11 _ _ ?_)
   refine x_region (by kernel_rfl) ?_
   refine q_mv ((pm rfl).trans ta_1_5) ?_
   refine q_mv ((pm rfl).trans ta_1_0) ?_
   refine q_mv (pe hs_1 rfl rfl) ?_
   refine q_v 14 (.int .i64 ((8 * K : Nat) : Int)) (o_mul64 (m := 8) (n := K) rfl rfl (pe hs_1 rfl rfl) (by omega)) ?_
   refine q_v 15 (.int .u64 ((8 * K : Nat) : Int)) (o_conv (m := (8 * K)) (r := 8 * K) rfl (pe hs_1 rfl rfl) ⟨.int .i64, fun _ => by kernel_rfl⟩ (fun _ => by kernel_rfl) (by rw [IntKind.wrap_u64]; omega)) ?_
   refine q_v 16 (.int .u64 ((x / 2 ^ (8 * K) : Nat) : Int)) (o_shr (m := x) (n := (8 * K)) rfl (pe hs_1 rfl rfl) (pe hs_1 rfl rfl) (by simp [IntKind.bits]; omega)) ?_
   refine q_v 17 (.int .u8 (((x / 2 ^ (8 * K)) % 256 : Nat) : Int)) (o_conv (m := (x / 2 ^ (8 * K))) (r := (x / 2 ^ (8 * K)) % 256) rfl (pe hs_1 rfl rfl) ⟨.int .u64, fun _ => by kernel_rfl⟩ (fun _ => by kernel_rfl) (by rw [IntKind.wrap_u8]; omega)) ?_
   refine op_ex (d := 18) rfl rfl (o_build1 (m := (x / 2 ^ (8 * K)) % 256) rfl (pe hs_1 rfl rfl) (Nat.mod_lt _ (by decide))) (fun v_1 w_2 hR_1 => ?_)
   obtain ⟨g_1, rfl, ho_1, hb_1⟩ := hR_1
   replace ho_1 := ho_1.mono HBL.size
   replace hO := hO.nx hb_1
   have HB_1 := below_from HBL hb_1
   refine op_ex (d := 19) rfl rfl (o_append rfl (pe hs_1 rfl rfl) (pe hs_1 rfl rfl) hO (ho_1).bs (by rw [(putL_length x K)]) (by simp only [List.length_cons, List.length_nil]) (by omega) HB_1.size) (fun v_2 w_3 hR_2 => ?_)
   obtain ⟨A_1, c_1, rfl, ho_2, hb_2, hg_1, hat_1⟩ := hR_2
   have HB_2 : Below w.heap.size w w_3 := (HB_1).trans hb_2
   clear hg_1 hat_1 hO
   refine q_at (pe hs_1 rfl rfl) ?_
   refine x_nil (hK_10 _ _ ?_)
   refine hK_9 _ _ ?_
   refine x_region (by kernel_rfl) ?_
   refine q_v 20 (.int .i64 ((K + 1 : Nat) : Int)) (o_add64 (m := K) (n := 1) rfl ((pm rfl).trans ta_1_8) rfl (by omega)) ?_
   refine q_mv (pe hs_1 rfl rfl) ?_
   refine x_nil ?_
   refine hK_6 _ _ _ ⟨K + 1, A_1, c_1, rfl, (by rw [putsR_size]; exact hs_1), (by rw [putsR_defers]; exact hd_1), ((pm rfl).trans ta_1_0), ((pm rfl).trans ta_1_1), ((pm rfl).trans ta_1_4), (pe hs_1 rfl rfl), ((pm rfl).trans ta_1_7), (pe hs_1 rfl rfl), (by omega), ho_2, HB_2⟩ ?_
   omega
  ·simp only [DD9] at h_1
   obtain rfl : K = n := by omega
   refine w2_exit ?_
   refine thn_exit ?_
   refine thn_exit ?_
   refine exb_hit ?_
   refine hK_5 _ _ ?_
   refine hK_3 _ _ ?_
   refine w2_sr (fun K_12 hK_12 => ?_)
   refine q_mv ((pm rfl).trans ta_1_5) ?_
   refine q_at (pe hs_1 rfl rfl) ?_
   refine x_nil (hK_12 _ _ ?_)
   refine w2_ret ?_
   refine ret1 rfl hd_1 (pe hs_1 rfl rfl) ?_
   exact ⟨_, _, rfl, hO, HBL⟩
theorem ret4 {P : Program} {fn : Func} {R : Ending → World → Prop} {a : Act} {w : World} {l : List (Tmp × Value)} {t u s r : Tmp} {v x y z : Value} (hf : fn.results = #[.tmp t, .tmp u, .tmp s, .tmp r]) (hd : a.defers = []) (hv : (putsR a l).eval (.tmp t) = v) (hx : (putsR a l).eval (.tmp u) = x) (hy : (putsR a l).eval (.tmp s) = y) (hz : (putsR a l).eval (.tmp r) = z)
  (hR : R (.returned (.tuple #[v, x, y, z])) w) : bodyPost P fn R .ret (putsR a l) w := by
 subst hv; subst hx; subst hy; subst hz
 refine ⟨by rw [putsR_defers, hd], .tuple #[(putsR a l).eval (.tmp t), (putsR a l).eval (.tmp u), (putsR a l).eval (.tmp s), (putsR a l).eval (.tmp r)], ?_, hR⟩
 simp [results, hf, Act.eval]
theorem LeftW_any (x k : Nat) (w : World) (hx : x < 4294967296) (hk : k < 32) :
  Calls Try.prog 98 #[.int .u32 ((x : Nat) : Int), .int .i64 ((k : Nat) : Int)] w fun e w' => e = .returned (.int .u32 ((rotl x k : Nat) : Int)) ∧ w = w' := by
 refine x_enter 19 Try.func98 rfl rfl (fun a hs hd ha0 => ?_)
 have t0 : a.eval (.tmp 0) = .int .u32 ((x : Nat) : Int) := ha0 0 _ rfl
 have t1 : a.eval (.tmp 1) = .int .i64 ((k : Nat) : Int) := ha0 1 _ rfl
 clear ha0
 refine w2_sr (fun K_1 hK_1 => ?_)
 refine q_as (.int .u32 ((0 : Nat) : Int)) rfl ?_
 refine x_nil (hK_1 _ _ ?_)
 refine w2_sr (fun K_2 hK_2 => ?_)
 refine q_mv ((pm rfl).trans t1) ?_
 refine q_v 7 (.int .i64 ((k % 32 : Nat) : Int)) (o_rem (m := k) (n := 32) rfl (pe hs rfl rfl) rfl (by omega) (IntWalk.i64_in _ (by omega))) ?_
 refine q_v 8 (.int .i64 (((k % 32) + 32 : Nat) : Int)) (o_add64 (m := (k % 32)) (n := 32) rfl (pe hs rfl rfl) rfl (by omega)) ?_
 refine q_v 9 (.int .u64 (((k % 32) + 32 : Nat) : Int)) (o_conv (m := ((k % 32) + 32)) (r := (k % 32) + 32) rfl (pe hs rfl rfl) ⟨.int .i64, fun _ => by kernel_rfl⟩ (fun _ => by kernel_rfl) (by rw [IntKind.wrap_u64]; omega)) ?_
 refine q_v 10 (.int .u64 ((k : Nat) : Int)) (o_eq (o_rem (m := ((k % 32) + 32)) (n := 32) rfl (pe hs rfl rfl) rfl (by omega) (by rw [IntKind.wrap_u64]; omega)) (congrArg (fun z : Nat => Value.int .u64 (z : Int)) (by omega))) ?_
 refine q_at (pe hs rfl rfl) ?_
 refine x_nil (hK_2 _ _ ?_)
 refine w2_sr (fun K_3 hK_3 => ?_)
 refine q_mv ((pm rfl).trans t0) ?_
 refine q_mv (pe hs rfl rfl) ?_
 refine q_v 13 (.int .u32 ((x * 2 ^ k % 4294967296 : Nat) : Int)) (o_shl (m := x) (n := k) (x * 2 ^ k % 4294967296) rfl (pe hs rfl rfl) (pe hs rfl rfl) (by show k ≤ 32; omega) (by rw [IntKind.wrap_u32]; simp)) ?_
 refine q_mv ((pm rfl).trans t0) ?_
 refine q_mv (pe hs rfl rfl) ?_
 refine q_v 16 (.int .u64 ((32 - k : Nat) : Int)) (o_subU (m := 32) (n := k) (32 - k) rfl rfl (pe hs rfl rfl) (by rw [IntKind.wrap_u64]; omega)) ?_
 refine q_v 17 (.int .u32 ((x / 2 ^ (32 - k) : Nat) : Int)) (o_shr (m := x) (n := 32 - k) rfl (pe hs rfl rfl) (pe hs rfl rfl) (by show 32 - k ≤ 32; omega)) ?_
 refine q_v 18 (.int .u32 ((rotl x k : Nat) : Int)) (o_eq (o_bits (m := (x * 2 ^ k % 4294967296)) (n := (x / 2 ^ (32 - k))) ((x * 2 ^ k % 4294967296) ||| (x / 2 ^ (32 - k))) rfl (pe hs rfl rfl) (pe hs rfl rfl) (by decide) (u32_or_nat _ _ (Nat.mod_lt _ (by decide)) (Nat.lt_of_le_of_lt (Nat.div_le_self _ _) hx))) rfl) ?_
 refine q_at (pe hs rfl rfl) ?_
 refine x_nil (hK_3 _ _ ?_)
 refine w2_ret ?_
 refine ret1 rfl hd (pe hs rfl rfl) ?_
 exact ⟨rfl, rfl⟩
theorem QuarterW_any (xa xb xc xd : Nat) (w : World) (la : xa < 4294967296) (lb : xb < 4294967296) (lc : xc < 4294967296) (ld : xd < 4294967296) :
  Calls Try.prog 87 #[.int .u32 ((xa : Nat) : Int), .int .u32 ((xb : Nat) : Int), .int .u32 ((xc : Nat) : Int), .int .u32 ((xd : Nat) : Int)] w fun e w' => ∃ p q r s : Nat, e = .returned (.tuple #[.int .u32 (p : Int), .int .u32 (q : Int), .int .u32 (r : Int), .int .u32 (s : Int)]) ∧ qr xa xb xc xd = (p, q, r, s) ∧ p < 4294967296 ∧ q < 4294967296 ∧ r < 4294967296 ∧ s < 4294967296 ∧ w = w' := by
 refine x_enter 44 Try.func87 rfl rfl (fun a hs hd ha0 => ?_)
 have t0 : a.eval (.tmp 0) = .int .u32 ((xa : Nat) : Int) := ha0 0 _ rfl
 have t1 : a.eval (.tmp 1) = .int .u32 ((xb : Nat) : Int) := ha0 1 _ rfl
 have t2 : a.eval (.tmp 2) = .int .u32 ((xc : Nat) : Int) := ha0 2 _ rfl
 have t3 : a.eval (.tmp 3) = .int .u32 ((xd : Nat) : Int) := ha0 3 _ rfl
 clear ha0
 refine w2_sr (fun K_1 hK_1 => ?_)
 refine q_as (.int .u32 ((0 : Nat) : Int)) rfl ?_
 refine q_as (.int .u32 ((0 : Nat) : Int)) rfl ?_
 refine q_as (.int .u32 ((0 : Nat) : Int)) rfl ?_
 refine q_as (.int .u32 ((0 : Nat) : Int)) rfl ?_
 refine x_nil (hK_1 _ _ ?_)
 refine w2_seq (fun K_2 hK_2 => ?_)
 obtain ⟨a1, ha1, la1⟩ : ∃ q : Nat, q = (xa + xb) % 4294967296 ∧ q < 4294967296 := ⟨_, rfl, (Nat.mod_lt _ (by decide))⟩
 refine x_region (by kernel_rfl) ?_
 refine q_mv ((pm rfl).trans t0) ?_
 refine q_mv ((pm rfl).trans t1) ?_
 refine q_v 14 (.int .u32 ((a1 : Nat) : Int)) (o_eq (o_addU (m := xa) (n := xb) ((xa + xb) % 4294967296) rfl (pe hs rfl rfl) (pe hs rfl rfl) (by rw [IntKind.wrap_u32]; omega)) (by rw [ha1])) ?_
 refine q_at (pe hs rfl rfl) ?_
 refine x_nil (hK_2 _ _ ?_)
 refine w2_seq (fun K_3 hK_3 => ?_)
 obtain ⟨d1, hd1, ld1⟩ : ∃ q : Nat, q = rotl (xd ^^^ a1) 16 ∧ q < 4294967296 := ⟨_, rfl, (rotl_lt _ _ (Nat.xor_lt_two_pow (n := 32) (by omega) (by omega)))⟩
 refine x_region (by kernel_rfl) ?_
 refine q_mv ((pm rfl).trans t3) ?_
 refine q_mv (pe hs rfl rfl) ?_
 refine q_v 17 (.int .u32 ((xd ^^^ a1 : Nat) : Int)) (o_bits (m := xd) (n := a1) (xd ^^^ a1) rfl (pe hs rfl rfl) (pe hs rfl rfl) (by decide) (u32_xor_nat _ _ (by omega) (by omega))) ?_
 refine q_ca (vs := #[.int .u32 ((xd ^^^ a1 : Nat) : Int), .int .i64 ((16 : Nat) : Int)]) Try.func98 (args2 (pe hs rfl rfl) rfl) (LeftW_any (xd ^^^ a1) 16 _ (Nat.xor_lt_two_pow (n := 32) (by omega) (by omega)) (by decide)) (fun e_1 w_1 hR_1 => ?_)
 obtain ⟨rfl, rfl⟩ := hR_1
 refine ⟨_, rfl, ?_⟩
 refine q_v 3 (.int .u32 ((d1 : Nat) : Int)) (o_eq (o_assign rfl (pe hs rfl rfl)) (by rw [hd1])) ?_
 refine x_nil (hK_3 _ _ ?_)
 refine w2_seq (fun K_4 hK_4 => ?_)
 obtain ⟨c1, hc1, lc1⟩ : ∃ q : Nat, q = (xc + d1) % 4294967296 ∧ q < 4294967296 := ⟨_, rfl, (Nat.mod_lt _ (by decide))⟩
 refine x_region (by kernel_rfl) ?_
 refine q_mv ((pm rfl).trans t2) ?_
 refine q_mv (pe hs rfl rfl) ?_
 refine q_v 21 (.int .u32 ((c1 : Nat) : Int)) (o_eq (o_addU (m := xc) (n := d1) ((xc + d1) % 4294967296) rfl (pe hs rfl rfl) (pe hs rfl rfl) (by rw [IntKind.wrap_u32]; omega)) (by rw [hc1])) ?_
 refine q_at (pe hs rfl rfl) ?_
 refine x_nil (hK_4 _ _ ?_)
 refine w2_seq (fun K_5 hK_5 => ?_)
 obtain ⟨b1, hb1, lb1⟩ : ∃ q : Nat, q = rotl (xb ^^^ c1) 12 ∧ q < 4294967296 := ⟨_, rfl, (rotl_lt _ _ (Nat.xor_lt_two_pow (n := 32) (by omega) (by omega)))⟩
 refine x_region (by kernel_rfl) ?_
 refine q_mv ((pm rfl).trans t1) ?_
 refine q_mv (pe hs rfl rfl) ?_
 refine q_v 24 (.int .u32 ((xb ^^^ c1 : Nat) : Int)) (o_bits (m := xb) (n := c1) (xb ^^^ c1) rfl (pe hs rfl rfl) (pe hs rfl rfl) (by decide) (u32_xor_nat _ _ (by omega) (by omega))) ?_
 refine q_ca (vs := #[.int .u32 ((xb ^^^ c1 : Nat) : Int), .int .i64 ((12 : Nat) : Int)]) Try.func98 (args2 (pe hs rfl rfl) rfl) (LeftW_any (xb ^^^ c1) 12 _ (Nat.xor_lt_two_pow (n := 32) (by omega) (by omega)) (by decide)) (fun e_2 w_2 hR_2 => ?_)
 obtain ⟨rfl, rfl⟩ := hR_2
 refine ⟨_, rfl, ?_⟩
 refine q_v 1 (.int .u32 ((b1 : Nat) : Int)) (o_eq (o_assign rfl (pe hs rfl rfl)) (by rw [hb1])) ?_
 refine x_nil (hK_5 _ _ ?_)
 refine w2_seq (fun K_6 hK_6 => ?_)
 obtain ⟨a2, ha2, la2⟩ : ∃ q : Nat, q = (a1 + b1) % 4294967296 ∧ q < 4294967296 := ⟨_, rfl, (Nat.mod_lt _ (by decide))⟩
 refine x_region (by kernel_rfl) ?_
 refine q_mv (pe hs rfl rfl) ?_
 refine q_mv (pe hs rfl rfl) ?_
 refine q_v 28 (.int .u32 ((a2 : Nat) : Int)) (o_eq (o_addU (m := a1) (n := b1) ((a1 + b1) % 4294967296) rfl (pe hs rfl rfl) (pe hs rfl rfl) (by rw [IntKind.wrap_u32]; omega)) (by rw [ha2])) ?_
 refine q_at (pe hs rfl rfl) ?_
 refine x_nil (hK_6 _ _ ?_)
 refine w2_seq (fun K_7 hK_7 => ?_)
 obtain ⟨d2, hd2, ld2⟩ : ∃ q : Nat, q = rotl (d1 ^^^ a2) 8 ∧ q < 4294967296 := ⟨_, rfl, (rotl_lt _ _ (Nat.xor_lt_two_pow (n := 32) (by omega) (by omega)))⟩
 refine x_region (by kernel_rfl) ?_
 refine q_mv (pe hs rfl rfl) ?_
 refine q_mv (pe hs rfl rfl) ?_
 refine q_v 31 (.int .u32 ((d1 ^^^ a2 : Nat) : Int)) (o_bits (m := d1) (n := a2) (d1 ^^^ a2) rfl (pe hs rfl rfl) (pe hs rfl rfl) (by decide) (u32_xor_nat _ _ (by omega) (by omega))) ?_
 refine q_ca (vs := #[.int .u32 ((d1 ^^^ a2 : Nat) : Int), .int .i64 ((8 : Nat) : Int)]) Try.func98 (args2 (pe hs rfl rfl) rfl) (LeftW_any (d1 ^^^ a2) 8 _ (Nat.xor_lt_two_pow (n := 32) (by omega) (by omega)) (by decide)) (fun e_3 w_3 hR_3 => ?_)
 obtain ⟨rfl, rfl⟩ := hR_3
 refine ⟨_, rfl, ?_⟩
 refine q_v 3 (.int .u32 ((d2 : Nat) : Int)) (o_eq (o_assign rfl (pe hs rfl rfl)) (by rw [hd2])) ?_
 refine x_nil (hK_7 _ _ ?_)
 refine w2_seq (fun K_8 hK_8 => ?_)
 obtain ⟨c2, hc2, lc2⟩ : ∃ q : Nat, q = (c1 + d2) % 4294967296 ∧ q < 4294967296 := ⟨_, rfl, (Nat.mod_lt _ (by decide))⟩
 refine x_region (by kernel_rfl) ?_
 refine q_mv (pe hs rfl rfl) ?_
 refine q_mv (pe hs rfl rfl) ?_
 refine q_v 35 (.int .u32 ((c2 : Nat) : Int)) (o_eq (o_addU (m := c1) (n := d2) ((c1 + d2) % 4294967296) rfl (pe hs rfl rfl) (pe hs rfl rfl) (by rw [IntKind.wrap_u32]; omega)) (by rw [hc2])) ?_
 refine q_at (pe hs rfl rfl) ?_
 refine x_nil (hK_8 _ _ ?_)
 refine w2_seq (fun K_9 hK_9 => ?_)
 obtain ⟨b2, hb2, lb2⟩ : ∃ q : Nat, q = rotl (b1 ^^^ c2) 7 ∧ q < 4294967296 := ⟨_, rfl, (rotl_lt _ _ (Nat.xor_lt_two_pow (n := 32) (by omega) (by omega)))⟩
 refine x_region (by kernel_rfl) ?_
 refine q_mv (pe hs rfl rfl) ?_
 refine q_mv (pe hs rfl rfl) ?_
 refine q_v 38 (.int .u32 ((b1 ^^^ c2 : Nat) : Int)) (o_bits (m := b1) (n := c2) (b1 ^^^ c2) rfl (pe hs rfl rfl) (pe hs rfl rfl) (by decide) (u32_xor_nat _ _ (by omega) (by omega))) ?_
 refine q_ca (vs := #[.int .u32 ((b1 ^^^ c2 : Nat) : Int), .int .i64 ((7 : Nat) : Int)]) Try.func98 (args2 (pe hs rfl rfl) rfl) (LeftW_any (b1 ^^^ c2) 7 _ (Nat.xor_lt_two_pow (n := 32) (by omega) (by omega)) (by decide)) (fun e_4 w_4 hR_4 => ?_)
 obtain ⟨rfl, rfl⟩ := hR_4
 refine ⟨_, rfl, ?_⟩
 refine q_v 1 (.int .u32 ((b2 : Nat) : Int)) (o_eq (o_assign rfl (pe hs rfl rfl)) (by rw [hb2])) ?_
 refine x_nil (hK_9 _ _ ?_)
 refine w2_sr (fun K_10 hK_10 => ?_)
 refine q_mv (pe hs rfl rfl) ?_
 refine q_mv (pe hs rfl rfl) ?_
 refine q_mv (pe hs rfl rfl) ?_
 refine q_mv (pe hs rfl rfl) ?_
 refine q_at (pe hs rfl rfl) ?_
 refine q_at (pe hs rfl rfl) ?_
 refine q_at (pe hs rfl rfl) ?_
 refine q_at (pe hs rfl rfl) ?_
 refine x_nil (hK_10 _ _ ?_)
 refine w2_ret ?_
 refine ret4 rfl hd (pe hs rfl rfl) (pe hs rfl rfl) (pe hs rfl rfl) (pe hs rfl rfl) ?_
 exact ⟨a2, b2, c2, d2, rfl, (by rw [hb2, hc2, hd2, ha2, hb1, hc1, hd1, ha1]; rfl), la2, lb2, lc2, ld2, rfl⟩
theorem QuarterW_eq {a b c d p q r s : Nat} (w : World) (hq : qr a b c d = (p, q, r, s)) (la : a < 4294967296) (lb : b < 4294967296) (lc : c < 4294967296) (ld : d < 4294967296) :
  Calls Try.prog 87 #[.int .u32 ((a : Nat) : Int), .int .u32 ((b : Nat) : Int), .int .u32 ((c : Nat) : Int), .int .u32 ((d : Nat) : Int)] w fun e w' => e = .returned (.tuple #[.int .u32 ((p : Nat) : Int), .int .u32 ((q : Nat) : Int), .int .u32 ((r : Nat) : Int), .int .u32 ((s : Nat) : Int)]) ∧ w = w' := by
 refine Calls.mono (QuarterW_any a b c d w la lb lc ld) ?_
 rintro e w' ⟨p', q', r', s', he, hq', _, _, _, _, hw⟩
 rw [hq] at hq'
 simp only [Prod.mk.injEq] at hq'
 obtain ⟨rfl, rfl, rfl, rfl⟩ := hq'
 exact ⟨he, hw⟩
end Go.Proofs.Ytggalcdkfielkaa
/-
 WALKS: the reference's ChaCha20: Block.
-/
namespace Go.Proofs.Ytggalcdkfielkaa
open Go.RowKit
set_option linter.unusedVariables false
set_option linter.unusedSimpArgs false
set_option maxRecDepth 100000
attribute [local irreducible] wpList wpListIn putsR

/-- The eight quarter rounds of a double round, by number. -/
def stpW (s : List Nat) : Nat → List Nat
 | 0 => s
 | K + 1 => if K < 4 then qrAt (stpW s K) K (4 + K) (8 + K) (12 + K) else qrAt (stpW s K) (K - 4) (4 + (K + 1) % 4) (8 + (K + 2) % 4) (12 + (K + 3) % 4)
theorem stpW_8 (s : List Nat) : stpW s 8 = diags (cols s 4) 4 := by
 simp [stpW, diags, cols]
theorem W16.stp {s : List Nat} (h : W16 s) : ∀ K, W16 (stpW s K)
 | 0 => h
 | K + 1 => by
  rw [stpW]
  split
  ·exact (W16.stp h K).qr _ _ _ _
  ·exact (W16.stp h K).qr _ _ _ _
/-- The words at the start, one by one. -/
def kW (ks : List Nat) : Nat → List Nat
 | 0 => [1634760805, 857760878, 2036477234, 1797285236, 0, 0, 0, 0, 0, 0, 0, 0, 0, 0, 0, 0]
 | K + 1 => (kW ks K).set (4 + K) (lowN ks (4 * K) 4)
def nW (l ns : List Nat) : Nat → List Nat
 | 0 => l
 | K + 1 => (nW l ns K).set (13 + K) (lowN ns (4 * K) 4)
theorem kW_length (ks : List Nat) : ∀ K, (kW ks K).length = 16
 | 0 => rfl
 | K + 1 => by rw [kW, List.length_set]; exact kW_length ks K
theorem nW_length (l ns : List Nat) : ∀ K, (nW l ns K).length = l.length
 | 0 => rfl
 | K + 1 => by rw [nW, List.length_set]; exact nW_length l ns K
theorem begin_same (ks ns : List Nat) (n : Nat) : nW ((kW ks 8).set 12 n) ns 3 = beginL ks ns n := by
 simp only [nW, kW, beginL, List.set_cons_succ, List.set_cons_zero, Nat.reduceMul, Nat.reduceAdd]
set_option maxHeartbeats 4000000 in
theorem BlockW_ok {A B : Option Addr} {c d m k : Nat} {ks ns : List Nat} (n : Nat) (w : World) (ha : Bs w A c ks) (hb : Bs w B d ns) (hm : ks.length = m) (hk : ns.length = k) (hn : n < 4294967296) (hm32 : m = 32) (hk12 : k = 12) :
  Calls Try.prog 58 #[.slice A (m) (c), .slice B (k) (d), .int .u32 ((n : Nat) : Int)] w fun e w' => ∃ A c, e = .returned (.tuple #[.slice A 64 c, .int .i64 0]) ∧ Own w' w.heap.size A c (blockL ks ns n) ∧ Below w.heap.size w w' := by
 have S0 : W16 (beginL ks ns n) := beginL_16 ks ns n ha.b8 hb.b8 hn
 refine x_enter 137 Try.func58 rfl rfl (fun a hs hd ha0 => ?_)
 have t0 : a.eval (.tmp 0) = .slice A (m) (c) := ha0 0 _ rfl
 have t1 : a.eval (.tmp 1) = .slice B (k) (d) := ha0 1 _ rfl
 have t2 : a.eval (.tmp 2) = .int .u32 ((n : Nat) : Int) := ha0 2 _ rfl
 clear ha0
 refine w2_sr (fun K_1 hK_1 => ?_)
 refine q_as (.slice none (0) (0)) rfl ?_
 refine q_as (.int .i64 ((0 : Nat) : Int)) rfl ?_
 refine x_nil (hK_1 _ _ ?_)
 refine w2_seq (fun K_2 hK_2 => ?_)
 refine w2_sr (fun K_3 hK_3 => ?_)
 refine q_mv ((pm rfl).trans t0) ?_
 refine q_v 24 (.int .i64 ((m : Nat) : Int)) (o_len rfl (pe hs rfl rfl)) ?_
 refine q_v 25 (.bool (false)) (o_eq (o_neq (m := m) (n := 32) rfl (pe hs rfl rfl) rfl) (by rw [decide_eq_true hm32]; rfl)) ?_
 refine q_mv (pe hs rfl rfl) ?_
 refine op_valG (e := 26) (d := 27) (v := .slice B (k) (d)) rfl rfl (by kernel_rfl) (pe hs rfl rfl) (o_move rfl ((pm rfl).trans t1)) ?_
 refine op_valG (e := 26) (d := 28) (v := .int .i64 ((k : Nat) : Int)) rfl rfl (by kernel_rfl) (pe hs rfl rfl) (o_len rfl (pe hs rfl rfl)) ?_
 refine op_valG (e := 26) (d := 29) (v := .bool (false)) rfl rfl (by kernel_rfl) (pe hs rfl rfl) (o_eq (o_neq (m := k) (n := 12) rfl (pe hs rfl rfl) rfl) (by rw [decide_eq_true hk12]; rfl)) ?_
 refine q_v 30 (.bool (false)) (o_pickF rfl (pe hs rfl rfl) (pe hs rfl rfl)) ?_
 refine x_nil (hK_3 _ _ ?_)
 refine w2_condF (pe hs rfl rfl) ?_
 refine w2_skip ?_
 refine hK_2 _ _ ?_
 refine w2_sr (fun K_4 hK_4 => ?_)
 refine q_v 31 (.agg (iws .u32 ([1634760805, 857760878, 2036477234, 1797285236, 0, 0, 0, 0, 0, 0, 0, 0, 0, 0, 0, 0])).toArray) (o_bld (vs := #[(0, .int .u32 ((1634760805 : Nat) : Int)), (1, .int .u32 ((857760878 : Nat) : Int)), (2, .int .u32 ((2036477234 : Nat) : Int)), (3, .int .u32 ((1797285236 : Nat) : Int))]) rfl (bld4 rfl rfl rfl rfl) (fun _ => by kernel_rfl)) ?_
 refine op_ex (d := 8) rfl rfl (o_alloc (zs := (iws .u32 (List.replicate 16 0)).toArray) rfl (fun _ => by kernel_rfl)) (fun v_1 w_1 hR_1 => ?_)
 obtain ⟨g_1, rfl, hle_1, hB_1, hb_1⟩ := hR_1
 have ge_1 : w.heap.size ≤ g_1 := hle_1
 refine op_do rfl rfl (o_storeI rfl (pe hs rfl rfl) (pe hs rfl rfl) hB_1 ⟨by kernel_rfl, by kernel_rfl⟩ (by simp [iws])) (fun w_2 hR_2 => ?_)
 obtain ⟨hB_2, hX_1⟩ := hR_2
 have HB_1 := hX_1.below hb_1 hb_1.size (fun k hk => hk ▸ ge_1)
 clear hB_1
 replace hB_2 : Blk w_2 g_1 (iws .u32 ([1634760805, 857760878, 2036477234, 1797285236, 0, 0, 0, 0, 0, 0, 0, 0, 0, 0, 0, 0])).toArray _ := hB_2
 refine x_nil (hK_4 _ _ ?_)
 refine w2_seq (fun K_5 hK_5 => ?_)
 refine w2_sr (fun K_6 hK_6 => ?_)
 refine q_v 32 (.int .i64 ((0 : Nat) : Int)) (o_move rfl rfl) ?_
 refine x_nil ?_
 have h00 : kW ks 0 = [1634760805, 857760878, 2036477234, 1797285236, 0, 0, 0, 0, 0, 0, 0, 0, 0, 0, 0, 0] := rfl
 rw [← h00] at hB_2
 refine hK_6 _ _ ?_
 refine w2_block (fun K_7 hK_7 => ?_)
 refine x_loop (fun nn aa ww => ∃ (K : Nat), nn = 8 - K ∧ aa.tmps.size = 137 ∧ aa.defers = [] ∧ aa.eval (.tmp 0) = .slice A (m) (c) ∧ aa.eval (.tmp 1) = .slice B (k) (d) ∧ aa.eval (.tmp 2) = .int .u32 ((n : Nat) : Int) ∧ aa.eval (.tmp 6) = .slice none (0) (0) ∧ aa.eval (.tmp 7) = .int .i64 ((0 : Nat) : Int) ∧ aa.eval (.tmp 8) = .pointer (some ⟨g_1, 0, none⟩) ∧ aa.eval (.tmp 23) = .slice A (m) (c) ∧ aa.eval (.tmp 24) = .int .i64 ((m : Nat) : Int) ∧ aa.eval (.tmp 25) = .bool (false) ∧ aa.eval (.tmp 26) = .bool (false) ∧ aa.eval (.tmp 27) = .slice B (k) (d) ∧ aa.eval (.tmp 28) = .int .i64 ((k : Nat) : Int) ∧ aa.eval (.tmp 29) = .bool (false) ∧ aa.eval (.tmp 30) = .bool (false) ∧ aa.eval (.tmp 31) = .agg (iws .u32 ([1634760805, 857760878, 2036477234, 1797285236, 0, 0, 0, 0, 0, 0, 0, 0, 0, 0, 0, 0])).toArray ∧ aa.eval (.tmp 32) = .int .i64 ((K : Nat) : Int) ∧ K ≤ 8 ∧ Blk ww g_1 (iws .u32 (kW ks K)).toArray 92 ∧ Below w.heap.size w ww) (8) ?_ ?_
 ·exact ⟨0, rfl, (by rw [putsR_size]; exact hs), (by rw [putsR_defers]; exact hd), ((pm rfl).trans t0), ((pm rfl).trans t1), ((pm rfl).trans t2), (pe hs rfl rfl), (pe hs rfl rfl), (pe hs rfl rfl), (pe hs rfl rfl), (pe hs rfl rfl), (pe hs rfl rfl), (pe hs rfl rfl), (pe hs rfl rfl), (pe hs rfl rfl), (pe hs rfl rfl), (pe hs rfl rfl), (pe hs rfl rfl), (pe hs rfl rfl), by omega, hB_2, HB_1⟩
 ·skip
  clear t0 t1 t2 hd hB_2 HB_1
  rintro nna_1 a_1 w_3 ⟨K, hm_1, hs_1, hd_1, ta_1_0, ta_1_1, ta_1_2, ta_1_6, ta_1_7, ta_1_8, ta_1_23, ta_1_24, ta_1_25, ta_1_26, ta_1_27, ta_1_28, ta_1_29, ta_1_30, ta_1_31, ta_1_32, hK, BS, HBL⟩ K_8 hK_8
  subst hm_1
  have hkl := kW_length ks K
  have hlo : lowN ks (4 * K) 4 < 4294967296 := lowN_lt ha.b8 (4 * K) 4
  refine w2_sr (fun K_9 hK_9 => ?_)
  refine q_v 33 (.bool (decide (K < 8))) (o_lss (m := K) (n := 8) rfl ((pm rfl).trans ta_1_32) rfl) ?_
  refine x_nil (hK_9 _ _ ?_)
  refine w2_seq (fun K_10 hK_10 => ?_)
  refine w2_split (pe hs_1 rfl rfl) (fun h_1 => ?_) (fun h_1 => ?_)
  ·simp only [DD9] at h_1
   refine w2_skip ?_
   refine hK_10 _ _ ?_
   refine w2_seq (fun K_11 hK_11 => ?_)
   refine w2_block (fun K_12 hK_12 => ?_)
   refine w2_sr (fun K_13 hK_13 => ?_)
   refine q_mv ((pm rfl).trans ta_1_32) ?_
   refine q_at (pe hs_1 rfl rfl) ?_
   refine x_nil (hK_13 _ _ ?_)
   refine x_region (by kernel_rfl) ?_
   refine q_mv (pe hs_1 rfl rfl) ?_
   refine q_v 36 (.int .i64 ((4 + K : Nat) : Int)) (o_add64 (m := 4) (n := K) rfl rfl (pe hs_1 rfl rfl) (by omega)) ?_
   refine q_mv ((pm rfl).trans ta_1_0) ?_
   refine q_mv (pe hs_1 rfl rfl) ?_
   refine q_v 39 (.int .i64 ((4 * K : Nat) : Int)) (o_mul64 (m := 4) (n := K) rfl rfl (pe hs_1 rfl rfl) (by omega)) ?_
   refine q_ca (vs := #[.slice A (m) (c), .int .i64 ((4 * K : Nat) : Int), .int .i64 ((4 : Nat) : Int)]) Try.func86 (args3 (pe hs_1 rfl rfl) (pe hs_1 rfl rfl) rfl) (LowW_any _ (ha.below HBL) hm (4 * K) 4 (by omega) (by decide)) (fun e_1 w_4 hR_3 => ?_)
   obtain ⟨rfl, rfl⟩ := hR_3
   refine ⟨_, rfl, ?_⟩
   refine q_v 41 (.int .u32 ((lowN ks (4 * K) 4 : Nat) : Int)) (o_conv (m := (lowN ks (4 * K) 4)) (r := lowN ks (4 * K) 4) rfl (pe hs_1 rfl rfl) ⟨.int .u64, fun _ => by kernel_rfl⟩ (fun _ => by kernel_rfl) (by rw [IntKind.wrap_u32]; omega)) ?_
   refine op_val (d := 42) (v := .pointer (some ⟨g_1, 4 + K, none⟩)) rfl rfl (zero_off (o_ixA (k := 0) (i := 4 + K) (n := 16) (e := 57) rfl ((pm rfl).trans ta_1_8) (pe hs_1 rfl rfl) (by omega) (fun _ => by kernel_rfl) (fun _ => by kernel_rfl))) ?_
   refine op_do rfl rfl (o_storeW rfl (pe hs_1 rfl rfl) (pe hs_1 rfl rfl) BS (by rw [hkl]; omega) ⟨by kernel_rfl, by kernel_rfl⟩) (fun w_5 hR_4 => ?_)
   obtain ⟨hB_3, hX_2⟩ := hR_4
   have HB_2 := hX_2.below HBL HBL.size (fun k hk => hk ▸ ge_1)
   clear BS
   refine x_nil (hK_12 _ _ ?_)
   refine hK_11 _ _ ?_
   refine x_region (by kernel_rfl) ?_
   refine q_v 43 (.int .i64 ((K + 1 : Nat) : Int)) (o_add64 (m := K) (n := 1) rfl ((pm rfl).trans ta_1_32) rfl (by omega)) ?_
   refine q_mv (pe hs_1 rfl rfl) ?_
   refine x_nil ?_
   refine hK_8 _ _ _ ⟨K + 1, rfl, (by rw [putsR_size]; exact hs_1), (by rw [putsR_defers]; exact hd_1), ((pm rfl).trans ta_1_0), ((pm rfl).trans ta_1_1), ((pm rfl).trans ta_1_2), ((pm rfl).trans ta_1_6), ((pm rfl).trans ta_1_7), ((pm rfl).trans ta_1_8), ((pm rfl).trans ta_1_23), ((pm rfl).trans ta_1_24), ((pm rfl).trans ta_1_25), ((pm rfl).trans ta_1_26), ((pm rfl).trans ta_1_27), ((pm rfl).trans ta_1_28), ((pm rfl).trans ta_1_29), ((pm rfl).trans ta_1_30), ((pm rfl).trans ta_1_31), (pe hs_1 rfl rfl), (by omega), hB_3, HB_2⟩ ?_
   omega
  ·simp only [DD9] at h_1
   obtain rfl : K = 8 := by omega
   refine w2_exit ?_
   refine thn_exit ?_
   refine thn_exit ?_
   refine exb_hit ?_
   refine hK_7 _ _ ?_
   refine hK_5 _ _ ?_
   refine w2_sr (fun K_14 hK_14 => ?_)
   refine q_mv ((pm rfl).trans ta_1_2) ?_
   refine op_val (d := 45) (v := .pointer (some ⟨g_1, 12, none⟩)) rfl rfl (zero_off (o_ixA (k := 0) (i := 12) (n := 16) (e := 57) rfl ((pm rfl).trans ta_1_8) rfl (by omega) (fun _ => by kernel_rfl) (fun _ => by kernel_rfl))) ?_
   refine op_do rfl rfl (o_storeW rfl (pe hs_1 rfl rfl) (pe hs_1 rfl rfl) BS (by rw [hkl]; omega) ⟨by kernel_rfl, by kernel_rfl⟩) (fun w_6 hR_5 => ?_)
   obtain ⟨hB_4, hX_3⟩ := hR_5
   have HB_3 := hX_3.below HBL HBL.size (fun k hk => hk ▸ ge_1)
   clear BS
   refine x_nil (hK_14 _ _ ?_)
   refine w2_seq (fun K_15 hK_15 => ?_)
   refine w2_sr (fun K_16 hK_16 => ?_)
   refine q_v 46 (.int .i64 ((0 : Nat) : Int)) (o_move rfl rfl) ?_
   refine x_nil ?_
   obtain ⟨l9, hl9⟩ : ∃ q, q = (kW ks 8).set 12 n := ⟨_, rfl⟩
   have hl16 : l9.length = 16 := by rw [hl9, List.length_set]; exact kW_length ks 8
   replace hB_4 : Blk w_6 g_1 (iws .u32 (nW l9 ns 0)).toArray 92 := by rw [hl9]; exact hB_4
   refine hK_16 _ _ ?_
   refine w2_block (fun K_17 hK_17 => ?_)
   refine x_loop (fun nn aa ww => ∃ (K : Nat), nn = 3 - K ∧ aa.tmps.size = 137 ∧ aa.defers = [] ∧ aa.eval (.tmp 0) = .slice A (m) (c) ∧ aa.eval (.tmp 1) = .slice B (k) (d) ∧ aa.eval (.tmp 2) = .int .u32 ((n : Nat) : Int) ∧ aa.eval (.tmp 6) = .slice none (0) (0) ∧ aa.eval (.tmp 7) = .int .i64 ((0 : Nat) : Int) ∧ aa.eval (.tmp 8) = .pointer (some ⟨g_1, 0, none⟩) ∧ aa.eval (.tmp 23) = .slice A (m) (c) ∧ aa.eval (.tmp 24) = .int .i64 ((m : Nat) : Int) ∧ aa.eval (.tmp 25) = .bool (false) ∧ aa.eval (.tmp 26) = .bool (false) ∧ aa.eval (.tmp 27) = .slice B (k) (d) ∧ aa.eval (.tmp 28) = .int .i64 ((k : Nat) : Int) ∧ aa.eval (.tmp 29) = .bool (false) ∧ aa.eval (.tmp 30) = .bool (false) ∧ aa.eval (.tmp 31) = .agg (iws .u32 ([1634760805, 857760878, 2036477234, 1797285236, 0, 0, 0, 0, 0, 0, 0, 0, 0, 0, 0, 0])).toArray ∧ aa.eval (.tmp 32) = .int .i64 ((8 : Nat) : Int) ∧ aa.eval (.tmp 33) = .bool (decide (8 < 8)) ∧ aa.eval (.tmp 44) = .int .u32 ((n : Nat) : Int) ∧ aa.eval (.tmp 45) = .pointer (some ⟨g_1, 12, none⟩) ∧ aa.eval (.tmp 46) = .int .i64 ((K : Nat) : Int) ∧ K ≤ 3 ∧ Blk ww g_1 (iws .u32 (nW l9 ns K)).toArray 92 ∧ Below w.heap.size w ww) (3) ?_ ?_
   ·exact ⟨0, rfl, (by rw [putsR_size]; exact hs_1), (by rw [putsR_defers]; exact hd_1), ((pm rfl).trans ta_1_0), ((pm rfl).trans ta_1_1), ((pm rfl).trans ta_1_2), ((pm rfl).trans ta_1_6), ((pm rfl).trans ta_1_7), ((pm rfl).trans ta_1_8), ((pm rfl).trans ta_1_23), ((pm rfl).trans ta_1_24), ((pm rfl).trans ta_1_25), ((pm rfl).trans ta_1_26), ((pm rfl).trans ta_1_27), ((pm rfl).trans ta_1_28), ((pm rfl).trans ta_1_29), ((pm rfl).trans ta_1_30), ((pm rfl).trans ta_1_31), ((pm rfl).trans ta_1_32), (pe hs_1 rfl rfl), (pe hs_1 rfl rfl), (pe hs_1 rfl rfl), (pe hs_1 rfl rfl), by omega, hB_4, HB_3⟩
   ·skip
    clear ta_1_0 ta_1_1 ta_1_2 ta_1_6 ta_1_7 ta_1_23 ta_1_24 ta_1_25 ta_1_26 ta_1_27 ta_1_28 ta_1_29 ta_1_30 ta_1_31 ta_1_8 ta_1_32 hd_1 hB_4 HB_3
    rintro nna_2 a_2 w_7 ⟨K, hm_2, hs_2, hd_2, ta_2_0, ta_2_1, ta_2_2, ta_2_6, ta_2_7, ta_2_8, ta_2_23, ta_2_24, ta_2_25, ta_2_26, ta_2_27, ta_2_28, ta_2_29, ta_2_30, ta_2_31, ta_2_32, ta_2_33, ta_2_44, ta_2_45, ta_2_46, hK, BS, HBL⟩ K_18 hK_18
    subst hm_2
    have hkl := (nW_length l9 ns K).trans hl16
    have hlo : lowN ns (4 * K) 4 < 4294967296 := lowN_lt hb.b8 (4 * K) 4
    refine w2_sr (fun K_19 hK_19 => ?_)
    refine q_v 47 (.bool (decide (K < 3))) (o_lss (m := K) (n := 3) rfl ((pm rfl).trans ta_2_46) rfl) ?_
    refine x_nil (hK_19 _ _ ?_)
    refine w2_seq (fun K_20 hK_20 => ?_)
    refine w2_split (pe hs_2 rfl rfl) (fun h_2 => ?_) (fun h_2 => ?_)
    ·simp only [DD9] at h_2
     refine w2_skip ?_
     refine hK_20 _ _ ?_
     refine w2_seq (fun K_21 hK_21 => ?_)
     refine w2_block (fun K_22 hK_22 => ?_)
     refine w2_sr (fun K_23 hK_23 => ?_)
     refine q_mv ((pm rfl).trans ta_2_46) ?_
     refine q_at (pe hs_2 rfl rfl) ?_
     refine x_nil (hK_23 _ _ ?_)
     refine x_region (by kernel_rfl) ?_
     refine q_mv (pe hs_2 rfl rfl) ?_
     refine q_v 50 (.int .i64 ((13 + K : Nat) : Int)) (o_add64 (m := 13) (n := K) rfl rfl (pe hs_2 rfl rfl) (by omega)) ?_
     refine q_mv ((pm rfl).trans ta_2_1) ?_
     refine q_mv (pe hs_2 rfl rfl) ?_
     refine q_v 53 (.int .i64 ((4 * K : Nat) : Int)) (o_mul64 (m := 4) (n := K) rfl rfl (pe hs_2 rfl rfl) (by omega)) ?_
     refine q_ca (vs := #[.slice B (k) (d), .int .i64 ((4 * K : Nat) : Int), .int .i64 ((4 : Nat) : Int)]) Try.func86 (args3 (pe hs_2 rfl rfl) (pe hs_2 rfl rfl) rfl) (LowW_any _ (hb.below HBL) hk (4 * K) 4 (by omega) (by decide)) (fun e_2 w_8 hR_6 => ?_)
     obtain ⟨rfl, rfl⟩ := hR_6
     refine ⟨_, rfl, ?_⟩
     refine q_v 55 (.int .u32 ((lowN ns (4 * K) 4 : Nat) : Int)) (o_conv (m := (lowN ns (4 * K) 4)) (r := lowN ns (4 * K) 4) rfl (pe hs_2 rfl rfl) ⟨.int .u64, fun _ => by kernel_rfl⟩ (fun _ => by kernel_rfl) (by rw [IntKind.wrap_u32]; omega)) ?_
     refine op_val (d := 56) (v := .pointer (some ⟨g_1, 13 + K, none⟩)) rfl rfl (zero_off (o_ixA (k := 0) (i := 13 + K) (n := 16) (e := 57) rfl ((pm rfl).trans ta_2_8) (pe hs_2 rfl rfl) (by omega) (fun _ => by kernel_rfl) (fun _ => by kernel_rfl))) ?_
     refine op_do rfl rfl (o_storeW rfl (pe hs_2 rfl rfl) (pe hs_2 rfl rfl) BS (by rw [hkl]; omega) ⟨by kernel_rfl, by kernel_rfl⟩) (fun w_9 hR_7 => ?_)
     obtain ⟨hB_5, hX_4⟩ := hR_7
     have HB_4 := hX_4.below HBL HBL.size (fun k hk => hk ▸ ge_1)
     clear BS
     refine x_nil (hK_22 _ _ ?_)
     refine hK_21 _ _ ?_
     refine x_region (by kernel_rfl) ?_
     refine q_v 57 (.int .i64 ((K + 1 : Nat) : Int)) (o_add64 (m := K) (n := 1) rfl ((pm rfl).trans ta_2_46) rfl (by omega)) ?_
     refine q_mv (pe hs_2 rfl rfl) ?_
     refine x_nil ?_
     refine hK_18 _ _ _ ⟨K + 1, rfl, (by rw [putsR_size]; exact hs_2), (by rw [putsR_defers]; exact hd_2), ((pm rfl).trans ta_2_0), ((pm rfl).trans ta_2_1), ((pm rfl).trans ta_2_2), ((pm rfl).trans ta_2_6), ((pm rfl).trans ta_2_7), ((pm rfl).trans ta_2_8), ((pm rfl).trans ta_2_23), ((pm rfl).trans ta_2_24), ((pm rfl).trans ta_2_25), ((pm rfl).trans ta_2_26), ((pm rfl).trans ta_2_27), ((pm rfl).trans ta_2_28), ((pm rfl).trans ta_2_29), ((pm rfl).trans ta_2_30), ((pm rfl).trans ta_2_31), ((pm rfl).trans ta_2_32), ((pm rfl).trans ta_2_33), ((pm rfl).trans ta_2_44), ((pm rfl).trans ta_2_45), (pe hs_2 rfl rfl), (by omega), hB_5, HB_4⟩ ?_
     omega
    ·simp only [DD9] at h_2
     obtain rfl : K = 3 := by omega
     refine w2_exit ?_
     refine thn_exit ?_
     refine thn_exit ?_
     refine exb_hit ?_
     refine hK_17 _ _ ?_
     refine hK_15 _ _ ?_
     refine w2_seq (fun K_24 hK_24 => ?_)
     rw [hl9, begin_same] at BS
     refine x_region (by kernel_rfl) ?_
     refine q_v 58 (.agg (iws .u32 (beginL ks ns n)).toArray) (o_loadI rfl ((pm rfl).trans ta_2_8) BS (by rw [S0.1]; exact ⟨by kernel_rfl, by kernel_rfl⟩)) ?_
     refine op_ex (d := 11) rfl rfl (o_alloc (zs := (iws .u32 (List.replicate 16 0)).toArray) rfl (fun _ => by kernel_rfl)) (fun v_2 w_10 hR_8 => ?_)
     obtain ⟨g_2, rfl, hle_2, hB_6, hb_4⟩ := hR_8
     have ne_1 : g_1 ≠ g_2 := Nat.ne_of_lt (Nat.lt_of_lt_of_le BS.lt hle_2)
     have ge_2 : w.heap.size ≤ g_2 := Nat.le_trans HBL.size hle_2
     replace BS := BS.nx hb_4
     have HB_5 := below_from HBL hb_4
     refine op_do rfl rfl (o_storeI rfl (pe hs_2 rfl rfl) (pe hs_2 rfl rfl) hB_6 (by rw [S0.1]; exact ⟨by kernel_rfl, by kernel_rfl⟩) (by rw [S0.1]; simp [iws])) (fun w_11 hR_9 => ?_)
     obtain ⟨hB_7, hX_5⟩ := hR_9
     replace BS := hX_5.blk BS ne_1
     have HB_6 := hX_5.below HB_5 HB_5.size (fun k hk => hk ▸ ge_2)
     clear hB_6
     refine x_nil (hK_24 _ _ ?_)
     refine w2_seq (fun K_25 hK_25 => ?_)
     refine w2_sr (fun K_26 hK_26 => ?_)
     refine q_v 59 (.int .i64 ((0 : Nat) : Int)) (o_move rfl rfl) ?_
     refine x_nil (hK_26 _ _ ?_)
     refine w2_block (fun K_27 hK_27 => ?_)
     refine x_loop (fun nn aa ww => ∃ (R : Nat), nn = 10 - R ∧ aa.tmps.size = 137 ∧ aa.defers = [] ∧ aa.eval (.tmp 0) = .slice A (m) (c) ∧ aa.eval (.tmp 1) = .slice B (k) (d) ∧ aa.eval (.tmp 2) = .int .u32 ((n : Nat) : Int) ∧ aa.eval (.tmp 6) = .slice none (0) (0) ∧ aa.eval (.tmp 7) = .int .i64 ((0 : Nat) : Int) ∧ aa.eval (.tmp 8) = .pointer (some ⟨g_1, 0, none⟩) ∧ aa.eval (.tmp 11) = .pointer (some ⟨g_2, 0, none⟩) ∧ aa.eval (.tmp 23) = .slice A (m) (c) ∧ aa.eval (.tmp 24) = .int .i64 ((m : Nat) : Int) ∧ aa.eval (.tmp 25) = .bool (false) ∧ aa.eval (.tmp 26) = .bool (false) ∧ aa.eval (.tmp 27) = .slice B (k) (d) ∧ aa.eval (.tmp 28) = .int .i64 ((k : Nat) : Int) ∧ aa.eval (.tmp 29) = .bool (false) ∧ aa.eval (.tmp 30) = .bool (false) ∧ aa.eval (.tmp 31) = .agg (iws .u32 ([1634760805, 857760878, 2036477234, 1797285236, 0, 0, 0, 0, 0, 0, 0, 0, 0, 0, 0, 0])).toArray ∧ aa.eval (.tmp 32) = .int .i64 ((8 : Nat) : Int) ∧ aa.eval (.tmp 33) = .bool (decide (8 < 8)) ∧ aa.eval (.tmp 44) = .int .u32 ((n : Nat) : Int) ∧ aa.eval (.tmp 45) = .pointer (some ⟨g_1, 12, none⟩) ∧ aa.eval (.tmp 46) = .int .i64 ((3 : Nat) : Int) ∧ aa.eval (.tmp 47) = .bool (decide (3 < 3)) ∧ aa.eval (.tmp 58) = .agg (iws .u32 (beginL ks ns n)).toArray ∧ aa.eval (.tmp 59) = .int .i64 ((R : Nat) : Int) ∧ R ≤ 10 ∧ Blk ww g_2 (iws .u32 (dbls (beginL ks ns n) R)).toArray 92 ∧ Blk ww g_1 (iws .u32 (beginL ks ns n)).toArray 92 ∧ Below w.heap.size w ww) (10) ?_ ?_
     ·exact ⟨0, rfl, (by rw [putsR_size]; exact hs_2), (by rw [putsR_defers]; exact hd_2), ((pm rfl).trans ta_2_0), ((pm rfl).trans ta_2_1), ((pm rfl).trans ta_2_2), ((pm rfl).trans ta_2_6), ((pm rfl).trans ta_2_7), ((pm rfl).trans ta_2_8), (pe hs_2 rfl rfl), ((pm rfl).trans ta_2_23), ((pm rfl).trans ta_2_24), ((pm rfl).trans ta_2_25), ((pm rfl).trans ta_2_26), ((pm rfl).trans ta_2_27), ((pm rfl).trans ta_2_28), ((pm rfl).trans ta_2_29), ((pm rfl).trans ta_2_30), ((pm rfl).trans ta_2_31), ((pm rfl).trans ta_2_32), ((pm rfl).trans ta_2_33), ((pm rfl).trans ta_2_44), ((pm rfl).trans ta_2_45), ((pm rfl).trans ta_2_46), (pe hs_2 rfl rfl), (pe hs_2 rfl rfl), (pe hs_2 rfl rfl), by omega, hB_7, BS, HB_6⟩
     ·skip
      clear ta_2_0 ta_2_1 ta_2_2 ta_2_6 ta_2_7 ta_2_23 ta_2_24 ta_2_25 ta_2_26 ta_2_27 ta_2_28 ta_2_29 ta_2_30 ta_2_31 ta_2_8 ta_2_32 ta_2_33 ta_2_44 ta_2_45 ta_2_46 hd_2 BS hB_7 HB_6
      rintro nna_3 a_3 w_12 ⟨R, hm_3, hs_3, hd_3, ta_3_0, ta_3_1, ta_3_2, ta_3_6, ta_3_7, ta_3_8, ta_3_11, ta_3_23, ta_3_24, ta_3_25, ta_3_26, ta_3_27, ta_3_28, ta_3_29, ta_3_30, ta_3_31, ta_3_32, ta_3_33, ta_3_44, ta_3_45, ta_3_46, ta_3_47, ta_3_58, ta_3_59, hR, BS, BF, HBL⟩ K_28 hK_28
      subst hm_3
      have S1 := S0.dbls R
      generalize hs1 : dbls (beginL ks ns n) R = s1 at BS S1
      refine w2_sr (fun K_29 hK_29 => ?_)
      refine q_v 60 (.bool (decide (R < 10))) (o_lss (m := R) (n := 10) rfl ((pm rfl).trans ta_3_59) rfl) ?_
      refine x_nil (hK_29 _ _ ?_)
      refine w2_seq (fun K_30 hK_30 => ?_)
      refine w2_split (pe hs_3 rfl rfl) (fun h_3 => ?_) (fun h_3 => ?_)
      ·simp only [DD9] at h_3
       refine w2_skip ?_
       refine hK_30 _ _ ?_
       refine w2_seq (fun K_31 hK_31 => ?_)
       refine w2_block (fun K_32 hK_32 => ?_)
       refine w2_sr (fun K_33 hK_33 => ?_)
       refine q_v 61 (.int .i64 ((0 : Nat) : Int)) (o_move rfl rfl) ?_
       refine x_nil (hK_33 _ _ ?_)
       refine w2_block (fun K_34 hK_34 => ?_)
       refine x_loop (fun nn aa ww => ∃ (K : Nat), nn = 8 - K ∧ aa.tmps.size = 137 ∧ aa.defers = [] ∧ aa.eval (.tmp 0) = .slice A (m) (c) ∧ aa.eval (.tmp 1) = .slice B (k) (d) ∧ aa.eval (.tmp 2) = .int .u32 ((n : Nat) : Int) ∧ aa.eval (.tmp 6) = .slice none (0) (0) ∧ aa.eval (.tmp 7) = .int .i64 ((0 : Nat) : Int) ∧ aa.eval (.tmp 8) = .pointer (some ⟨g_1, 0, none⟩) ∧ aa.eval (.tmp 11) = .pointer (some ⟨g_2, 0, none⟩) ∧ aa.eval (.tmp 23) = .slice A (m) (c) ∧ aa.eval (.tmp 24) = .int .i64 ((m : Nat) : Int) ∧ aa.eval (.tmp 25) = .bool (false) ∧ aa.eval (.tmp 26) = .bool (false) ∧ aa.eval (.tmp 27) = .slice B (k) (d) ∧ aa.eval (.tmp 28) = .int .i64 ((k : Nat) : Int) ∧ aa.eval (.tmp 29) = .bool (false) ∧ aa.eval (.tmp 30) = .bool (false) ∧ aa.eval (.tmp 31) = .agg (iws .u32 ([1634760805, 857760878, 2036477234, 1797285236, 0, 0, 0, 0, 0, 0, 0, 0, 0, 0, 0, 0])).toArray ∧ aa.eval (.tmp 32) = .int .i64 ((8 : Nat) : Int) ∧ aa.eval (.tmp 33) = .bool (decide (8 < 8)) ∧ aa.eval (.tmp 44) = .int .u32 ((n : Nat) : Int) ∧ aa.eval (.tmp 45) = .pointer (some ⟨g_1, 12, none⟩) ∧ aa.eval (.tmp 46) = .int .i64 ((3 : Nat) : Int) ∧ aa.eval (.tmp 47) = .bool (decide (3 < 3)) ∧ aa.eval (.tmp 58) = .agg (iws .u32 (beginL ks ns n)).toArray ∧ aa.eval (.tmp 59) = .int .i64 ((R : Nat) : Int) ∧ aa.eval (.tmp 60) = .bool (decide (R < 10)) ∧ aa.eval (.tmp 61) = .int .i64 ((K : Nat) : Int) ∧ K ≤ 8 ∧ Blk ww g_2 (iws .u32 (stpW s1 K)).toArray 92 ∧ Blk ww g_1 (iws .u32 (beginL ks ns n)).toArray 92 ∧ Below w.heap.size w ww) (8) ?_ ?_
       ·exact ⟨0, rfl, (by rw [putsR_size]; exact hs_3), (by rw [putsR_defers]; exact hd_3), ((pm rfl).trans ta_3_0), ((pm rfl).trans ta_3_1), ((pm rfl).trans ta_3_2), ((pm rfl).trans ta_3_6), ((pm rfl).trans ta_3_7), ((pm rfl).trans ta_3_8), ((pm rfl).trans ta_3_11), ((pm rfl).trans ta_3_23), ((pm rfl).trans ta_3_24), ((pm rfl).trans ta_3_25), ((pm rfl).trans ta_3_26), ((pm rfl).trans ta_3_27), ((pm rfl).trans ta_3_28), ((pm rfl).trans ta_3_29), ((pm rfl).trans ta_3_30), ((pm rfl).trans ta_3_31), ((pm rfl).trans ta_3_32), ((pm rfl).trans ta_3_33), ((pm rfl).trans ta_3_44), ((pm rfl).trans ta_3_45), ((pm rfl).trans ta_3_46), ((pm rfl).trans ta_3_47), ((pm rfl).trans ta_3_58), ((pm rfl).trans ta_3_59), (pe hs_3 rfl rfl), (pe hs_3 rfl rfl), by omega, BS, BF, HBL⟩
       ·skip
        clear ta_3_0 ta_3_1 ta_3_2 ta_3_6 ta_3_7 ta_3_23 ta_3_24 ta_3_25 ta_3_26 ta_3_27 ta_3_28 ta_3_29 ta_3_30 ta_3_31 ta_3_8 ta_3_32 ta_3_33 ta_3_44 ta_3_45 ta_3_46 ta_3_47 ta_3_58 ta_3_11 ta_3_59 hd_3 BS BF HBL
        rintro nna_4 a_4 w_13 ⟨K, hm_4, hs_4, hd_4, ta_4_0, ta_4_1, ta_4_2, ta_4_6, ta_4_7, ta_4_8, ta_4_11, ta_4_23, ta_4_24, ta_4_25, ta_4_26, ta_4_27, ta_4_28, ta_4_29, ta_4_30, ta_4_31, ta_4_32, ta_4_33, ta_4_44, ta_4_45, ta_4_46, ta_4_47, ta_4_58, ta_4_59, ta_4_60, ta_4_61, hK, BS, BF, HBL⟩ K_35 hK_35
        subst hm_4
        have HS := S1.stp K
        generalize hs : stpW s1 K = s at BS HS
        have hs16 := HS.1
        refine w2_sr (fun K_36 hK_36 => ?_)
        refine q_v 62 (.bool (decide (K < 8))) (o_lss (m := K) (n := 8) rfl ((pm rfl).trans ta_4_61) rfl) ?_
        refine x_nil (hK_36 _ _ ?_)
        refine w2_seq (fun K_37 hK_37 => ?_)
        refine w2_split (pe hs_4 rfl rfl) (fun h_4 => ?_) (fun h_4 => ?_)
        ·simp only [DD9] at h_4
         refine w2_skip ?_
         refine hK_37 _ _ ?_
         refine w2_seq (fun K_38 hK_38 => ?_)
         refine w2_block (fun K_39 hK_39 => ?_)
         refine w2_sr (fun K_40 hK_40 => ?_)
         refine q_mv ((pm rfl).trans ta_4_61) ?_
         refine q_at (pe hs_4 rfl rfl) ?_
         refine x_nil (hK_40 _ _ ?_)
         refine w2_sr (fun K_41 hK_41 => ?_)
         refine q_mv (pe hs_4 rfl rfl) ?_
         refine q_v 65 (.int .i64 ((K % 4 : Nat) : Int)) (o_rem (m := K) (n := 4) rfl (pe hs_4 rfl rfl) rfl (by omega) (IntWalk.i64_in _ (by omega))) ?_
         refine q_mv (pe hs_4 rfl rfl) ?_
         refine q_v 67 (.int .i64 ((K % 4 : Nat) : Int)) (o_rem (m := K) (n := 4) rfl (pe hs_4 rfl rfl) rfl (by omega) (IntWalk.i64_in _ (by omega))) ?_
         refine q_v 68 (.int .i64 ((4 + (K % 4) : Nat) : Int)) (o_add64 (m := 4) (n := (K % 4)) rfl rfl (pe hs_4 rfl rfl) (by omega)) ?_
         refine q_mv (pe hs_4 rfl rfl) ?_
         refine q_v 70 (.int .i64 ((K % 4 : Nat) : Int)) (o_rem (m := K) (n := 4) rfl (pe hs_4 rfl rfl) rfl (by omega) (IntWalk.i64_in _ (by omega))) ?_
         refine q_v 71 (.int .i64 ((8 + (K % 4) : Nat) : Int)) (o_add64 (m := 8) (n := (K % 4)) rfl rfl (pe hs_4 rfl rfl) (by omega)) ?_
         refine q_mv (pe hs_4 rfl rfl) ?_
         refine q_v 73 (.int .i64 ((K % 4 : Nat) : Int)) (o_rem (m := K) (n := 4) rfl (pe hs_4 rfl rfl) rfl (by omega) (IntWalk.i64_in _ (by omega))) ?_
         refine q_v 74 (.int .i64 ((12 + (K % 4) : Nat) : Int)) (o_add64 (m := 12) (n := (K % 4)) rfl rfl (pe hs_4 rfl rfl) (by omega)) ?_
         refine q_at (pe hs_4 rfl rfl) ?_
         refine q_at (pe hs_4 rfl rfl) ?_
         refine q_at (pe hs_4 rfl rfl) ?_
         refine q_at (pe hs_4 rfl rfl) ?_
         refine x_nil (hK_41 _ _ ?_)
         refine w2_seq (fun K_42 hK_42 => ?_)
         refine w2_sr (fun K_43 hK_43 => ?_)
         refine q_mv (pe hs_4 rfl rfl) ?_
         refine q_v 76 (.bool (decide (4 ≤ K))) (o_geq (m := K) (n := 4) rfl (pe hs_4 rfl rfl) rfl) ?_
         refine x_nil (hK_43 _ _ ?_)
         refine w2_split (pe hs_4 rfl rfl) (fun h_5 => ?_) (fun h_5 => ?_)
         ·simp only [DD9] at h_5
          refine x_region (by kernel_rfl) ?_
          refine q_mv (pe hs_4 rfl rfl) ?_
          refine q_v 78 (.int .i64 ((K + 1 : Nat) : Int)) (o_add64 (m := K) (n := 1) rfl (pe hs_4 rfl rfl) rfl (by omega)) ?_
          refine q_v 79 (.int .i64 (((K + 1) % 4 : Nat) : Int)) (o_rem (m := (K + 1)) (n := 4) rfl (pe hs_4 rfl rfl) rfl (by omega) (IntWalk.i64_in _ (by omega))) ?_
          refine q_v 80 (.int .i64 ((4 + ((K + 1) % 4) : Nat) : Int)) (o_add64 (m := 4) (n := ((K + 1) % 4)) rfl rfl (pe hs_4 rfl rfl) (by omega)) ?_
          refine q_mv (pe hs_4 rfl rfl) ?_
          refine q_v 82 (.int .i64 ((K + 2 : Nat) : Int)) (o_add64 (m := K) (n := 2) rfl (pe hs_4 rfl rfl) rfl (by omega)) ?_
          refine q_v 83 (.int .i64 (((K + 2) % 4 : Nat) : Int)) (o_rem (m := (K + 2)) (n := 4) rfl (pe hs_4 rfl rfl) rfl (by omega) (IntWalk.i64_in _ (by omega))) ?_
          refine q_v 84 (.int .i64 ((8 + ((K + 2) % 4) : Nat) : Int)) (o_add64 (m := 8) (n := ((K + 2) % 4)) rfl rfl (pe hs_4 rfl rfl) (by omega)) ?_
          refine q_mv (pe hs_4 rfl rfl) ?_
          refine q_v 86 (.int .i64 ((K + 3 : Nat) : Int)) (o_add64 (m := K) (n := 3) rfl (pe hs_4 rfl rfl) rfl (by omega)) ?_
          refine q_v 87 (.int .i64 (((K + 3) % 4 : Nat) : Int)) (o_rem (m := (K + 3)) (n := 4) rfl (pe hs_4 rfl rfl) rfl (by omega) (IntWalk.i64_in _ (by omega))) ?_
          refine q_v 88 (.int .i64 ((12 + ((K + 3) % 4) : Nat) : Int)) (o_add64 (m := 12) (n := ((K + 3) % 4)) rfl rfl (pe hs_4 rfl rfl) (by omega)) ?_
          refine q_at (pe hs_4 rfl rfl) ?_
          refine q_at (pe hs_4 rfl rfl) ?_
          refine q_at (pe hs_4 rfl rfl) ?_
          refine x_nil (hK_42 _ _ ?_)
          refine w2_seq (fun K_44 hK_44 => ?_)
          generalize hdd : 12 + ((K + 3) % 4) = dd
          generalize hcc : 8 + ((K + 2) % 4) = cc
          generalize hbb : 4 + ((K + 1) % 4) = bb
          generalize haa : K % 4 = aa
          obtain ⟨a0, ha0, la0⟩ : ∃ a, s.getD (aa) 0 = a ∧ a < 4294967296 := ⟨_, rfl, HS.get _⟩
          obtain ⟨b0, hb0, lb0⟩ : ∃ a, s.getD (bb) 0 = a ∧ a < 4294967296 := ⟨_, rfl, HS.get _⟩
          obtain ⟨c0, hc0, lc0⟩ : ∃ a, s.getD (cc) 0 = a ∧ a < 4294967296 := ⟨_, rfl, HS.get _⟩
          obtain ⟨d0, hd0, ld0⟩ : ∃ a, s.getD (dd) 0 = a ∧ a < 4294967296 := ⟨_, rfl, HS.get _⟩
          obtain ⟨p0, p1, p2, p3, hqr⟩ : ∃ p0 p1 p2 p3, qr a0 b0 c0 d0 = (p0, p1, p2, p3) := ⟨_, _, _, _, rfl⟩
          refine x_drawn2 21 [fun _ v => v = .int .i64 ((aa : Nat) : Int), fun _ v => v = .pointer (some ⟨g_2, aa, none⟩), fun _ v => v = .int .u32 ((a0 : Nat) : Int), fun _ v => v = .int .i64 ((bb : Nat) : Int), fun _ v => v = .pointer (some ⟨g_2, bb, none⟩), fun _ v => v = .int .u32 ((b0 : Nat) : Int), fun _ v => v = .int .i64 ((cc : Nat) : Int), fun _ v => v = .pointer (some ⟨g_2, cc, none⟩), fun _ v => v = .int .u32 ((c0 : Nat) : Int), fun _ v => v = .int .i64 ((dd : Nat) : Int), fun _ v => v = .pointer (some ⟨g_2, dd, none⟩), fun _ v => v = .int .u32 ((d0 : Nat) : Int), fun ww vv => vv = .tuple #[.int .u32 ((p0 : Nat) : Int), .int .u32 ((p1 : Nat) : Int), .int .u32 ((p2 : Nat) : Int), .int .u32 ((p3 : Nat) : Int)], fun _ v => v = .tuple #[.int .u32 ((p0 : Nat) : Int), .int .u32 ((p1 : Nat) : Int), .int .u32 ((p2 : Nat) : Int), .int .u32 ((p3 : Nat) : Int)], fun _ v => v = .int .u32 ((p0 : Nat) : Int), fun _ v => v = .int .u32 ((p1 : Nat) : Int), fun _ v => v = .int .u32 ((p2 : Nat) : Int), fun _ v => v = .int .u32 ((p3 : Nat) : Int), fun _ v => v = .int .u32 ((p0 : Nat) : Int), fun _ v => v = .int .u32 ((p1 : Nat) : Int), fun _ v => v = .int .u32 ((p2 : Nat) : Int)] [90, 91, 92, 93, 94, 95, 96, 97, 98, 99, 100, 101, 102, 89, 103, 104, 105, 106, 17, 18, 19] hs_4 hd_4 (by kernel_rfl) (by kernel_rfl) (by kernel_rfl) (by kernel_rfl) (by kernel_rfl) ⟨stLit, stLit, stLit, stLit, stLit, stLit, stLit, stLit, stLit, stLit, stLit, stLit, stLit, stLit, stLit, stLit, stLit, stLit, stLit, stLit, stLit, trivial⟩ ⟨(step_ok rfl (fun a' w' hb' hO hD => by
            have d_1 : a'.eval (.tmp 13) = .int .i64 ((aa : Nat) : Int) := (hO 13 (by decide)).trans (pe hs_4 rfl rfl)
            exact .inl ⟨_, _, (o_move rfl d_1), rfl, Below.refl _ _⟩)),
(step_ok rfl (fun a' w' hb' hO hD => by
            have d_2 := (hO 11 (by decide)).trans ((pm rfl).trans ta_4_11)
            have d_3 : a'.eval (.tmp 90) = .int .i64 ((aa : Nat) : Int) := hD 0 90 (by kernel_rfl) rfl
            exact .inl ⟨_, _, (zero_off (o_ixA (k := 0) (i := aa) (n := 16) (e := 57) rfl d_2 d_3 (by omega) (fun _ => by kernel_rfl) (fun _ => by kernel_rfl))), rfl, Below.refl _ _⟩)),
(step_ok rfl (fun a' w' hb' hO hD => by
            have d_4 : a'.eval (.tmp 91) = .pointer (some ⟨g_2, aa, none⟩) := hD 1 91 (by kernel_rfl) rfl
            exact .inl ⟨_, _, (o_loadW rfl d_4 (BS.nx hb') (by rw [hs16]; omega) ha0 ⟨by kernel_rfl, by kernel_rfl⟩), rfl, Below.refl _ _⟩)),
(step_ok rfl (fun a' w' hb' hO hD => by
            have d_5 : a'.eval (.tmp 14) = .int .i64 ((bb : Nat) : Int) := (hO 14 (by decide)).trans (pe hs_4 rfl rfl)
            exact .inl ⟨_, _, (o_move rfl d_5), rfl, Below.refl _ _⟩)),
(step_ok rfl (fun a' w' hb' hO hD => by
            have d_6 := (hO 11 (by decide)).trans ((pm rfl).trans ta_4_11)
            have d_7 : a'.eval (.tmp 93) = .int .i64 ((bb : Nat) : Int) := hD 3 93 (by kernel_rfl) rfl
            exact .inl ⟨_, _, (zero_off (o_ixA (k := 0) (i := bb) (n := 16) (e := 57) rfl d_6 d_7 (by omega) (fun _ => by kernel_rfl) (fun _ => by kernel_rfl))), rfl, Below.refl _ _⟩)),
(step_ok rfl (fun a' w' hb' hO hD => by
            have d_8 : a'.eval (.tmp 94) = .pointer (some ⟨g_2, bb, none⟩) := hD 4 94 (by kernel_rfl) rfl
            exact .inl ⟨_, _, (o_loadW rfl d_8 (BS.nx hb') (by rw [hs16]; omega) hb0 ⟨by kernel_rfl, by kernel_rfl⟩), rfl, Below.refl _ _⟩)),
(step_ok rfl (fun a' w' hb' hO hD => by
            have d_9 : a'.eval (.tmp 15) = .int .i64 ((cc : Nat) : Int) := (hO 15 (by decide)).trans (pe hs_4 rfl rfl)
            exact .inl ⟨_, _, (o_move rfl d_9), rfl, Below.refl _ _⟩)),
(step_ok rfl (fun a' w' hb' hO hD => by
            have d_10 := (hO 11 (by decide)).trans ((pm rfl).trans ta_4_11)
            have d_11 : a'.eval (.tmp 96) = .int .i64 ((cc : Nat) : Int) := hD 6 96 (by kernel_rfl) rfl
            exact .inl ⟨_, _, (zero_off (o_ixA (k := 0) (i := cc) (n := 16) (e := 57) rfl d_10 d_11 (by omega) (fun _ => by kernel_rfl) (fun _ => by kernel_rfl))), rfl, Below.refl _ _⟩)),
(step_ok rfl (fun a' w' hb' hO hD => by
            have d_12 : a'.eval (.tmp 97) = .pointer (some ⟨g_2, cc, none⟩) := hD 7 97 (by kernel_rfl) rfl
            exact .inl ⟨_, _, (o_loadW rfl d_12 (BS.nx hb') (by rw [hs16]; omega) hc0 ⟨by kernel_rfl, by kernel_rfl⟩), rfl, Below.refl _ _⟩)),
(step_ok rfl (fun a' w' hb' hO hD => by
            have d_13 : a'.eval (.tmp 16) = .int .i64 ((dd : Nat) : Int) := (hO 16 (by decide)).trans (pe hs_4 rfl rfl)
            exact .inl ⟨_, _, (o_move rfl d_13), rfl, Below.refl _ _⟩)),
(step_ok rfl (fun a' w' hb' hO hD => by
            have d_14 := (hO 11 (by decide)).trans ((pm rfl).trans ta_4_11)
            have d_15 : a'.eval (.tmp 99) = .int .i64 ((dd : Nat) : Int) := hD 9 99 (by kernel_rfl) rfl
            exact .inl ⟨_, _, (zero_off (o_ixA (k := 0) (i := dd) (n := 16) (e := 57) rfl d_14 d_15 (by omega) (fun _ => by kernel_rfl) (fun _ => by kernel_rfl))), rfl, Below.refl _ _⟩)),
(step_ok rfl (fun a' w' hb' hO hD => by
            have d_16 : a'.eval (.tmp 100) = .pointer (some ⟨g_2, dd, none⟩) := hD 10 100 (by kernel_rfl) rfl
            exact .inl ⟨_, _, (o_loadW rfl d_16 (BS.nx hb') (by rw [hs16]; omega) hd0 ⟨by kernel_rfl, by kernel_rfl⟩), rfl, Below.refl _ _⟩)),
(step_ok rfl (fun a' w' hb' hO hD => by
            have d_17 : a'.eval (.tmp 92) = .int .u32 ((a0 : Nat) : Int) := hD 2 92 (by kernel_rfl) rfl
            have d_18 : a'.eval (.tmp 95) = .int .u32 ((b0 : Nat) : Int) := hD 5 95 (by kernel_rfl) rfl
            have d_19 : a'.eval (.tmp 98) = .int .u32 ((c0 : Nat) : Int) := hD 8 98 (by kernel_rfl) rfl
            have d_20 : a'.eval (.tmp 101) = .int .u32 ((d0 : Nat) : Int) := hD 11 101 (by kernel_rfl) rfl
            exact .inr ⟨_, #[.int .u32 ((a0 : Nat) : Int), .int .u32 ((b0 : Nat) : Int), .int .u32 ((c0 : Nat) : Int), .int .u32 ((d0 : Nat) : Int)], (exec_call Try.func87 (by kernel_rfl) (by kernel_rfl) _ rfl _ _ (args4 d_17 d_18 d_19 d_20)), Calls.mono (QuarterW_eq _ hqr la0 lb0 lc0 ld0) (fun e w'' hR => by obtain ⟨rfl, rfl⟩ := hR; exact ⟨_, rfl, rfl, (Below.refl _ _)⟩)⟩)),
(step_ok rfl (fun a' w' hb' hO hD => by
            have d_21 : a'.eval (.tmp 102) = .tuple #[.int .u32 ((p0 : Nat) : Int), .int .u32 ((p1 : Nat) : Int), .int .u32 ((p2 : Nat) : Int), .int .u32 ((p3 : Nat) : Int)] := hD 12 102 (by kernel_rfl) rfl
            exact .inl ⟨_, _, (o_move rfl d_21), rfl, Below.refl _ _⟩)),
(step_ok rfl (fun a' w' hb' hO hD => by
            have d_22 : a'.eval (.tmp 89) = .tuple #[.int .u32 ((p0 : Nat) : Int), .int .u32 ((p1 : Nat) : Int), .int .u32 ((p2 : Nat) : Int), .int .u32 ((p3 : Nat) : Int)] := hD 13 89 (by kernel_rfl) rfl
            exact .inl ⟨_, _, (o_extract rfl d_22 rfl), rfl, Below.refl _ _⟩)),
(step_ok rfl (fun a' w' hb' hO hD => by
            have d_23 : a'.eval (.tmp 89) = .tuple #[.int .u32 ((p0 : Nat) : Int), .int .u32 ((p1 : Nat) : Int), .int .u32 ((p2 : Nat) : Int), .int .u32 ((p3 : Nat) : Int)] := hD 13 89 (by kernel_rfl) rfl
            exact .inl ⟨_, _, (o_extract rfl d_23 rfl), rfl, Below.refl _ _⟩)),
(step_ok rfl (fun a' w' hb' hO hD => by
            have d_24 : a'.eval (.tmp 89) = .tuple #[.int .u32 ((p0 : Nat) : Int), .int .u32 ((p1 : Nat) : Int), .int .u32 ((p2 : Nat) : Int), .int .u32 ((p3 : Nat) : Int)] := hD 13 89 (by kernel_rfl) rfl
            exact .inl ⟨_, _, (o_extract rfl d_24 rfl), rfl, Below.refl _ _⟩)),
(step_ok rfl (fun a' w' hb' hO hD => by
            have d_25 : a'.eval (.tmp 89) = .tuple #[.int .u32 ((p0 : Nat) : Int), .int .u32 ((p1 : Nat) : Int), .int .u32 ((p2 : Nat) : Int), .int .u32 ((p3 : Nat) : Int)] := hD 13 89 (by kernel_rfl) rfl
            exact .inl ⟨_, _, (o_extract rfl d_25 rfl), rfl, Below.refl _ _⟩)),
(step_ok rfl (fun a' w' hb' hO hD => by
            have d_26 : a'.eval (.tmp 103) = .int .u32 ((p0 : Nat) : Int) := hD 14 103 (by kernel_rfl) rfl
            exact .inl ⟨_, _, (o_assign rfl d_26), rfl, Below.refl _ _⟩)),
(step_ok rfl (fun a' w' hb' hO hD => by
            have d_27 : a'.eval (.tmp 104) = .int .u32 ((p1 : Nat) : Int) := hD 15 104 (by kernel_rfl) rfl
            exact .inl ⟨_, _, (o_assign rfl d_27), rfl, Below.refl _ _⟩)),
(step_ok rfl (fun a' w' hb' hO hD => by
            have d_28 : a'.eval (.tmp 105) = .int .u32 ((p2 : Nat) : Int) := hD 16 105 (by kernel_rfl) rfl
            exact .inl ⟨_, _, (o_assign rfl d_28), rfl, Below.refl _ _⟩)), trivial⟩ (fun a_5 w_14 hs_5 hd_5 hb_6 hO_1 hV_1 => ?_)
          have ta_5_0 := (hO_1 0 (by decide)).trans ((pm rfl).trans ta_4_0)
          have ta_5_1 := (hO_1 1 (by decide)).trans ((pm rfl).trans ta_4_1)
          have ta_5_2 := (hO_1 2 (by decide)).trans ((pm rfl).trans ta_4_2)
          have ta_5_6 := (hO_1 6 (by decide)).trans ((pm rfl).trans ta_4_6)
          have ta_5_7 := (hO_1 7 (by decide)).trans ((pm rfl).trans ta_4_7)
          have ta_5_23 := (hO_1 23 (by decide)).trans ((pm rfl).trans ta_4_23)
          have ta_5_24 := (hO_1 24 (by decide)).trans ((pm rfl).trans ta_4_24)
          have ta_5_25 := (hO_1 25 (by decide)).trans ((pm rfl).trans ta_4_25)
          have ta_5_26 := (hO_1 26 (by decide)).trans ((pm rfl).trans ta_4_26)
          have ta_5_27 := (hO_1 27 (by decide)).trans ((pm rfl).trans ta_4_27)
          have ta_5_28 := (hO_1 28 (by decide)).trans ((pm rfl).trans ta_4_28)
          have ta_5_29 := (hO_1 29 (by decide)).trans ((pm rfl).trans ta_4_29)
          have ta_5_30 := (hO_1 30 (by decide)).trans ((pm rfl).trans ta_4_30)
          have ta_5_31 := (hO_1 31 (by decide)).trans ((pm rfl).trans ta_4_31)
          have ta_5_8 := (hO_1 8 (by decide)).trans ((pm rfl).trans ta_4_8)
          have ta_5_32 := (hO_1 32 (by decide)).trans ((pm rfl).trans ta_4_32)
          have ta_5_33 := (hO_1 33 (by decide)).trans ((pm rfl).trans ta_4_33)
          have ta_5_44 := (hO_1 44 (by decide)).trans ((pm rfl).trans ta_4_44)
          have ta_5_45 := (hO_1 45 (by decide)).trans ((pm rfl).trans ta_4_45)
          have ta_5_46 := (hO_1 46 (by decide)).trans ((pm rfl).trans ta_4_46)
          have ta_5_47 := (hO_1 47 (by decide)).trans ((pm rfl).trans ta_4_47)
          have ta_5_58 := (hO_1 58 (by decide)).trans ((pm rfl).trans ta_4_58)
          have ta_5_11 := (hO_1 11 (by decide)).trans ((pm rfl).trans ta_4_11)
          have ta_5_59 := (hO_1 59 (by decide)).trans ((pm rfl).trans ta_4_59)
          have ta_5_60 := (hO_1 60 (by decide)).trans ((pm rfl).trans ta_4_60)
          have ta_5_61 := (hO_1 61 (by decide)).trans ((pm rfl).trans ta_4_61)
          have ta_5_13 : a_5.eval (.tmp 13) = .int .i64 ((aa : Nat) : Int) := (hO_1 13 (by decide)).trans (pe hs_4 rfl rfl)
          have ta_5_14 : a_5.eval (.tmp 14) = .int .i64 ((bb : Nat) : Int) := (hO_1 14 (by decide)).trans (pe hs_4 rfl rfl)
          have ta_5_15 : a_5.eval (.tmp 15) = .int .i64 ((cc : Nat) : Int) := (hO_1 15 (by decide)).trans (pe hs_4 rfl rfl)
          have ta_5_16 : a_5.eval (.tmp 16) = .int .i64 ((dd : Nat) : Int) := (hO_1 16 (by decide)).trans (pe hs_4 rfl rfl)
          clear ta_4_0 ta_4_1 ta_4_2 ta_4_6 ta_4_7 ta_4_23 ta_4_24 ta_4_25 ta_4_26 ta_4_27 ta_4_28 ta_4_29 ta_4_30 ta_4_31 ta_4_8 ta_4_32 ta_4_33 ta_4_44 ta_4_45 ta_4_46 ta_4_47 ta_4_58 ta_4_11 ta_4_59 ta_4_60 ta_4_61 hd_4
          replace BS := BS.nx hb_6
          replace BF := BF.nx hb_6
          have HB_7 := below_from HBL hb_6
          have ta_5_106 : a_5.eval (.tmp 106) = .int .u32 ((p3 : Nat) : Int) := hV_1 17 106 rfl rfl
          have ta_5_17 : a_5.eval (.tmp 17) = .int .u32 ((p0 : Nat) : Int) := hV_1 18 17 rfl rfl
          have ta_5_18 : a_5.eval (.tmp 18) = .int .u32 ((p1 : Nat) : Int) := hV_1 19 18 rfl rfl
          have ta_5_19 : a_5.eval (.tmp 19) = .int .u32 ((p2 : Nat) : Int) := hV_1 20 19 rfl rfl
          clear hV_1 hO_1
          simp only [List.drop_succ_cons, List.drop_zero]
          refine q_at ((pm rfl).trans ta_5_106) ?_
          refine x_nil (hK_44 _ _ ?_)
          refine x_region (by kernel_rfl) ?_
          refine q_mv ((pm rfl).trans ta_5_13) ?_
          refine q_mv ((pm rfl).trans ta_5_14) ?_
          refine q_mv ((pm rfl).trans ta_5_15) ?_
          refine q_mv ((pm rfl).trans ta_5_16) ?_
          refine q_mv ((pm rfl).trans ta_5_17) ?_
          refine q_mv ((pm rfl).trans ta_5_18) ?_
          refine q_mv ((pm rfl).trans ta_5_19) ?_
          refine q_mv (pe hs_5 rfl rfl) ?_
          refine op_val (d := 115) (v := .pointer (some ⟨g_2, aa, none⟩)) rfl rfl (zero_off (o_ixA (k := 0) (i := aa) (n := 16) (e := 57) rfl ((pm rfl).trans ta_5_11) (pe hs_5 rfl rfl) (by omega) (fun _ => by kernel_rfl) (fun _ => by kernel_rfl))) ?_
          refine op_do rfl rfl (o_storeW rfl (pe hs_5 rfl rfl) (pe hs_5 rfl rfl) BS (by rw [hs16]; omega) ⟨by kernel_rfl, by kernel_rfl⟩) (fun w_15 hR_10 => ?_)
          obtain ⟨hB_8, hX_6⟩ := hR_10
          replace BF := hX_6.blk BF ne_1
          have HB_8 := hX_6.below HB_7 HB_7.size (fun k hk => hk ▸ ge_2)
          clear BS
          refine op_val (d := 116) (v := .pointer (some ⟨g_2, bb, none⟩)) rfl rfl (zero_off (o_ixA (k := 0) (i := bb) (n := 16) (e := 57) rfl ((pm rfl).trans ta_5_11) (pe hs_5 rfl rfl) (by omega) (fun _ => by kernel_rfl) (fun _ => by kernel_rfl))) ?_
          refine op_do rfl rfl (o_storeW rfl (pe hs_5 rfl rfl) (pe hs_5 rfl rfl) hB_8 (by simp only [List.length_set, hs16]; omega) ⟨by kernel_rfl, by kernel_rfl⟩) (fun w_16 hR_11 => ?_)
          obtain ⟨hB_9, hX_7⟩ := hR_11
          replace BF := hX_7.blk BF ne_1
          have HB_9 := hX_7.below HB_8 HB_8.size (fun k hk => hk ▸ ge_2)
          clear hB_8
          refine op_val (d := 117) (v := .pointer (some ⟨g_2, cc, none⟩)) rfl rfl (zero_off (o_ixA (k := 0) (i := cc) (n := 16) (e := 57) rfl ((pm rfl).trans ta_5_11) (pe hs_5 rfl rfl) (by omega) (fun _ => by kernel_rfl) (fun _ => by kernel_rfl))) ?_
          refine op_do rfl rfl (o_storeW rfl (pe hs_5 rfl rfl) (pe hs_5 rfl rfl) hB_9 (by simp only [List.length_set, List.length_set, hs16]; omega) ⟨by kernel_rfl, by kernel_rfl⟩) (fun w_17 hR_12 => ?_)
          obtain ⟨hB_10, hX_8⟩ := hR_12
          replace BF := hX_8.blk BF ne_1
          have HB_10 := hX_8.below HB_9 HB_9.size (fun k hk => hk ▸ ge_2)
          clear hB_9
          refine op_val (d := 118) (v := .pointer (some ⟨g_2, dd, none⟩)) rfl rfl (zero_off (o_ixA (k := 0) (i := dd) (n := 16) (e := 57) rfl ((pm rfl).trans ta_5_11) (pe hs_5 rfl rfl) (by omega) (fun _ => by kernel_rfl) (fun _ => by kernel_rfl))) ?_
          refine op_do rfl rfl (o_storeW rfl (pe hs_5 rfl rfl) (pe hs_5 rfl rfl) hB_10 (by simp only [List.length_set, List.length_set, List.length_set, hs16]; omega) ⟨by kernel_rfl, by kernel_rfl⟩) (fun w_18 hR_13 => ?_)
          obtain ⟨hB_11, hX_9⟩ := hR_13
          replace BF := hX_9.blk BF ne_1
          have HB_11 := hX_9.below HB_10 HB_10.size (fun k hk => hk ▸ ge_2)
          clear hB_10
          refine x_nil (hK_39 _ _ ?_)
          refine hK_38 _ _ ?_
          refine x_region (by kernel_rfl) ?_
          refine q_v 119 (.int .i64 ((K + 1 : Nat) : Int)) (o_add64 (m := K) (n := 1) rfl ((pm rfl).trans ta_5_61) rfl (by omega)) ?_
          refine q_mv (pe hs_5 rfl rfl) ?_
          refine x_nil ?_
          refine hK_35 _ _ _ ⟨K + 1, rfl, (by rw [putsR_size]; exact hs_5), (by rw [putsR_defers]; exact hd_5), ((pm rfl).trans ta_5_0), ((pm rfl).trans ta_5_1), ((pm rfl).trans ta_5_2), ((pm rfl).trans ta_5_6), ((pm rfl).trans ta_5_7), ((pm rfl).trans ta_5_8), ((pm rfl).trans ta_5_11), ((pm rfl).trans ta_5_23), ((pm rfl).trans ta_5_24), ((pm rfl).trans ta_5_25), ((pm rfl).trans ta_5_26), ((pm rfl).trans ta_5_27), ((pm rfl).trans ta_5_28), ((pm rfl).trans ta_5_29), ((pm rfl).trans ta_5_30), ((pm rfl).trans ta_5_31), ((pm rfl).trans ta_5_32), ((pm rfl).trans ta_5_33), ((pm rfl).trans ta_5_44), ((pm rfl).trans ta_5_45), ((pm rfl).trans ta_5_46), ((pm rfl).trans ta_5_47), ((pm rfl).trans ta_5_58), ((pm rfl).trans ta_5_59), ((pm rfl).trans ta_5_60), (pe hs_5 rfl rfl), (by omega), (by rw [stpW, if_neg (show ¬ K < 4 by omega), hbb, hcc, hdd, hs, show K - 4 = aa by omega, qrAt_eq (a := p0) (b := p1) (c := p2) (d := p3) (by rw [ha0, hb0, hc0, hd0]; exact hqr)]; exact hB_11), BF, HB_11⟩ ?_
          omega
         ·simp only [DD9] at h_5
          refine w2_skip ?_
          refine hK_42 _ _ ?_
          refine w2_seq (fun K_45 hK_45 => ?_)
          generalize hdd : 12 + (K % 4) = dd
          generalize hcc : 8 + (K % 4) = cc
          generalize hbb : 4 + (K % 4) = bb
          generalize haa : K % 4 = aa
          obtain ⟨a0, ha0, la0⟩ : ∃ a, s.getD (aa) 0 = a ∧ a < 4294967296 := ⟨_, rfl, HS.get _⟩
          obtain ⟨b0, hb0, lb0⟩ : ∃ a, s.getD (bb) 0 = a ∧ a < 4294967296 := ⟨_, rfl, HS.get _⟩
          obtain ⟨c0, hc0, lc0⟩ : ∃ a, s.getD (cc) 0 = a ∧ a < 4294967296 := ⟨_, rfl, HS.get _⟩
          obtain ⟨d0, hd0, ld0⟩ : ∃ a, s.getD (dd) 0 = a ∧ a < 4294967296 := ⟨_, rfl, HS.get _⟩
          obtain ⟨p0, p1, p2, p3, hqr⟩ : ∃ p0 p1 p2 p3, qr a0 b0 c0 d0 = (p0, p1, p2, p3) := ⟨_, _, _, _, rfl⟩
          refine x_drawn2 21 [fun _ v => v = .int .i64 ((aa : Nat) : Int), fun _ v => v = .pointer (some ⟨g_2, aa, none⟩), fun _ v => v = .int .u32 ((a0 : Nat) : Int), fun _ v => v = .int .i64 ((bb : Nat) : Int), fun _ v => v = .pointer (some ⟨g_2, bb, none⟩), fun _ v => v = .int .u32 ((b0 : Nat) : Int), fun _ v => v = .int .i64 ((cc : Nat) : Int), fun _ v => v = .pointer (some ⟨g_2, cc, none⟩), fun _ v => v = .int .u32 ((c0 : Nat) : Int), fun _ v => v = .int .i64 ((dd : Nat) : Int), fun _ v => v = .pointer (some ⟨g_2, dd, none⟩), fun _ v => v = .int .u32 ((d0 : Nat) : Int), fun ww vv => vv = .tuple #[.int .u32 ((p0 : Nat) : Int), .int .u32 ((p1 : Nat) : Int), .int .u32 ((p2 : Nat) : Int), .int .u32 ((p3 : Nat) : Int)], fun _ v => v = .tuple #[.int .u32 ((p0 : Nat) : Int), .int .u32 ((p1 : Nat) : Int), .int .u32 ((p2 : Nat) : Int), .int .u32 ((p3 : Nat) : Int)], fun _ v => v = .int .u32 ((p0 : Nat) : Int), fun _ v => v = .int .u32 ((p1 : Nat) : Int), fun _ v => v = .int .u32 ((p2 : Nat) : Int), fun _ v => v = .int .u32 ((p3 : Nat) : Int), fun _ v => v = .int .u32 ((p0 : Nat) : Int), fun _ v => v = .int .u32 ((p1 : Nat) : Int), fun _ v => v = .int .u32 ((p2 : Nat) : Int)] [90, 91, 92, 93, 94, 95, 96, 97, 98, 99, 100, 101, 102, 89, 103, 104, 105, 106, 17, 18, 19] hs_4 hd_4 (by kernel_rfl) (by kernel_rfl) (by kernel_rfl) (by kernel_rfl) (by kernel_rfl) ⟨stLit, stLit, stLit, stLit, stLit, stLit, stLit, stLit, stLit, stLit, stLit, stLit, stLit, stLit, stLit, stLit, stLit, stLit, stLit, stLit, stLit, trivial⟩ ⟨(step_ok rfl (fun a' w' hb' hO hD => by
            have d_29 : a'.eval (.tmp 13) = .int .i64 ((aa : Nat) : Int) := (hO 13 (by decide)).trans (pe hs_4 rfl rfl)
            exact .inl ⟨_, _, (o_move rfl d_29), rfl, Below.refl _ _⟩)),
(step_ok rfl (fun a' w' hb' hO hD => by
            have d_30 := (hO 11 (by decide)).trans ((pm rfl).trans ta_4_11)
            have d_31 : a'.eval (.tmp 90) = .int .i64 ((aa : Nat) : Int) := hD 0 90 (by kernel_rfl) rfl
            exact .inl ⟨_, _, (zero_off (o_ixA (k := 0) (i := aa) (n := 16) (e := 57) rfl d_30 d_31 (by omega) (fun _ => by kernel_rfl) (fun _ => by kernel_rfl))), rfl, Below.refl _ _⟩)),
(step_ok rfl (fun a' w' hb' hO hD => by
            have d_32 : a'.eval (.tmp 91) = .pointer (some ⟨g_2, aa, none⟩) := hD 1 91 (by kernel_rfl) rfl
            exact .inl ⟨_, _, (o_loadW rfl d_32 (BS.nx hb') (by rw [hs16]; omega) ha0 ⟨by kernel_rfl, by kernel_rfl⟩), rfl, Below.refl _ _⟩)),
(step_ok rfl (fun a' w' hb' hO hD => by
            have d_33 : a'.eval (.tmp 14) = .int .i64 ((bb : Nat) : Int) := (hO 14 (by decide)).trans (pe hs_4 rfl rfl)
            exact .inl ⟨_, _, (o_move rfl d_33), rfl, Below.refl _ _⟩)),
(step_ok rfl (fun a' w' hb' hO hD => by
            have d_34 := (hO 11 (by decide)).trans ((pm rfl).trans ta_4_11)
            have d_35 : a'.eval (.tmp 93) = .int .i64 ((bb : Nat) : Int) := hD 3 93 (by kernel_rfl) rfl
            exact .inl ⟨_, _, (zero_off (o_ixA (k := 0) (i := bb) (n := 16) (e := 57) rfl d_34 d_35 (by omega) (fun _ => by kernel_rfl) (fun _ => by kernel_rfl))), rfl, Below.refl _ _⟩)),
(step_ok rfl (fun a' w' hb' hO hD => by
            have d_36 : a'.eval (.tmp 94) = .pointer (some ⟨g_2, bb, none⟩) := hD 4 94 (by kernel_rfl) rfl
            exact .inl ⟨_, _, (o_loadW rfl d_36 (BS.nx hb') (by rw [hs16]; omega) hb0 ⟨by kernel_rfl, by kernel_rfl⟩), rfl, Below.refl _ _⟩)),
(step_ok rfl (fun a' w' hb' hO hD => by
            have d_37 : a'.eval (.tmp 15) = .int .i64 ((cc : Nat) : Int) := (hO 15 (by decide)).trans (pe hs_4 rfl rfl)
            exact .inl ⟨_, _, (o_move rfl d_37), rfl, Below.refl _ _⟩)),
(step_ok rfl (fun a' w' hb' hO hD => by
            have d_38 := (hO 11 (by decide)).trans ((pm rfl).trans ta_4_11)
            have d_39 : a'.eval (.tmp 96) = .int .i64 ((cc : Nat) : Int) := hD 6 96 (by kernel_rfl) rfl
            exact .inl ⟨_, _, (zero_off (o_ixA (k := 0) (i := cc) (n := 16) (e := 57) rfl d_38 d_39 (by omega) (fun _ => by kernel_rfl) (fun _ => by kernel_rfl))), rfl, Below.refl _ _⟩)),
(step_ok rfl (fun a' w' hb' hO hD => by
            have d_40 : a'.eval (.tmp 97) = .pointer (some ⟨g_2, cc, none⟩) := hD 7 97 (by kernel_rfl) rfl
            exact .inl ⟨_, _, (o_loadW rfl d_40 (BS.nx hb') (by rw [hs16]; omega) hc0 ⟨by kernel_rfl, by kernel_rfl⟩), rfl, Below.refl _ _⟩)),
(step_ok rfl (fun a' w' hb' hO hD => by
            have d_41 : a'.eval (.tmp 16) = .int .i64 ((dd : Nat) : Int) := (hO 16 (by decide)).trans (pe hs_4 rfl rfl)
            exact .inl ⟨_, _, (o_move rfl d_41), rfl, Below.refl _ _⟩)),
(step_ok rfl (fun a' w' hb' hO hD => by
            have d_42 := (hO 11 (by decide)).trans ((pm rfl).trans ta_4_11)
            have d_43 : a'.eval (.tmp 99) = .int .i64 ((dd : Nat) : Int) := hD 9 99 (by kernel_rfl) rfl
            exact .inl ⟨_, _, (zero_off (o_ixA (k := 0) (i := dd) (n := 16) (e := 57) rfl d_42 d_43 (by omega) (fun _ => by kernel_rfl) (fun _ => by kernel_rfl))), rfl, Below.refl _ _⟩)),
(step_ok rfl (fun a' w' hb' hO hD => by
            have d_44 : a'.eval (.tmp 100) = .pointer (some ⟨g_2, dd, none⟩) := hD 10 100 (by kernel_rfl) rfl
            exact .inl ⟨_, _, (o_loadW rfl d_44 (BS.nx hb') (by rw [hs16]; omega) hd0 ⟨by kernel_rfl, by kernel_rfl⟩), rfl, Below.refl _ _⟩)),
(step_ok rfl (fun a' w' hb' hO hD => by
            have d_45 : a'.eval (.tmp 92) = .int .u32 ((a0 : Nat) : Int) := hD 2 92 (by kernel_rfl) rfl
            have d_46 : a'.eval (.tmp 95) = .int .u32 ((b0 : Nat) : Int) := hD 5 95 (by kernel_rfl) rfl
            have d_47 : a'.eval (.tmp 98) = .int .u32 ((c0 : Nat) : Int) := hD 8 98 (by kernel_rfl) rfl
            have d_48 : a'.eval (.tmp 101) = .int .u32 ((d0 : Nat) : Int) := hD 11 101 (by kernel_rfl) rfl
            exact .inr ⟨_, #[.int .u32 ((a0 : Nat) : Int), .int .u32 ((b0 : Nat) : Int), .int .u32 ((c0 : Nat) : Int), .int .u32 ((d0 : Nat) : Int)], (exec_call Try.func87 (by kernel_rfl) (by kernel_rfl) _ rfl _ _ (args4 d_45 d_46 d_47 d_48)), Calls.mono (QuarterW_eq _ hqr la0 lb0 lc0 ld0) (fun e w'' hR => by obtain ⟨rfl, rfl⟩ := hR; exact ⟨_, rfl, rfl, (Below.refl _ _)⟩)⟩)),
(step_ok rfl (fun a' w' hb' hO hD => by
            have d_49 : a'.eval (.tmp 102) = .tuple #[.int .u32 ((p0 : Nat) : Int), .int .u32 ((p1 : Nat) : Int), .int .u32 ((p2 : Nat) : Int), .int .u32 ((p3 : Nat) : Int)] := hD 12 102 (by kernel_rfl) rfl
            exact .inl ⟨_, _, (o_move rfl d_49), rfl, Below.refl _ _⟩)),
(step_ok rfl (fun a' w' hb' hO hD => by
            have d_50 : a'.eval (.tmp 89) = .tuple #[.int .u32 ((p0 : Nat) : Int), .int .u32 ((p1 : Nat) : Int), .int .u32 ((p2 : Nat) : Int), .int .u32 ((p3 : Nat) : Int)] := hD 13 89 (by kernel_rfl) rfl
            exact .inl ⟨_, _, (o_extract rfl d_50 rfl), rfl, Below.refl _ _⟩)),
(step_ok rfl (fun a' w' hb' hO hD => by
            have d_51 : a'.eval (.tmp 89) = .tuple #[.int .u32 ((p0 : Nat) : Int), .int .u32 ((p1 : Nat) : Int), .int .u32 ((p2 : Nat) : Int), .int .u32 ((p3 : Nat) : Int)] := hD 13 89 (by kernel_rfl) rfl
            exact .inl ⟨_, _, (o_extract rfl d_51 rfl), rfl, Below.refl _ _⟩)),
(step_ok rfl (fun a' w' hb' hO hD => by
            have d_52 : a'.eval (.tmp 89) = .tuple #[.int .u32 ((p0 : Nat) : Int), .int .u32 ((p1 : Nat) : Int), .int .u32 ((p2 : Nat) : Int), .int .u32 ((p3 : Nat) : Int)] := hD 13 89 (by kernel_rfl) rfl
            exact .inl ⟨_, _, (o_extract rfl d_52 rfl), rfl, Below.refl _ _⟩)),
(step_ok rfl (fun a' w' hb' hO hD => by
            have d_53 : a'.eval (.tmp 89) = .tuple #[.int .u32 ((p0 : Nat) : Int), .int .u32 ((p1 : Nat) : Int), .int .u32 ((p2 : Nat) : Int), .int .u32 ((p3 : Nat) : Int)] := hD 13 89 (by kernel_rfl) rfl
            exact .inl ⟨_, _, (o_extract rfl d_53 rfl), rfl, Below.refl _ _⟩)),
(step_ok rfl (fun a' w' hb' hO hD => by
            have d_54 : a'.eval (.tmp 103) = .int .u32 ((p0 : Nat) : Int) := hD 14 103 (by kernel_rfl) rfl
            exact .inl ⟨_, _, (o_assign rfl d_54), rfl, Below.refl _ _⟩)),
(step_ok rfl (fun a' w' hb' hO hD => by
            have d_55 : a'.eval (.tmp 104) = .int .u32 ((p1 : Nat) : Int) := hD 15 104 (by kernel_rfl) rfl
            exact .inl ⟨_, _, (o_assign rfl d_55), rfl, Below.refl _ _⟩)),
(step_ok rfl (fun a' w' hb' hO hD => by
            have d_56 : a'.eval (.tmp 105) = .int .u32 ((p2 : Nat) : Int) := hD 16 105 (by kernel_rfl) rfl
            exact .inl ⟨_, _, (o_assign rfl d_56), rfl, Below.refl _ _⟩)), trivial⟩ (fun a_6 w_19 hs_6 hd_6 hb_8 hO_2 hV_2 => ?_)
          have ta_6_0 := (hO_2 0 (by decide)).trans ((pm rfl).trans ta_4_0)
          have ta_6_1 := (hO_2 1 (by decide)).trans ((pm rfl).trans ta_4_1)
          have ta_6_2 := (hO_2 2 (by decide)).trans ((pm rfl).trans ta_4_2)
          have ta_6_6 := (hO_2 6 (by decide)).trans ((pm rfl).trans ta_4_6)
          have ta_6_7 := (hO_2 7 (by decide)).trans ((pm rfl).trans ta_4_7)
          have ta_6_23 := (hO_2 23 (by decide)).trans ((pm rfl).trans ta_4_23)
          have ta_6_24 := (hO_2 24 (by decide)).trans ((pm rfl).trans ta_4_24)
          have ta_6_25 := (hO_2 25 (by decide)).trans ((pm rfl).trans ta_4_25)
          have ta_6_26 := (hO_2 26 (by decide)).trans ((pm rfl).trans ta_4_26)
          have ta_6_27 := (hO_2 27 (by decide)).trans ((pm rfl).trans ta_4_27)
          have ta_6_28 := (hO_2 28 (by decide)).trans ((pm rfl).trans ta_4_28)
          have ta_6_29 := (hO_2 29 (by decide)).trans ((pm rfl).trans ta_4_29)
          have ta_6_30 := (hO_2 30 (by decide)).trans ((pm rfl).trans ta_4_30)
          have ta_6_31 := (hO_2 31 (by decide)).trans ((pm rfl).trans ta_4_31)
          have ta_6_8 := (hO_2 8 (by decide)).trans ((pm rfl).trans ta_4_8)
          have ta_6_32 := (hO_2 32 (by decide)).trans ((pm rfl).trans ta_4_32)
          have ta_6_33 := (hO_2 33 (by decide)).trans ((pm rfl).trans ta_4_33)
          have ta_6_44 := (hO_2 44 (by decide)).trans ((pm rfl).trans ta_4_44)
          have ta_6_45 := (hO_2 45 (by decide)).trans ((pm rfl).trans ta_4_45)
          have ta_6_46 := (hO_2 46 (by decide)).trans ((pm rfl).trans ta_4_46)
          have ta_6_47 := (hO_2 47 (by decide)).trans ((pm rfl).trans ta_4_47)
          have ta_6_58 := (hO_2 58 (by decide)).trans ((pm rfl).trans ta_4_58)
          have ta_6_11 := (hO_2 11 (by decide)).trans ((pm rfl).trans ta_4_11)
          have ta_6_59 := (hO_2 59 (by decide)).trans ((pm rfl).trans ta_4_59)
          have ta_6_60 := (hO_2 60 (by decide)).trans ((pm rfl).trans ta_4_60)
          have ta_6_61 := (hO_2 61 (by decide)).trans ((pm rfl).trans ta_4_61)
          have ta_6_13 : a_6.eval (.tmp 13) = .int .i64 ((aa : Nat) : Int) := (hO_2 13 (by decide)).trans (pe hs_4 rfl rfl)
          have ta_6_14 : a_6.eval (.tmp 14) = .int .i64 ((bb : Nat) : Int) := (hO_2 14 (by decide)).trans (pe hs_4 rfl rfl)
          have ta_6_15 : a_6.eval (.tmp 15) = .int .i64 ((cc : Nat) : Int) := (hO_2 15 (by decide)).trans (pe hs_4 rfl rfl)
          have ta_6_16 : a_6.eval (.tmp 16) = .int .i64 ((dd : Nat) : Int) := (hO_2 16 (by decide)).trans (pe hs_4 rfl rfl)
          clear ta_4_0 ta_4_1 ta_4_2 ta_4_6 ta_4_7 ta_4_23 ta_4_24 ta_4_25 ta_4_26 ta_4_27 ta_4_28 ta_4_29 ta_4_30 ta_4_31 ta_4_8 ta_4_32 ta_4_33 ta_4_44 ta_4_45 ta_4_46 ta_4_47 ta_4_58 ta_4_11 ta_4_59 ta_4_60 ta_4_61 hd_4
          replace BS := BS.nx hb_8
          replace BF := BF.nx hb_8
          have HB_12 := below_from HBL hb_8
          have ta_6_106 : a_6.eval (.tmp 106) = .int .u32 ((p3 : Nat) : Int) := hV_2 17 106 rfl rfl
          have ta_6_17 : a_6.eval (.tmp 17) = .int .u32 ((p0 : Nat) : Int) := hV_2 18 17 rfl rfl
          have ta_6_18 : a_6.eval (.tmp 18) = .int .u32 ((p1 : Nat) : Int) := hV_2 19 18 rfl rfl
          have ta_6_19 : a_6.eval (.tmp 19) = .int .u32 ((p2 : Nat) : Int) := hV_2 20 19 rfl rfl
          clear hV_2 hO_2
          simp only [List.drop_succ_cons, List.drop_zero]
          refine q_at ((pm rfl).trans ta_6_106) ?_
          refine x_nil (hK_45 _ _ ?_)
          refine x_region (by kernel_rfl) ?_
          refine q_mv ((pm rfl).trans ta_6_13) ?_
          refine q_mv ((pm rfl).trans ta_6_14) ?_
          refine q_mv ((pm rfl).trans ta_6_15) ?_
          refine q_mv ((pm rfl).trans ta_6_16) ?_
          refine q_mv ((pm rfl).trans ta_6_17) ?_
          refine q_mv ((pm rfl).trans ta_6_18) ?_
          refine q_mv ((pm rfl).trans ta_6_19) ?_
          refine q_mv (pe hs_6 rfl rfl) ?_
          refine op_val (d := 115) (v := .pointer (some ⟨g_2, aa, none⟩)) rfl rfl (zero_off (o_ixA (k := 0) (i := aa) (n := 16) (e := 57) rfl ((pm rfl).trans ta_6_11) (pe hs_6 rfl rfl) (by omega) (fun _ => by kernel_rfl) (fun _ => by kernel_rfl))) ?_
          refine op_do rfl rfl (o_storeW rfl (pe hs_6 rfl rfl) (pe hs_6 rfl rfl) BS (by rw [hs16]; omega) ⟨by kernel_rfl, by kernel_rfl⟩) (fun w_20 hR_14 => ?_)
          obtain ⟨hB_12, hX_10⟩ := hR_14
          replace BF := hX_10.blk BF ne_1
          have HB_13 := hX_10.below HB_12 HB_12.size (fun k hk => hk ▸ ge_2)
          clear BS
          refine op_val (d := 116) (v := .pointer (some ⟨g_2, bb, none⟩)) rfl rfl (zero_off (o_ixA (k := 0) (i := bb) (n := 16) (e := 57) rfl ((pm rfl).trans ta_6_11) (pe hs_6 rfl rfl) (by omega) (fun _ => by kernel_rfl) (fun _ => by kernel_rfl))) ?_
          refine op_do rfl rfl (o_storeW rfl (pe hs_6 rfl rfl) (pe hs_6 rfl rfl) hB_12 (by simp only [List.length_set, hs16]; omega) ⟨by kernel_rfl, by kernel_rfl⟩) (fun w_21 hR_15 => ?_)
          obtain ⟨hB_13, hX_11⟩ := hR_15
          replace BF := hX_11.blk BF ne_1
          have HB_14 := hX_11.below HB_13 HB_13.size (fun k hk => hk ▸ ge_2)
          clear hB_12
          refine op_val (d := 117) (v := .pointer (some ⟨g_2, cc, none⟩)) rfl rfl (zero_off (o_ixA (k := 0) (i := cc) (n := 16) (e := 57) rfl ((pm rfl).trans ta_6_11) (pe hs_6 rfl rfl) (by omega) (fun _ => by kernel_rfl) (fun _ => by kernel_rfl))) ?_
          refine op_do rfl rfl (o_storeW rfl (pe hs_6 rfl rfl) (pe hs_6 rfl rfl) hB_13 (by simp only [List.length_set, List.length_set, hs16]; omega) ⟨by kernel_rfl, by kernel_rfl⟩) (fun w_22 hR_16 => ?_)
          obtain ⟨hB_14, hX_12⟩ := hR_16
          replace BF := hX_12.blk BF ne_1
          have HB_15 := hX_12.below HB_14 HB_14.size (fun k hk => hk ▸ ge_2)
          clear hB_13
          refine op_val (d := 118) (v := .pointer (some ⟨g_2, dd, none⟩)) rfl rfl (zero_off (o_ixA (k := 0) (i := dd) (n := 16) (e := 57) rfl ((pm rfl).trans ta_6_11) (pe hs_6 rfl rfl) (by omega) (fun _ => by kernel_rfl) (fun _ => by kernel_rfl))) ?_
          refine op_do rfl rfl (o_storeW rfl (pe hs_6 rfl rfl) (pe hs_6 rfl rfl) hB_14 (by simp only [List.length_set, List.length_set, List.length_set, hs16]; omega) ⟨by kernel_rfl, by kernel_rfl⟩) (fun w_23 hR_17 => ?_)
          obtain ⟨hB_15, hX_13⟩ := hR_17
          replace BF := hX_13.blk BF ne_1
          have HB_16 := hX_13.below HB_15 HB_15.size (fun k hk => hk ▸ ge_2)
          clear hB_14
          refine x_nil (hK_39 _ _ ?_)
          refine hK_38 _ _ ?_
          refine x_region (by kernel_rfl) ?_
          refine q_v 119 (.int .i64 ((K + 1 : Nat) : Int)) (o_add64 (m := K) (n := 1) rfl ((pm rfl).trans ta_6_61) rfl (by omega)) ?_
          refine q_mv (pe hs_6 rfl rfl) ?_
          refine x_nil ?_
          refine hK_35 _ _ _ ⟨K + 1, rfl, (by rw [putsR_size]; exact hs_6), (by rw [putsR_defers]; exact hd_6), ((pm rfl).trans ta_6_0), ((pm rfl).trans ta_6_1), ((pm rfl).trans ta_6_2), ((pm rfl).trans ta_6_6), ((pm rfl).trans ta_6_7), ((pm rfl).trans ta_6_8), ((pm rfl).trans ta_6_11), ((pm rfl).trans ta_6_23), ((pm rfl).trans ta_6_24), ((pm rfl).trans ta_6_25), ((pm rfl).trans ta_6_26), ((pm rfl).trans ta_6_27), ((pm rfl).trans ta_6_28), ((pm rfl).trans ta_6_29), ((pm rfl).trans ta_6_30), ((pm rfl).trans ta_6_31), ((pm rfl).trans ta_6_32), ((pm rfl).trans ta_6_33), ((pm rfl).trans ta_6_44), ((pm rfl).trans ta_6_45), ((pm rfl).trans ta_6_46), ((pm rfl).trans ta_6_47), ((pm rfl).trans ta_6_58), ((pm rfl).trans ta_6_59), ((pm rfl).trans ta_6_60), (pe hs_6 rfl rfl), (by omega), (by rw [stpW, if_pos (show K < 4 by omega), show 12 + K = dd by omega, show 8 + K = cc by omega, show 4 + K = bb by omega, hs, show K = aa by omega, qrAt_eq (a := p0) (b := p1) (c := p2) (d := p3) (by rw [ha0, hb0, hc0, hd0]; exact hqr)]; exact hB_15), BF, HB_16⟩ ?_
          omega
        ·simp only [DD9] at h_4
         obtain rfl : K = 8 := by omega
         refine w2_exit ?_
         refine thn_exit ?_
         refine thn_exit ?_
         refine exb_hit ?_
         refine hK_34 _ _ ?_
         refine hK_32 _ _ ?_
         refine hK_31 _ _ ?_
         refine x_region (by kernel_rfl) ?_
         refine q_v 120 (.int .i64 ((R + 1 : Nat) : Int)) (o_add64 (m := R) (n := 1) rfl ((pm rfl).trans ta_4_59) rfl (by omega)) ?_
         refine q_mv (pe hs_4 rfl rfl) ?_
         refine x_nil ?_
         refine hK_28 _ _ _ ⟨R + 1, rfl, (by rw [putsR_size]; exact hs_4), (by rw [putsR_defers]; exact hd_4), ((pm rfl).trans ta_4_0), ((pm rfl).trans ta_4_1), ((pm rfl).trans ta_4_2), ((pm rfl).trans ta_4_6), ((pm rfl).trans ta_4_7), ((pm rfl).trans ta_4_8), ((pm rfl).trans ta_4_11), ((pm rfl).trans ta_4_23), ((pm rfl).trans ta_4_24), ((pm rfl).trans ta_4_25), ((pm rfl).trans ta_4_26), ((pm rfl).trans ta_4_27), ((pm rfl).trans ta_4_28), ((pm rfl).trans ta_4_29), ((pm rfl).trans ta_4_30), ((pm rfl).trans ta_4_31), ((pm rfl).trans ta_4_32), ((pm rfl).trans ta_4_33), ((pm rfl).trans ta_4_44), ((pm rfl).trans ta_4_45), ((pm rfl).trans ta_4_46), ((pm rfl).trans ta_4_47), ((pm rfl).trans ta_4_58), (pe hs_4 rfl rfl), (by omega), (by rw [dbls, hs1, ← stpW_8, hs]; exact BS), BF, HBL⟩ ?_
         omega
      ·simp only [DD9] at h_3
       obtain rfl : R = 10 := by omega
       refine w2_exit ?_
       refine thn_exit ?_
       refine thn_exit ?_
       refine exb_hit ?_
       refine hK_27 _ _ ?_
       refine hK_25 _ _ ?_
       refine w2_sr (fun K_46 hK_46 => ?_)
       refine q_as (.slice none (0) (0)) rfl ?_
       refine x_nil (hK_46 _ _ ?_)
       refine w2_seq (fun K_47 hK_47 => ?_)
       refine w2_sr (fun K_48 hK_48 => ?_)
       refine q_v 121 (.int .i64 ((0 : Nat) : Int)) (o_move rfl rfl) ?_
       refine x_nil ?_
       have s16 := S1.1
       refine hK_48 _ _ ?_
       refine w2_block (fun K_49 hK_49 => ?_)
       refine x_loop (fun nn aa ww => ∃ (K : Nat) (A1 : Option Addr) (c1 : Nat), nn = 16 - K ∧ aa.tmps.size = 137 ∧ aa.defers = [] ∧ aa.eval (.tmp 0) = .slice A (m) (c) ∧ aa.eval (.tmp 1) = .slice B (k) (d) ∧ aa.eval (.tmp 2) = .int .u32 ((n : Nat) : Int) ∧ aa.eval (.tmp 6) = .slice none (0) (0) ∧ aa.eval (.tmp 7) = .int .i64 ((0 : Nat) : Int) ∧ aa.eval (.tmp 8) = .pointer (some ⟨g_1, 0, none⟩) ∧ aa.eval (.tmp 11) = .pointer (some ⟨g_2, 0, none⟩) ∧ aa.eval (.tmp 21) = .slice A1 (4 * K) (c1) ∧ aa.eval (.tmp 23) = .slice A (m) (c) ∧ aa.eval (.tmp 24) = .int .i64 ((m : Nat) : Int) ∧ aa.eval (.tmp 25) = .bool (false) ∧ aa.eval (.tmp 26) = .bool (false) ∧ aa.eval (.tmp 27) = .slice B (k) (d) ∧ aa.eval (.tmp 28) = .int .i64 ((k : Nat) : Int) ∧ aa.eval (.tmp 29) = .bool (false) ∧ aa.eval (.tmp 30) = .bool (false) ∧ aa.eval (.tmp 31) = .agg (iws .u32 ([1634760805, 857760878, 2036477234, 1797285236, 0, 0, 0, 0, 0, 0, 0, 0, 0, 0, 0, 0])).toArray ∧ aa.eval (.tmp 32) = .int .i64 ((8 : Nat) : Int) ∧ aa.eval (.tmp 33) = .bool (decide (8 < 8)) ∧ aa.eval (.tmp 44) = .int .u32 ((n : Nat) : Int) ∧ aa.eval (.tmp 45) = .pointer (some ⟨g_1, 12, none⟩) ∧ aa.eval (.tmp 46) = .int .i64 ((3 : Nat) : Int) ∧ aa.eval (.tmp 47) = .bool (decide (3 < 3)) ∧ aa.eval (.tmp 58) = .agg (iws .u32 (beginL ks ns n)).toArray ∧ aa.eval (.tmp 59) = .int .i64 ((10 : Nat) : Int) ∧ aa.eval (.tmp 60) = .bool (decide (10 < 10)) ∧ aa.eval (.tmp 121) = .int .i64 ((K : Nat) : Int) ∧ K ≤ 16 ∧ Own ww w.heap.size A1 c1 (outL s1 (beginL ks ns n) K) ∧ Blk ww g_2 (iws .u32 s1).toArray 92 ∧ Blk ww g_1 (iws .u32 (beginL ks ns n)).toArray 92 ∧ Below w.heap.size w ww) (16) ?_ ?_
       ·exact ⟨0, none, 0, rfl, (by rw [putsR_size]; exact hs_3), (by rw [putsR_defers]; exact hd_3), ((pm rfl).trans ta_3_0), ((pm rfl).trans ta_3_1), ((pm rfl).trans ta_3_2), ((pm rfl).trans ta_3_6), ((pm rfl).trans ta_3_7), ((pm rfl).trans ta_3_8), ((pm rfl).trans ta_3_11), (pe hs_3 rfl rfl), ((pm rfl).trans ta_3_23), ((pm rfl).trans ta_3_24), ((pm rfl).trans ta_3_25), ((pm rfl).trans ta_3_26), ((pm rfl).trans ta_3_27), ((pm rfl).trans ta_3_28), ((pm rfl).trans ta_3_29), ((pm rfl).trans ta_3_30), ((pm rfl).trans ta_3_31), ((pm rfl).trans ta_3_32), ((pm rfl).trans ta_3_33), ((pm rfl).trans ta_3_44), ((pm rfl).trans ta_3_45), ((pm rfl).trans ta_3_46), ((pm rfl).trans ta_3_47), ((pm rfl).trans ta_3_58), ((pm rfl).trans ta_3_59), (pe hs_3 rfl rfl), (pe hs_3 rfl rfl), by omega, Own.nil _ _, BS, BF, HBL⟩
       ·skip
        clear ta_3_0 ta_3_1 ta_3_2 ta_3_6 ta_3_7 ta_3_23 ta_3_24 ta_3_25 ta_3_26 ta_3_27 ta_3_28 ta_3_29 ta_3_30 ta_3_31 ta_3_8 ta_3_32 ta_3_33 ta_3_44 ta_3_45 ta_3_46 ta_3_47 ta_3_58 ta_3_11 ta_3_59 hd_3 BS BF HBL
        rintro nna_7 a_7 w_24 ⟨K, A1, c1, hm_5, hs_7, hd_7, ta_7_0, ta_7_1, ta_7_2, ta_7_6, ta_7_7, ta_7_8, ta_7_11, ta_7_21, ta_7_23, ta_7_24, ta_7_25, ta_7_26, ta_7_27, ta_7_28, ta_7_29, ta_7_30, ta_7_31, ta_7_32, ta_7_33, ta_7_44, ta_7_45, ta_7_46, ta_7_47, ta_7_58, ta_7_59, ta_7_60, ta_7_121, hK, hO, BS, BF, HBL⟩ K_50 hK_50
        subst hm_5
        refine w2_sr (fun K_51 hK_51 => ?_)
        refine q_v 122 (.bool (decide (K < 16))) (o_lss (m := K) (n := 16) rfl ((pm rfl).trans ta_7_121) rfl) ?_
        refine x_nil (hK_51 _ _ ?_)
        refine w2_seq (fun K_52 hK_52 => ?_)
        refine w2_split (pe hs_7 rfl rfl) (fun h_6 => ?_) (fun h_6 => ?_)
        ·simp only [DD9] at h_6
         refine w2_skip ?_
         refine hK_52 _ _ ?_
         refine w2_seq (fun K_53 hK_53 => ?_)
         refine w2_block (fun K_54 hK_54 => ?_)
         refine w2_sr (fun K_55 hK_55 => ?_)
         refine q_mv ((pm rfl).trans ta_7_121) ?_
         refine q_at (pe hs_7 rfl rfl) ?_
         refine x_nil (hK_55 _ _ ?_)
         refine x_drawn 10 [fun _ v => v = .slice A1 (4 * K) (c1), fun _ v => v = .int .i64 ((K : Nat) : Int), fun _ v => v = .pointer (some ⟨g_2, K, none⟩), fun _ v => v = .int .u32 ((s1.getD (K) 0 : Nat) : Int), fun _ v => v = .int .i64 ((K : Nat) : Int), fun _ v => v = .pointer (some ⟨g_1, K, none⟩), fun _ v => v = .int .u32 (((beginL ks ns n).getD (K) 0 : Nat) : Int), fun _ v => v = .int .u32 ((((s1.getD (K) 0) + ((beginL ks ns n).getD (K) 0)) % 4294967296 : Nat) : Int), fun _ v => v = .int .u64 ((((s1.getD (K) 0) + ((beginL ks ns n).getD (K) 0)) % 4294967296 : Nat) : Int), fun ww vv => OwnN w_24.heap.size (4) (putL (((s1.getD (K) 0) + ((beginL ks ns n).getD (K) 0)) % 4294967296) 4) ww vv] [124, 125, 126, 127, 128, 129, 130, 131, 132, 133] hs_7 hd_7 (by kernel_rfl) (by kernel_rfl) (by kernel_rfl) (by kernel_rfl) (by kernel_rfl) ⟨stLit, stLit, stLit, stLit, stLit, stLit, stLit, stLit, stLit, stOwn, trivial⟩ ⟨(step_ok rfl (fun a' w' hb' hO hD => by
           have d_57 := (hO 21 (by decide)).trans ((pm rfl).trans ta_7_21)
           exact .inl ⟨_, _, (o_move rfl d_57), rfl, Below.refl _ _⟩)),
(step_ok rfl (fun a' w' hb' hO hD => by
           have d_58 : a'.eval (.tmp 22) = .int .i64 ((K : Nat) : Int) := (hO 22 (by decide)).trans (pe hs_7 rfl rfl)
           exact .inl ⟨_, _, (o_move rfl d_58), rfl, Below.refl _ _⟩)),
(step_ok rfl (fun a' w' hb' hO hD => by
           have d_59 := (hO 11 (by decide)).trans ((pm rfl).trans ta_7_11)
           have d_60 : a'.eval (.tmp 125) = .int .i64 ((K : Nat) : Int) := hD 1 125 (by kernel_rfl) rfl
           exact .inl ⟨_, _, (zero_off (o_ixA (k := 0) (i := K) (n := 16) (e := 57) rfl d_59 d_60 (by omega) (fun _ => by kernel_rfl) (fun _ => by kernel_rfl))), rfl, Below.refl _ _⟩)),
(step_ok rfl (fun a' w' hb' hO hD => by
           have d_61 : a'.eval (.tmp 126) = .pointer (some ⟨g_2, K, none⟩) := hD 2 126 (by kernel_rfl) rfl
           exact .inl ⟨_, _, (o_loadW rfl d_61 (BS.nx hb') (by rw [s16]; omega) rfl ⟨by kernel_rfl, by kernel_rfl⟩), rfl, Below.refl _ _⟩)),
(step_ok rfl (fun a' w' hb' hO hD => by
           have d_62 : a'.eval (.tmp 22) = .int .i64 ((K : Nat) : Int) := (hO 22 (by decide)).trans (pe hs_7 rfl rfl)
           exact .inl ⟨_, _, (o_move rfl d_62), rfl, Below.refl _ _⟩)),
(step_ok rfl (fun a' w' hb' hO hD => by
           have d_63 := (hO 8 (by decide)).trans ((pm rfl).trans ta_7_8)
           have d_64 : a'.eval (.tmp 128) = .int .i64 ((K : Nat) : Int) := hD 4 128 (by kernel_rfl) rfl
           exact .inl ⟨_, _, (zero_off (o_ixA (k := 0) (i := K) (n := 16) (e := 57) rfl d_63 d_64 (by omega) (fun _ => by kernel_rfl) (fun _ => by kernel_rfl))), rfl, Below.refl _ _⟩)),
(step_ok rfl (fun a' w' hb' hO hD => by
           have d_65 : a'.eval (.tmp 129) = .pointer (some ⟨g_1, K, none⟩) := hD 5 129 (by kernel_rfl) rfl
           exact .inl ⟨_, _, (o_loadW rfl d_65 (BF.nx hb') (by rw [S0.1]; omega) rfl ⟨by kernel_rfl, by kernel_rfl⟩), rfl, Below.refl _ _⟩)),
(step_ok rfl (fun a' w' hb' hO hD => by
           have d_66 : a'.eval (.tmp 127) = .int .u32 ((s1.getD (K) 0 : Nat) : Int) := hD 3 127 (by kernel_rfl) rfl
           have d_67 : a'.eval (.tmp 130) = .int .u32 (((beginL ks ns n).getD (K) 0 : Nat) : Int) := hD 6 130 (by kernel_rfl) rfl
           exact .inl ⟨_, _, (o_addU (m := (s1.getD (K) 0)) (n := ((beginL ks ns n).getD (K) 0)) (((s1.getD (K) 0) + ((beginL ks ns n).getD (K) 0)) % 4294967296) rfl d_66 d_67 (by rw [IntKind.wrap_u32]; omega)), rfl, Below.refl _ _⟩)),
(step_ok rfl (fun a' w' hb' hO hD => by
           have d_68 : a'.eval (.tmp 131) = .int .u32 ((((s1.getD (K) 0) + ((beginL ks ns n).getD (K) 0)) % 4294967296 : Nat) : Int) := hD 7 131 (by kernel_rfl) rfl
           exact .inl ⟨_, _, (o_conv (m := (((s1.getD (K) 0) + ((beginL ks ns n).getD (K) 0)) % 4294967296)) (r := ((s1.getD (K) 0) + ((beginL ks ns n).getD (K) 0)) % 4294967296) rfl d_68 ⟨.int .u32, fun _ => by kernel_rfl⟩ (fun _ => by kernel_rfl) (by rw [IntKind.wrap_u64]; omega)), rfl, Below.refl _ _⟩)),
(step_ok rfl (fun a' w' hb' hO hD => by
           have d_69 : a'.eval (.tmp 132) = .int .u64 ((((s1.getD (K) 0) + ((beginL ks ns n).getD (K) 0)) % 4294967296 : Nat) : Int) := hD 8 132 (by kernel_rfl) rfl
           exact .inr ⟨_, #[.int .u64 ((((s1.getD (K) 0) + ((beginL ks ns n).getD (K) 0)) % 4294967296 : Nat) : Int), .int .i64 ((4 : Nat) : Int)], (exec_call Try.func35 (by kernel_rfl) (by kernel_rfl) _ rfl _ _ (args2 d_69 rfl)), Calls.mono (PutLowW_any (((s1.getD (K) 0) + ((beginL ks ns n).getD (K) 0)) % 4294967296) 4 _ (by omega) (by decide)) (fun e w'' hR => by obtain ⟨A_1, c_1, rfl, ho_1, hb_9⟩ := hR; exact ⟨_, rfl, ⟨_, _, rfl, ho_1.mono hb'.size⟩, hb_9⟩)⟩)), trivial⟩ (fun a_8 w_25 hs_8 hd_8 hb_10 hO_3 hV_3 => ?_)
         have ta_8_0 := (hO_3 0 (by decide)).trans ((pm rfl).trans ta_7_0)
         have ta_8_1 := (hO_3 1 (by decide)).trans ((pm rfl).trans ta_7_1)
         have ta_8_2 := (hO_3 2 (by decide)).trans ((pm rfl).trans ta_7_2)
         have ta_8_6 := (hO_3 6 (by decide)).trans ((pm rfl).trans ta_7_6)
         have ta_8_7 := (hO_3 7 (by decide)).trans ((pm rfl).trans ta_7_7)
         have ta_8_23 := (hO_3 23 (by decide)).trans ((pm rfl).trans ta_7_23)
         have ta_8_24 := (hO_3 24 (by decide)).trans ((pm rfl).trans ta_7_24)
         have ta_8_25 := (hO_3 25 (by decide)).trans ((pm rfl).trans ta_7_25)
         have ta_8_26 := (hO_3 26 (by decide)).trans ((pm rfl).trans ta_7_26)
         have ta_8_27 := (hO_3 27 (by decide)).trans ((pm rfl).trans ta_7_27)
         have ta_8_28 := (hO_3 28 (by decide)).trans ((pm rfl).trans ta_7_28)
         have ta_8_29 := (hO_3 29 (by decide)).trans ((pm rfl).trans ta_7_29)
         have ta_8_30 := (hO_3 30 (by decide)).trans ((pm rfl).trans ta_7_30)
         have ta_8_31 := (hO_3 31 (by decide)).trans ((pm rfl).trans ta_7_31)
         have ta_8_8 := (hO_3 8 (by decide)).trans ((pm rfl).trans ta_7_8)
         have ta_8_32 := (hO_3 32 (by decide)).trans ((pm rfl).trans ta_7_32)
         have ta_8_33 := (hO_3 33 (by decide)).trans ((pm rfl).trans ta_7_33)
         have ta_8_44 := (hO_3 44 (by decide)).trans ((pm rfl).trans ta_7_44)
         have ta_8_45 := (hO_3 45 (by decide)).trans ((pm rfl).trans ta_7_45)
         have ta_8_46 := (hO_3 46 (by decide)).trans ((pm rfl).trans ta_7_46)
         have ta_8_47 := (hO_3 47 (by decide)).trans ((pm rfl).trans ta_7_47)
         have ta_8_58 := (hO_3 58 (by decide)).trans ((pm rfl).trans ta_7_58)
         have ta_8_11 := (hO_3 11 (by decide)).trans ((pm rfl).trans ta_7_11)
         have ta_8_59 := (hO_3 59 (by decide)).trans ((pm rfl).trans ta_7_59)
         have ta_8_60 := (hO_3 60 (by decide)).trans ((pm rfl).trans ta_7_60)
         have ta_8_121 := (hO_3 121 (by decide)).trans ((pm rfl).trans ta_7_121)
         clear ta_7_0 ta_7_1 ta_7_2 ta_7_6 ta_7_7 ta_7_23 ta_7_24 ta_7_25 ta_7_26 ta_7_27 ta_7_28 ta_7_29 ta_7_30 ta_7_31 ta_7_8 ta_7_32 ta_7_33 ta_7_44 ta_7_45 ta_7_46 ta_7_47 ta_7_58 ta_7_11 ta_7_59 ta_7_60 ta_7_21 ta_7_121 hd_7
         replace hO := hO.nx hb_10
         replace BS := BS.nx hb_10
         replace BF := BF.nx hb_10
         have HB_17 := below_from HBL hb_10
         have ta_8_124 : a_8.eval (.tmp 124) = .slice A1 (4 * K) (c1) := hV_3 0 124 rfl rfl
         have x_1 := hV_3 9 133 rfl rfl
         obtain ⟨A_2, c_2, hv_1, hO_4⟩ := x_1
         replace hO_4 := hO_4.mono HBL.size
         clear hV_3 hO_3
         simp only [List.drop_succ_cons, List.drop_zero]
         refine op_ex (d := 134) rfl rfl (o_append rfl ((pm rfl).trans ta_8_124) ((pm rfl).trans hv_1) hO (hO_4).bs (by rw [outL_length]) (putL_length _ _) (by omega) HB_17.size) (fun v_3 w_26 hR_18 => ?_)
         obtain ⟨A_3, c_3, rfl, ho_2, hb_11, hg_1, hat_1⟩ := hR_18
         replace BS := BS.grown hO hg_1 (by decide)
         replace BF := BF.grown hO hg_1 (by decide)
         have HB_18 : Below w.heap.size w w_26 := (HB_17).trans hb_11
         clear hg_1 hat_1 hO
         refine q_at (pe hs_8 rfl rfl) ?_
         refine x_nil (hK_54 _ _ ?_)
         refine hK_53 _ _ ?_
         refine x_region (by kernel_rfl) ?_
         refine q_v 135 (.int .i64 ((K + 1 : Nat) : Int)) (o_add64 (m := K) (n := 1) rfl ((pm rfl).trans ta_8_121) rfl (by omega)) ?_
         refine q_mv (pe hs_8 rfl rfl) ?_
         refine x_nil ?_
         refine hK_50 _ _ _ ⟨K + 1, A_3, c_3, rfl, (by rw [putsR_size]; exact hs_8), (by rw [putsR_defers]; exact hd_8), ((pm rfl).trans ta_8_0), ((pm rfl).trans ta_8_1), ((pm rfl).trans ta_8_2), ((pm rfl).trans ta_8_6), ((pm rfl).trans ta_8_7), ((pm rfl).trans ta_8_8), ((pm rfl).trans ta_8_11), (pe hs_8 rfl rfl), ((pm rfl).trans ta_8_23), ((pm rfl).trans ta_8_24), ((pm rfl).trans ta_8_25), ((pm rfl).trans ta_8_26), ((pm rfl).trans ta_8_27), ((pm rfl).trans ta_8_28), ((pm rfl).trans ta_8_29), ((pm rfl).trans ta_8_30), ((pm rfl).trans ta_8_31), ((pm rfl).trans ta_8_32), ((pm rfl).trans ta_8_33), ((pm rfl).trans ta_8_44), ((pm rfl).trans ta_8_45), ((pm rfl).trans ta_8_46), ((pm rfl).trans ta_8_47), ((pm rfl).trans ta_8_58), ((pm rfl).trans ta_8_59), ((pm rfl).trans ta_8_60), (pe hs_8 rfl rfl), (by omega), ho_2, BS, BF, HB_18⟩ ?_
         omega
        ·simp only [DD9] at h_6
         obtain rfl : K = 16 := by omega
         refine w2_exit ?_
         refine thn_exit ?_
         refine thn_exit ?_
         refine exb_hit ?_
         refine hK_49 _ _ ?_
         refine hK_47 _ _ ?_
         refine w2_sr (fun K_56 hK_56 => ?_)
         refine q_mv ((pm rfl).trans ta_7_21) ?_
         refine q_at (pe hs_7 rfl rfl) ?_
         refine q_as (.int .i64 ((0 : Nat) : Int)) rfl ?_
         refine x_nil (hK_56 _ _ ?_)
         refine w2_ret ?_
         refine ret2 rfl hd_7 (pe hs_7 rfl rfl) (pe hs_7 rfl rfl) ?_
         exact ⟨A1, c1, rfl, (by unfold blockL; rw [hs1]; exact hO), HBL⟩
end Go.Proofs.Ytggalcdkfielkaa
/-
 WALKS: the reference's stream: Xor, XorChaCha, join, filled, Nonce.
-/
namespace Go.Proofs.Ytggalcdkfielkaa
open Go.RowKit
set_option linter.unusedVariables false
set_option linter.unusedSimpArgs false
set_option maxRecDepth 100000
attribute [local irreducible] wpList wpListIn putsR

theorem XorW_any {A B : Option Addr} {c d n m : Nat} {xs ys : List Nat} (w : World) (ha : Bs w A c xs) (hb : Bs w B d ys) (hn : xs.length = n) (hm : ys.length = m) (hl : n ≤ 70368744177664) :
  Calls Try.prog 59 #[.slice A (n) (c), .slice B (m) (d)] w fun e w' => ∃ A' c', e = .returned (.slice A' (min n m) c') ∧ Own w' w.heap.size A' c' (xorL xs ys (min n m)) ∧ Below w.heap.size w w' := by
 refine x_enter 29 Try.func59 rfl rfl (fun a hs hd ha0 => ?_)
 have t0 : a.eval (.tmp 0) = .slice A (n) (c) := ha0 0 _ rfl
 have t1 : a.eval (.tmp 1) = .slice B (m) (d) := ha0 1 _ rfl
 clear ha0
 refine w2_sr (fun K_1 hK_1 => ?_)
 refine q_as (.slice none (0) (0)) rfl ?_
 refine x_nil (hK_1 _ _ ?_)
 refine w2_sr (fun K_2 hK_2 => ?_)
 refine q_as (.slice none (0) (0)) rfl ?_
 refine x_nil (hK_2 _ _ ?_)
 refine w2_seq (fun K_3 hK_3 => ?_)
 refine w2_sr (fun K_4 hK_4 => ?_)
 refine q_mv ((pm rfl).trans t0) ?_
 refine q_v 8 (.int .i64 ((n : Nat) : Int)) (o_len rfl (pe hs rfl rfl)) ?_
 refine q_mv ((pm rfl).trans t1) ?_
 refine q_v 10 (.int .i64 ((m : Nat) : Int)) (o_len rfl (pe hs rfl rfl)) ?_
 refine q_v 11 (.int .i64 ((min n m : Nat) : Int)) (o_min rfl (pe hs rfl rfl) (pe hs rfl rfl)) ?_
 refine q_v 12 (.int .i64 ((0 : Nat) : Int)) (o_move rfl rfl) ?_
 refine x_nil (hK_4 _ _ ?_)
 refine w2_block (fun K_5 hK_5 => ?_)
 refine x_loop (fun nn aa ww => ∃ (K : Nat) (A1 : Option Addr) (c1 : Nat), nn = min n m - K ∧ aa.tmps.size = 29 ∧ aa.defers = [] ∧ aa.eval (.tmp 0) = .slice A (n) (c) ∧ aa.eval (.tmp 1) = .slice B (m) (d) ∧ aa.eval (.tmp 4) = .slice none (0) (0) ∧ aa.eval (.tmp 5) = .slice A1 (K) (c1) ∧ aa.eval (.tmp 7) = .slice A (n) (c) ∧ aa.eval (.tmp 8) = .int .i64 ((n : Nat) : Int) ∧ aa.eval (.tmp 9) = .slice B (m) (d) ∧ aa.eval (.tmp 10) = .int .i64 ((m : Nat) : Int) ∧ aa.eval (.tmp 11) = .int .i64 ((min n m : Nat) : Int) ∧ aa.eval (.tmp 12) = .int .i64 ((K : Nat) : Int) ∧ K ≤ min n m ∧ Own ww w.heap.size A1 c1 (xorL xs ys K) ∧ Below w.heap.size w ww) (min n m) ?_ ?_
 ·exact ⟨0, none, 0, rfl, (by rw [putsR_size]; exact hs), (by rw [putsR_defers]; exact hd), ((pm rfl).trans t0), ((pm rfl).trans t1), (pe hs rfl rfl), (pe hs rfl rfl), (pe hs rfl rfl), (pe hs rfl rfl), (pe hs rfl rfl), (pe hs rfl rfl), (pe hs rfl rfl), (pe hs rfl rfl), Nat.zero_le _, Own.nil _ _, Below.refl _ _⟩
 ·skip
  clear t0 t1 hd
  rintro nna_1 a_1 w_1 ⟨K, A1, c1, hm_1, hs_1, hd_1, ta_1_0, ta_1_1, ta_1_4, ta_1_5, ta_1_7, ta_1_8, ta_1_9, ta_1_10, ta_1_11, ta_1_12, hK, hO, HBL⟩ K_6 hK_6
  subst hm_1
  refine w2_sr (fun K_7 hK_7 => ?_)
  refine q_v 13 (.bool (decide (K < (min n m)))) (o_lss (m := K) (n := (min n m)) rfl ((pm rfl).trans ta_1_12) ((pm rfl).trans ta_1_11)) ?_
  refine x_nil (hK_7 _ _ ?_)
  refine w2_seq (fun K_8 hK_8 => ?_)
  refine w2_split (pe hs_1 rfl rfl) (fun h_1 => ?_) (fun h_1 => ?_)
  ·simp only [DD9] at h_1
   have hn1 : K < n := by omega
   have hm1 : K < m := by omega
   refine w2_skip ?_
   refine hK_8 _ _ ?_
   refine w2_seq (fun K_9 hK_9 => ?_)
   refine w2_block (fun K_10 hK_10 => ?_)
   refine w2_sr (fun K_11 hK_11 => ?_)
   refine q_mv ((pm rfl).trans ta_1_12) ?_
   refine q_at (pe hs_1 rfl rfl) ?_
   refine x_nil (hK_11 _ _ ?_)
   refine x_drawn 11 [fun _ v => v = .slice A1 (K) (c1), fun _ v => v = .slice A (n) (c), fun _ v => v = .int .i64 ((K : Nat) : Int), fun _ v => v = .pointer (atA A (K)), fun _ v => v = .int .u8 ((xs.getD (K) 0 : Nat) : Int), fun _ v => v = .slice B (m) (d), fun _ v => v = .int .i64 ((K : Nat) : Int), fun _ v => v = .pointer (atA B (K)), fun _ v => v = .int .u8 ((ys.getD (K) 0 : Nat) : Int), fun _ v => v = .int .u8 (((xs.getD (K) 0) ^^^ (ys.getD (K) 0) : Nat) : Int), fun ww vv => OwnN w_1.heap.size 1 [(xs.getD (K) 0) ^^^ (ys.getD (K) 0)] ww vv] [15, 16, 17, 18, 19, 20, 21, 22, 23, 24, 25] hs_1 hd_1 (by kernel_rfl) (by kernel_rfl) (by kernel_rfl) (by kernel_rfl) (by kernel_rfl) ⟨stLit, stLit, stLit, stLit, stLit, stLit, stLit, stLit, stLit, stLit, stOwn, trivial⟩ ⟨(step_ok rfl (fun a' w' hb' hO hD => by
     have d_1 := (hO 5 (by decide)).trans ((pm rfl).trans ta_1_5)
     exact .inl ⟨_, _, (o_move rfl d_1), rfl, Below.refl _ _⟩)),
(step_ok rfl (fun a' w' hb' hO hD => by
     have d_2 := (hO 0 (by decide)).trans ((pm rfl).trans ta_1_0)
     exact .inl ⟨_, _, (o_move rfl d_2), rfl, Below.refl _ _⟩)),
(step_ok rfl (fun a' w' hb' hO hD => by
     have d_3 : a'.eval (.tmp 6) = .int .i64 ((K : Nat) : Int) := (hO 6 (by decide)).trans (pe hs_1 rfl rfl)
     exact .inl ⟨_, _, (o_move rfl d_3), rfl, Below.refl _ _⟩)),
(step_ok rfl (fun a' w' hb' hO hD => by
     have d_4 : a'.eval (.tmp 16) = .slice A (n) (c) := hD 1 16 (by kernel_rfl) rfl
     have d_5 : a'.eval (.tmp 17) = .int .i64 ((K : Nat) : Int) := hD 2 17 (by kernel_rfl) rfl
     exact .inl ⟨_, _, (o_ix (k := K) rfl d_4 d_5 (by omega) ((ha.below (below_from HBL hb')).some (by rw [hn]; omega))), rfl, Below.refl _ _⟩)),
(step_ok rfl (fun a' w' hb' hO hD => by
     have d_6 : a'.eval (.tmp 18) = .pointer (atA A (K)) := hD 3 18 (by kernel_rfl) rfl
     exact .inl ⟨_, _, (o_ld8 rfl d_6 (ha.below (below_from HBL hb')) (by rw [hn]; omega) rfl), rfl, Below.refl _ _⟩)),
(step_ok rfl (fun a' w' hb' hO hD => by
     have d_7 := (hO 1 (by decide)).trans ((pm rfl).trans ta_1_1)
     exact .inl ⟨_, _, (o_move rfl d_7), rfl, Below.refl _ _⟩)),
(step_ok rfl (fun a' w' hb' hO hD => by
     have d_8 : a'.eval (.tmp 6) = .int .i64 ((K : Nat) : Int) := (hO 6 (by decide)).trans (pe hs_1 rfl rfl)
     exact .inl ⟨_, _, (o_move rfl d_8), rfl, Below.refl _ _⟩)),
(step_ok rfl (fun a' w' hb' hO hD => by
     have d_9 : a'.eval (.tmp 20) = .slice B (m) (d) := hD 5 20 (by kernel_rfl) rfl
     have d_10 : a'.eval (.tmp 21) = .int .i64 ((K : Nat) : Int) := hD 6 21 (by kernel_rfl) rfl
     exact .inl ⟨_, _, (o_ix (k := K) rfl d_9 d_10 (by omega) ((hb.below (below_from HBL hb')).some (by rw [hm]; omega))), rfl, Below.refl _ _⟩)),
(step_ok rfl (fun a' w' hb' hO hD => by
     have d_11 : a'.eval (.tmp 22) = .pointer (atA B (K)) := hD 7 22 (by kernel_rfl) rfl
     exact .inl ⟨_, _, (o_ld8 rfl d_11 (hb.below (below_from HBL hb')) (by rw [hm]; omega) rfl), rfl, Below.refl _ _⟩)),
(step_ok rfl (fun a' w' hb' hO hD => by
     have d_12 : a'.eval (.tmp 19) = .int .u8 ((xs.getD (K) 0 : Nat) : Int) := hD 4 19 (by kernel_rfl) rfl
     have d_13 : a'.eval (.tmp 23) = .int .u8 ((ys.getD (K) 0 : Nat) : Int) := hD 8 23 (by kernel_rfl) rfl
     exact .inl ⟨_, _, (o_bits (m := (xs.getD (K) 0)) (n := (ys.getD (K) 0)) ((xs.getD (K) 0) ^^^ (ys.getD (K) 0)) rfl d_12 d_13 (by decide) (u8_xor_nat _ _ (getD_lt ha.b8 _) (getD_lt hb.b8 _))), rfl, Below.refl _ _⟩)),
(step_ok rfl (fun a' w' hb' hO hD => by
     have d_14 : a'.eval (.tmp 24) = .int .u8 (((xs.getD (K) 0) ^^^ (ys.getD (K) 0) : Nat) : Int) := hD 9 24 (by kernel_rfl) rfl
     exact out_new (o_build1 (m := (xs.getD (K) 0) ^^^ (ys.getD (K) 0)) rfl d_14 (xor8 _ _ (getD_lt ha.b8 _) (getD_lt hb.b8 _))) (fun v w_2 hR => by obtain ⟨g_1, rfl, ho_1, hb_1⟩ := hR; exact ⟨⟨_, _, rfl, ho_1.mono hb'.size⟩, hb_1⟩))), trivial⟩ (fun a_2 w_3 hs_2 hd_2 hb_2 hO_1 hV_1 => ?_)
   have ta_2_0 := (hO_1 0 (by decide)).trans ((pm rfl).trans ta_1_0)
   have ta_2_1 := (hO_1 1 (by decide)).trans ((pm rfl).trans ta_1_1)
   have ta_2_4 := (hO_1 4 (by decide)).trans ((pm rfl).trans ta_1_4)
   have ta_2_7 := (hO_1 7 (by decide)).trans ((pm rfl).trans ta_1_7)
   have ta_2_8 := (hO_1 8 (by decide)).trans ((pm rfl).trans ta_1_8)
   have ta_2_9 := (hO_1 9 (by decide)).trans ((pm rfl).trans ta_1_9)
   have ta_2_10 := (hO_1 10 (by decide)).trans ((pm rfl).trans ta_1_10)
   have ta_2_11 := (hO_1 11 (by decide)).trans ((pm rfl).trans ta_1_11)
   have ta_2_12 := (hO_1 12 (by decide)).trans ((pm rfl).trans ta_1_12)
   clear ta_1_0 ta_1_1 ta_1_4 ta_1_7 ta_1_8 ta_1_9 ta_1_10 ta_1_11 ta_1_5 ta_1_12 hd_1
   replace hO := hO.nx hb_2
   have HB_1 := below_from HBL hb_2
   have ta_2_15 : a_2.eval (.tmp 15) = .slice A1 (K) (c1) := hV_1 0 15 rfl rfl
   have x_1 := hV_1 10 25 rfl rfl
   obtain ⟨A_1, c_1, hv_1, hO_2⟩ := x_1
   replace hO_2 := hO_2.mono HBL.size
   clear hV_1 hO_1
   simp only [List.drop_succ_cons, List.drop_zero]
   refine op_ex (d := 26) rfl rfl (o_append rfl ((pm rfl).trans ta_2_15) ((pm rfl).trans hv_1) hO (hO_2).bs (by rw [xorL_length]) (by simp only [List.length_cons, List.length_nil]) (by omega) HB_1.size) (fun v_1 w_4 hR_1 => ?_)
   obtain ⟨A_2, c_2, rfl, ho_2, hb_3, hg_1, hat_1⟩ := hR_1
   have HB_2 : Below w.heap.size w w_4 := (HB_1).trans hb_3
   clear hg_1 hat_1 hO
   refine q_at (pe hs_2 rfl rfl) ?_
   refine x_nil (hK_10 _ _ ?_)
   refine hK_9 _ _ ?_
   refine x_region (by kernel_rfl) ?_
   refine q_v 27 (.int .i64 ((K + 1 : Nat) : Int)) (o_add64 (m := K) (n := 1) rfl ((pm rfl).trans ta_2_12) rfl (by omega)) ?_
   refine q_mv (pe hs_2 rfl rfl) ?_
   refine x_nil ?_
   refine hK_6 _ _ _ ⟨K + 1, A_2, c_2, rfl, (by rw [putsR_size]; exact hs_2), (by rw [putsR_defers]; exact hd_2), ((pm rfl).trans ta_2_0), ((pm rfl).trans ta_2_1), ((pm rfl).trans ta_2_4), (pe hs_2 rfl rfl), ((pm rfl).trans ta_2_7), ((pm rfl).trans ta_2_8), ((pm rfl).trans ta_2_9), ((pm rfl).trans ta_2_10), ((pm rfl).trans ta_2_11), (pe hs_2 rfl rfl), (by omega), ho_2, HB_2⟩ ?_
   omega
  ·simp only [DD9] at h_1
   refine w2_exit ?_
   refine thn_exit ?_
   refine thn_exit ?_
   refine exb_hit ?_
   refine hK_5 _ _ ?_
   refine hK_3 _ _ ?_
   refine w2_sr (fun K_12 hK_12 => ?_)
   refine q_mv ((pm rfl).trans ta_1_5) ?_
   refine q_at (pe hs_1 rfl rfl) ?_
   refine x_nil (hK_12 _ _ ?_)
   refine w2_ret ?_
   refine ret1 rfl hd_1 (pe hs_1 rfl rfl) ?_
   obtain rfl : K = min n m := by omega
   exact ⟨A1, c1, rfl, hO, HBL⟩
theorem xorL_take (xs ys : List Nat) (m : Nat) : ∀ K, K ≤ m → xorL (xs.take m) ys K = xorL xs ys K
 | 0, _ => rfl
 | K + 1, h => by
  rw [xorL, xorL, xorL_take xs ys m K (by omega)]
  congr 3
  simp only [List.getD_eq_getElem?_getD, List.getElem?_take]
  rw [if_pos (by omega)]
theorem xor_step (ks ns : List Nat) (n : Nat) {bs : List Nat} {q : Nat} (hq : bs.length = q) (K : Nat) : (xorSt ks ns n bs (List.range K)).1 ++ xorL (bs.drop (64 * K)) (blockL ks ns (xorSt ks ns n bs (List.range K)).2) (min (q - 64 * K) 64) = (xorSt ks ns n bs (List.range (K + 1))).1 := by
 rw [List.range_succ, xorSt_snoc, chunkL_length, hq, Nat.min_comm (q - 64 * K)]
 show _ = _ ++ _
 rw [chunkL, xorL_take _ _ _ _ (Nat.min_le_left _ _)]
theorem xor_snd (ks ns : List Nat) (n : Nat) (bs : List Nat) (K : Nat) : ((xorSt ks ns n bs (List.range K)).2 + 1) % 4294967296 = (xorSt ks ns n bs (List.range (K + 1))).2 := by rw [List.range_succ, xorSt_snoc]
set_option maxHeartbeats 1000000 in
theorem XorChaW_ok {A B C : Option Addr} {c d f m k q : Nat} {ks ns bs : List Nat} (n : Nat) (w : World) (ha : Bs w A c ks) (hb : Bs w B d ns) (hc : Bs w C f bs) (hm : ks.length = m) (hk : ns.length = k) (hq : bs.length = q) (hn : n < 4294967296) (hm32 : m = 32) (hk12 : k = 12) (hl : q ≤ 70368744177664) :
  Calls Try.prog 32 #[.slice A (m) (c), .slice B (k) (d), .int .u32 ((n : Nat) : Int), .slice C (q) (f)] w fun e w' => ∃ A c, e = .returned (.tuple #[.slice A q c, .int .i64 ((0 : Nat) : Int)]) ∧ Own w' w.heap.size A c (xorS ks ns n bs) ∧ Below w.heap.size w w' := by
 refine x_enter 45 Try.func32 rfl rfl (fun a hs hd ha0 => ?_)
 have t0 : a.eval (.tmp 0) = .slice A (m) (c) := ha0 0 _ rfl
 have t1 : a.eval (.tmp 1) = .slice B (k) (d) := ha0 1 _ rfl
 have t2 : a.eval (.tmp 2) = .int .u32 ((n : Nat) : Int) := ha0 2 _ rfl
 have t3 : a.eval (.tmp 3) = .slice C (q) (f) := ha0 3 _ rfl
 clear ha0
 refine w2_sr (fun K_1 hK_1 => ?_)
 refine q_as (.slice none (0) (0)) rfl ?_
 refine q_as (.int .i64 ((0 : Nat) : Int)) rfl ?_
 refine x_nil (hK_1 _ _ ?_)
 refine w2_seq (fun K_2 hK_2 => ?_)
 refine w2_sr (fun K_3 hK_3 => ?_)
 refine q_mv ((pm rfl).trans t0) ?_
 refine q_v 15 (.int .i64 ((m : Nat) : Int)) (o_len rfl (pe hs rfl rfl)) ?_
 refine q_v 16 (.bool (false)) (o_eq (o_neq (m := m) (n := 32) rfl (pe hs rfl rfl) rfl) (by rw [decide_eq_true hm32]; rfl)) ?_
 refine q_mv (pe hs rfl rfl) ?_
 refine op_valG (e := 17) (d := 18) (v := .slice B (k) (d)) rfl rfl (by kernel_rfl) (pe hs rfl rfl) (o_move rfl ((pm rfl).trans t1)) ?_
 refine op_valG (e := 17) (d := 19) (v := .int .i64 ((k : Nat) : Int)) rfl rfl (by kernel_rfl) (pe hs rfl rfl) (o_len rfl (pe hs rfl rfl)) ?_
 refine op_valG (e := 17) (d := 20) (v := .bool (false)) rfl rfl (by kernel_rfl) (pe hs rfl rfl) (o_eq (o_neq (m := k) (n := 12) rfl (pe hs rfl rfl) rfl) (by rw [decide_eq_true hk12]; rfl)) ?_
 refine q_v 21 (.bool (false)) (o_pickF rfl (pe hs rfl rfl) (pe hs rfl rfl)) ?_
 refine x_nil (hK_3 _ _ ?_)
 refine w2_condF (pe hs rfl rfl) ?_
 refine w2_skip ?_
 refine hK_2 _ _ ?_
 refine w2_sr (fun K_4 hK_4 => ?_)
 refine q_as (.slice none (0) (0)) rfl ?_
 refine x_nil (hK_4 _ _ ?_)
 refine w2_seq (fun K_5 hK_5 => ?_)
 refine w2_sr (fun K_6 hK_6 => ?_)
 refine q_as (.int .i64 ((0 : Nat) : Int)) rfl ?_
 refine x_nil (hK_6 _ _ ?_)
 refine w2_block (fun K_7 hK_7 => ?_)
 refine x_loop (fun nn aa ww => ∃ (K n1 c1 : Nat) (A1 : Option Addr), nn = q - 64 * K ∧ aa.tmps.size = 45 ∧ aa.defers = [] ∧ aa.eval (.tmp 0) = .slice A (m) (c) ∧ aa.eval (.tmp 1) = .slice B (k) (d) ∧ aa.eval (.tmp 2) = .int .u32 (((xorSt ks ns n bs (List.range K)).2 : Nat) : Int) ∧ aa.eval (.tmp 3) = .slice C (q) (f) ∧ aa.eval (.tmp 8) = .slice none (0) (0) ∧ aa.eval (.tmp 9) = .int .i64 ((0 : Nat) : Int) ∧ aa.eval (.tmp 10) = .slice A1 (n1) (c1) ∧ aa.eval (.tmp 11) = .int .i64 ((64 * K : Nat) : Int) ∧ aa.eval (.tmp 14) = .slice A (m) (c) ∧ aa.eval (.tmp 15) = .int .i64 ((m : Nat) : Int) ∧ aa.eval (.tmp 16) = .bool (false) ∧ aa.eval (.tmp 17) = .bool (false) ∧ aa.eval (.tmp 18) = .slice B (k) (d) ∧ aa.eval (.tmp 19) = .int .i64 ((k : Nat) : Int) ∧ aa.eval (.tmp 20) = .bool (false) ∧ aa.eval (.tmp 21) = .bool (false) ∧ K ≤ (q + 64 - 1) / 64 ∧ n1 = min (64 * K) q ∧ Own ww w.heap.size A1 c1 (xorSt ks ns n bs (List.range K)).1 ∧ Below w.heap.size w ww) (q) ?_ ?_
 ·exact ⟨0, 0, 0, none, rfl, (by rw [putsR_size]; exact hs), (by rw [putsR_defers]; exact hd), ((pm rfl).trans t0), ((pm rfl).trans t1), ((pm rfl).trans t2), ((pm rfl).trans t3), (pe hs rfl rfl), (pe hs rfl rfl), (pe hs rfl rfl), (pe hs rfl rfl), (pe hs rfl rfl), (pe hs rfl rfl), (pe hs rfl rfl), (pe hs rfl rfl), (pe hs rfl rfl), (pe hs rfl rfl), (pe hs rfl rfl), (pe hs rfl rfl), Nat.zero_le _, (by omega), Own.nil _ _, Below.refl _ _⟩
 ·skip
  clear t0 t1 t2 t3 hd
  rintro nna_1 a_1 w_1 ⟨K, n1, c1, A1, hm_1, hs_1, hd_1, ta_1_0, ta_1_1, ta_1_2, ta_1_3, ta_1_8, ta_1_9, ta_1_10, ta_1_11, ta_1_14, ta_1_15, ta_1_16, ta_1_17, ta_1_18, ta_1_19, ta_1_20, ta_1_21, hK, hn1, hO, HBL⟩ K_8 hK_8
  subst hm_1
  have hsl : (xorSt ks ns n bs (List.range K)).1.length = n1 := (xorSt_length ks ns n bs K).trans (by rw [hq, hn1])
  refine w2_seq (fun K_9 hK_9 => ?_)
  refine w2_sr (fun K_10 hK_10 => ?_)
  refine q_mv ((pm rfl).trans ta_1_11) ?_
  refine q_mv ((pm rfl).trans ta_1_3) ?_
  refine q_v 24 (.int .i64 ((q : Nat) : Int)) (o_len rfl (pe hs_1 rfl rfl)) ?_
  refine q_v 25 (.bool (decide ((64 * K) < q))) (o_lss (m := (64 * K)) (n := q) rfl (pe hs_1 rfl rfl) (pe hs_1 rfl rfl)) ?_
  refine x_nil (hK_10 _ _ ?_)
  refine w2_split (pe hs_1 rfl rfl) (fun h_1 => ?_) (fun h_1 => ?_)
  ·simp only [DD9] at h_1
   have hKq : 64 * K < q := h_1
   have hcl := hc.le
   refine w2_skip ?_
   refine hK_9 _ _ ?_
   refine w2_seq (fun K_11 hK_11 => ?_)
   refine w2_block (fun K_12 hK_12 => ?_)
   refine w2_sr (fun K_13 hK_13 => ?_)
   refine q_mv ((pm rfl).trans ta_1_0) ?_
   refine q_mv ((pm rfl).trans ta_1_1) ?_
   refine q_mv ((pm rfl).trans ta_1_2) ?_
   refine q_ca (vs := #[.slice A (m) (c), .slice B (k) (d), .int .u32 (((xorSt ks ns n bs (List.range K)).2 : Nat) : Int)]) Try.func58 (args3 (pe hs_1 rfl rfl) (pe hs_1 rfl rfl) (pe hs_1 rfl rfl)) (BlockW_ok ((xorSt ks ns n bs (List.range K)).2) _ (ha.below HBL) (hb.below HBL) hm hk (xorSt_lt ks ns n bs hn (List.range K)) hm32 hk12) (fun e_1 w_2 hR_1 => ?_)
   obtain ⟨A_1, c_1, rfl, ho_1, hb_1⟩ := hR_1
   replace ho_1 := ho_1.mono HBL.size
   replace hO := hO.nx hb_1
   have HB_1 := below_from HBL hb_1
   refine ⟨_, rfl, ?_⟩
   refine q_mv (pe hs_1 rfl rfl) ?_
   refine q_ex (v := .slice A_1 (64) (c_1)) (pe hs_1 rfl rfl) rfl ?_
   refine q_ex (v := .int .i64 ((0 : Nat) : Int)) (pe hs_1 rfl rfl) rfl ?_
   refine q_at (pe hs_1 rfl rfl) ?_
   refine q_at (v := .int .i64 ((0 : Nat) : Int)) (pe hs_1 rfl rfl) ?_
   refine x_nil (hK_13 _ _ ?_)
   refine w2_seq (fun K_14 hK_14 => ?_)
   have hsb := hc.sub (l := 64 * K) (q := q) (m := f) (by omega) (by have := hc.le; omega) (Nat.le_refl _)
   rw [show (bs.drop (64 * K)).take (q - 64 * K) = bs.drop (64 * K) from List.take_of_length_le (by rw [List.length_drop]; omega)] at hsb
   refine x_region (by kernel_rfl) ?_
   refine q_mv ((pm rfl).trans ta_1_10) ?_
   refine q_mv ((pm rfl).trans ta_1_3) ?_
   refine q_mv ((pm rfl).trans ta_1_11) ?_
   refine q_v 38 (.slice ((subA C (64 * K) f)) (q - (64 * K)) (f - (64 * K))) (o_sliceL (l := 64 * K) rfl (pe hs_1 rfl rfl) (pe hs_1 rfl rfl) (by omega)) ?_
   refine q_mv (pe hs_1 rfl rfl) ?_
   refine q_ca (vs := #[.slice ((subA C (64 * K) f)) (q - (64 * K)) (f - (64 * K)), .slice A_1 (64) (c_1)]) Try.func59 (args2 (pe hs_1 rfl rfl) (pe hs_1 rfl rfl)) (XorW_any _ (hsb.below HB_1) (ho_1).bs (by rw [List.length_drop, hq]) (by simp only [blockL_length]) (by omega)) (fun e_2 w_3 hR_2 => ?_)
   obtain ⟨A_2, c_2, rfl, ho_2, hb_2⟩ := hR_2
   replace ho_2 := ho_2.mono HB_1.size
   replace hO := hO.nx hb_2
   have HB_2 := below_from HB_1 hb_2
   refine ⟨_, rfl, ?_⟩
   refine op_ex (d := 41) rfl rfl (o_append rfl (pe hs_1 rfl rfl) (pe hs_1 rfl rfl) hO (ho_2).bs (by rw [hsl]) (by simp only [xorL_length]) (by omega) HB_2.size) (fun v_1 w_4 hR_3 => ?_)
   obtain ⟨A_3, c_3, rfl, ho_3, hb_3, hg_1, hat_1⟩ := hR_3
   have HB_3 : Below w.heap.size w w_4 := (HB_2).trans hb_3
   clear hg_1 hat_1 hO
   refine q_at (pe hs_1 rfl rfl) ?_
   refine x_nil (hK_14 _ _ ?_)
   refine x_region (by kernel_rfl) ?_
   refine q_mv ((pm rfl).trans ta_1_2) ?_
   refine q_v 43 (.int .u32 (((xorSt ks ns n bs (List.range (K + 1))).2 : Nat) : Int)) (o_eq (o_addU (m := ((xorSt ks ns n bs (List.range K)).2)) (n := 1) ((((xorSt ks ns n bs (List.range K)).2) + 1) % 4294967296) rfl (pe hs_1 rfl rfl) rfl (by rw [IntKind.wrap_u32]; omega)) (by rw [xor_snd])) ?_
   refine q_at (pe hs_1 rfl rfl) ?_
   refine x_nil (hK_12 _ _ ?_)
   refine hK_11 _ _ ?_
   refine x_region (by kernel_rfl) ?_
   refine q_mv ((pm rfl).trans ta_1_11) ?_
   refine q_v 27 (.int .i64 ((64 * (K + 1) : Nat) : Int)) (o_eq (o_add64 (m := (64 * K)) (n := 64) rfl (pe hs_1 rfl rfl) rfl (by omega)) (congrArg (fun z : Nat => Value.int .i64 (z : Int)) (by omega))) ?_
   refine q_at (pe hs_1 rfl rfl) ?_
   refine x_nil ?_
   refine hK_8 _ _ _ ⟨K + 1, _, c_3, A_3, rfl, (by rw [putsR_size]; exact hs_1), (by rw [putsR_defers]; exact hd_1), ((pm rfl).trans ta_1_0), ((pm rfl).trans ta_1_1), (pe hs_1 rfl rfl), ((pm rfl).trans ta_1_3), ((pm rfl).trans ta_1_8), ((pm rfl).trans ta_1_9), (pe hs_1 rfl rfl), (pe hs_1 rfl rfl), ((pm rfl).trans ta_1_14), ((pm rfl).trans ta_1_15), ((pm rfl).trans ta_1_16), ((pm rfl).trans ta_1_17), ((pm rfl).trans ta_1_18), ((pm rfl).trans ta_1_19), ((pm rfl).trans ta_1_20), ((pm rfl).trans ta_1_21), (by omega), (by omega), (by rw [← xor_step ks ns n hq K]; exact ho_3), HB_3⟩ ?_
   omega
  ·simp only [DD9] at h_1
   obtain rfl : K = (q + 64 - 1) / 64 := by omega
   refine w2_exit ?_
   refine thn_exit ?_
   refine thn_exit ?_
   refine exb_hit ?_
   refine hK_7 _ _ ?_
   refine hK_5 _ _ ?_
   refine w2_sr (fun K_15 hK_15 => ?_)
   refine q_mv ((pm rfl).trans ta_1_10) ?_
   refine q_at (pe hs_1 rfl rfl) ?_
   refine q_as (.int .i64 ((0 : Nat) : Int)) rfl ?_
   refine x_nil (hK_15 _ _ ?_)
   refine w2_ret ?_
   refine ret2 rfl hd_1 (pe hs_1 rfl rfl) (pe hs_1 rfl rfl) ?_
   exact ⟨_, _, by rw [hn1, Nat.min_eq_right (by omega)], (by unfold xorS; rw [hq]; exact hO), HBL⟩
theorem joinW_any {ps : List Part} {gs : Nat} (w : World) (hB : Blk w gs (ps.map Part.val).toArray 22) (hP : ∀ p ∈ ps, Bs w p.A p.c p.xs) (hl : (joinP ps ps.length).length ≤ 70368744177664) (hl2 : ps.length ≤ 4611686018427387904) :
  Calls Try.prog 61 #[.slice ((some ⟨gs, 0, none⟩)) (ps.length) (ps.length)] w fun e w' => ∃ A c, e = .returned (.slice A (joinP ps ps.length).length c) ∧ Own w' w.heap.size A c (joinP ps ps.length) ∧ Below w.heap.size w w' := by
 refine x_enter 17 Try.func61 rfl rfl (fun a hs hd ha0 => ?_)
 have t0 : a.eval (.tmp 0) = .slice ((some ⟨gs, 0, none⟩)) (ps.length) (ps.length) := ha0 0 _ rfl
 clear ha0
 refine w2_sr (fun K_1 hK_1 => ?_)
 refine q_as (.slice none (0) (0)) rfl ?_
 refine x_nil (hK_1 _ _ ?_)
 refine w2_sr (fun K_2 hK_2 => ?_)
 refine q_as (.slice none (0) (0)) rfl ?_
 refine x_nil (hK_2 _ _ ?_)
 refine w2_seq (fun K_3 hK_3 => ?_)
 refine w2_sr (fun K_4 hK_4 => ?_)
 refine q_mv ((pm rfl).trans t0) ?_
 refine q_v 7 (.int .i64 ((ps.length : Nat) : Int)) (o_lenS rfl (pe hs rfl rfl)) ?_
 refine q_v 8 (.int .i64 ((0 : Nat) : Int)) (o_move rfl rfl) ?_
 refine x_nil (hK_4 _ _ ?_)
 refine w2_block (fun K_5 hK_5 => ?_)
 refine x_loop (fun nn aa ww => ∃ (K n1 c1 : Nat) (A1 : Option Addr), nn = ps.length - K ∧ aa.tmps.size = 17 ∧ aa.defers = [] ∧ aa.eval (.tmp 0) = .slice ((some ⟨gs, 0, none⟩)) (ps.length) (ps.length) ∧ aa.eval (.tmp 2) = .slice none (0) (0) ∧ aa.eval (.tmp 3) = .slice A1 (n1) (c1) ∧ aa.eval (.tmp 6) = .slice ((some ⟨gs, 0, none⟩)) (ps.length) (ps.length) ∧ aa.eval (.tmp 7) = .int .i64 ((ps.length : Nat) : Int) ∧ aa.eval (.tmp 8) = .int .i64 ((K : Nat) : Int) ∧ K ≤ ps.length ∧ n1 = (joinP ps K).length ∧ Own ww w.heap.size A1 c1 (joinP ps K) ∧ Below w.heap.size w ww) (ps.length) ?_ ?_
 ·exact ⟨0, 0, 0, none, rfl, (by rw [putsR_size]; exact hs), (by rw [putsR_defers]; exact hd), ((pm rfl).trans t0), (pe hs rfl rfl), (pe hs rfl rfl), (pe hs rfl rfl), (pe hs rfl rfl), (pe hs rfl rfl), Nat.zero_le _, rfl, Own.nil _ _, Below.refl _ _⟩
 ·skip
  clear t0 hd
  rintro nna_1 a_1 w_1 ⟨K, n1, c1, A1, hm_1, hs_1, hd_1, ta_1_0, ta_1_2, ta_1_3, ta_1_6, ta_1_7, ta_1_8, hK, hn1, hO, HBL⟩ K_6 hK_6
  subst hm_1
  refine w2_sr (fun K_7 hK_7 => ?_)
  refine q_v 9 (.bool (decide (K < ps.length))) (o_lss (m := K) (n := ps.length) rfl ((pm rfl).trans ta_1_8) ((pm rfl).trans ta_1_7)) ?_
  refine x_nil (hK_7 _ _ ?_)
  refine w2_seq (fun K_8 hK_8 => ?_)
  refine w2_split (pe hs_1 rfl rfl) (fun h_1 => ?_) (fun h_1 => ?_)
  ·simp only [DD9] at h_1
   have hlt : K < ps.length := h_1
   have hPK := hP _ (Part.mem hlt)
   have hjl := joinP_le ps _ hl (K + 1) hlt
   rw [joinP, List.length_append] at hjl
   refine w2_skip ?_
   refine hK_8 _ _ ?_
   refine w2_seq (fun K_9 hK_9 => ?_)
   refine w2_block (fun K_10 hK_10 => ?_)
   refine w2_sr (fun K_11 hK_11 => ?_)
   refine op_val (d := 10) (v := .pointer (some ⟨gs, K, none⟩)) rfl rfl (zero_off (o_ixS (off := 0) (i := K) rfl ((pm rfl).trans ta_1_6) ((pm rfl).trans ta_1_8) (by omega))) ?_
   refine q_v 11 (.slice ((Part.at ps K).A) ((Part.at ps K).xs.length) ((Part.at ps K).c)) (o_eq (o_load1 rfl (pe hs_1 rfl rfl) (hB.nx HBL) (Part.get hlt) ⟨by kernel_rfl, by kernel_rfl⟩) rfl) ?_
   refine q_at (pe hs_1 rfl rfl) ?_
   refine x_nil (hK_11 _ _ ?_)
   refine x_region (by kernel_rfl) ?_
   refine q_mv ((pm rfl).trans ta_1_3) ?_
   refine q_mv (pe hs_1 rfl rfl) ?_
   refine op_ex (d := 14) rfl rfl (o_append rfl (pe hs_1 rfl rfl) (pe hs_1 rfl rfl) hO (hPK.below HBL) (by rw [hn1]) rfl (by omega) HBL.size) (fun v_1 w_2 hR_1 => ?_)
   obtain ⟨A_1, c_1, rfl, ho_1, hb_1, hg_1, hat_1⟩ := hR_1
   have HB_1 : Below w.heap.size w w_2 := (HBL).trans hb_1
   clear hg_1 hat_1 hO
   refine q_at (pe hs_1 rfl rfl) ?_
   refine x_nil (hK_10 _ _ ?_)
   refine hK_9 _ _ ?_
   refine x_region (by kernel_rfl) ?_
   refine q_v 15 (.int .i64 ((K + 1 : Nat) : Int)) (o_add64 (m := K) (n := 1) rfl ((pm rfl).trans ta_1_8) rfl (by omega)) ?_
   refine q_mv (pe hs_1 rfl rfl) ?_
   refine x_nil ?_
   refine hK_6 _ _ _ ⟨K + 1, _, c_1, A_1, rfl, (by rw [putsR_size]; exact hs_1), (by rw [putsR_defers]; exact hd_1), ((pm rfl).trans ta_1_0), ((pm rfl).trans ta_1_2), (pe hs_1 rfl rfl), ((pm rfl).trans ta_1_6), ((pm rfl).trans ta_1_7), (pe hs_1 rfl rfl), (by omega), (by rw [joinP, List.length_append, hn1]), ho_1, HB_1⟩ ?_
   omega
  ·simp only [DD9] at h_1
   obtain rfl : K = ps.length := by omega
   refine w2_exit ?_
   refine thn_exit ?_
   refine thn_exit ?_
   refine exb_hit ?_
   refine hK_5 _ _ ?_
   refine hK_3 _ _ ?_
   refine w2_sr (fun K_12 hK_12 => ?_)
   refine q_mv ((pm rfl).trans ta_1_3) ?_
   refine q_at (pe hs_1 rfl rfl) ?_
   refine x_nil (hK_12 _ _ ?_)
   refine w2_ret ?_
   refine ret1 rfl hd_1 (pe hs_1 rfl rfl) ?_
   exact ⟨_, _, by rw [hn1], hO, HBL⟩
theorem NonceW_any (n : Nat) (w : World) (hn : n < 18446744073709551616) :
  Calls Try.prog 10 #[.int .u64 ((n : Nat) : Int)] w fun e w' => ∃ A c, e = .returned (.slice A 12 c) ∧ Own w' w.heap.size A c (nonceL n) ∧ Below w.heap.size w w' := by
 refine x_enter 7 Try.func10 rfl rfl (fun a hs hd ha0 => ?_)
 have t0 : a.eval (.tmp 0) = .int .u64 ((n : Nat) : Int) := ha0 0 _ rfl
 clear ha0
 refine w2_sr (fun K_1 hK_1 => ?_)
 refine q_as (.slice none (0) (0)) rfl ?_
 refine x_nil (hK_1 _ _ ?_)
 refine w2_seq (fun K_2 hK_2 => ?_)
 refine x_drawn 3 [fun ww vv => OwnN w.heap.size (4) (List.replicate 4 0) ww vv, fun _ v => v = .int .u64 ((n : Nat) : Int), fun ww vv => OwnN w.heap.size (8) (putL n 8) ww vv] [3, 4, 5] hs hd (by kernel_rfl) (by kernel_rfl) (by kernel_rfl) (by kernel_rfl) (by kernel_rfl) ⟨stOwn, stLit, stOwn, trivial⟩ ⟨(step_ok rfl (fun a' w' hb' hO hD => by
   exact out_new (o_make (n := 4) rfl rfl rfl (fun _ => by kernel_rfl) (by omega)) (fun v w_1 hR => by obtain ⟨g_1, rfl, ho_1, hb_1⟩ := hR; exact ⟨⟨_, _, rfl, ho_1.mono hb'.size⟩, hb_1⟩))),
(step_ok rfl (fun a' w' hb' hO hD => by
   have d_1 := (hO 0 (by decide)).trans ((pm rfl).trans t0)
   exact .inl ⟨_, _, (o_move rfl d_1), rfl, Below.refl _ _⟩)),
(step_ok rfl (fun a' w' hb' hO hD => by
   have d_2 : a'.eval (.tmp 4) = .int .u64 ((n : Nat) : Int) := hD 1 4 (by kernel_rfl) rfl
   exact .inr ⟨_, #[.int .u64 ((n : Nat) : Int), .int .i64 ((8 : Nat) : Int)], (exec_call Try.func35 (by kernel_rfl) (by kernel_rfl) _ rfl _ _ (args2 d_2 rfl)), Calls.mono (PutLowW_any n 8 _ hn (by decide)) (fun e w'' hR => by obtain ⟨A_1, c_1, rfl, ho_2, hb_2⟩ := hR; exact ⟨_, rfl, ⟨_, _, rfl, ho_2.mono hb'.size⟩, hb_2⟩)⟩)), trivial⟩ (fun a_1 w_2 hs_1 hd_1 hb_3 hO_1 hV_1 => ?_)
 clear t0 hd
 have x_1 := hV_1 0 3 rfl rfl
 obtain ⟨A_2, c_2, hv_1, hO_2⟩ := x_1
 have x_2 := hV_1 2 5 rfl rfl
 obtain ⟨A_3, c_3, hv_2, hO_3⟩ := x_2
 clear hV_1 hO_1
 simp only [List.drop_succ_cons, List.drop_zero]
 refine op_ex (d := 6) rfl rfl (o_append rfl ((pm rfl).trans hv_1) ((pm rfl).trans hv_2) hO_2 (hO_3).bs (by rw [List.length_replicate]) (putL_length _ _) (by omega) hb_3.size) (fun v_1 w_3 hR_1 => ?_)
 obtain ⟨A_4, c_4, rfl, ho_3, hb_4, hg_1, hat_1⟩ := hR_1
 have HB_1 : Below w.heap.size w w_3 := (hb_3).trans hb_4
 clear hg_1 hat_1 hO_2
 refine q_at (pe hs_1 rfl rfl) ?_
 refine x_nil (hK_2 _ _ ?_)
 refine w2_ret ?_
 refine ret1 rfl hd_1 (pe hs_1 rfl rfl) ?_
 exact ⟨_, _, rfl, ho_3, HB_1⟩
theorem filledW_any {A : Option Addr} {c n : Nat} {xs : List Nat} (w : World) (ha : Bs w A c xs) (hn : xs.length = n) (hl : n ≤ 70368744177664) :
  Calls Try.prog 62 #[.slice A (n) (c)] w fun e w' => ∃ A c, e = .returned (.slice A (fillL xs).length c) ∧ Own w' w.heap.size A c (fillL xs) ∧ Below w.heap.size w w' := by
 refine x_enter 11 Try.func62 rfl rfl (fun a hs hd ha0 => ?_)
 have t0 : a.eval (.tmp 0) = .slice A (n) (c) := ha0 0 _ rfl
 clear ha0
 refine w2_sr (fun K_1 hK_1 => ?_)
 refine q_as (.slice none (0) (0)) rfl ?_
 refine x_nil (hK_1 _ _ ?_)
 refine w2_sr (fun K_2 hK_2 => ?_)
 refine q_mv ((pm rfl).trans t0) ?_
 refine op_ex (d := 4) rfl rfl (o_append rfl rfl (pe hs rfl rfl) (Own.nil w w.heap.size) ha rfl hn (by omega) (Nat.le_refl _)) (fun v_1 w_1 hR_1 => ?_)
 obtain ⟨A_1, c_1, rfl, ho_1, hb_1, hg_1, hat_1⟩ := hR_1
 have HB_1 : Below w.heap.size w w_1 := hb_1
 clear hg_1 hat_1 
 refine q_mv ((pm rfl).trans t0) ?_
 refine q_v 6 (.int .i64 ((n : Nat) : Int)) (o_len rfl (pe hs rfl rfl)) ?_
 refine q_v 7 (.int .i64 ((n % 16 : Nat) : Int)) (o_rem (m := n) (n := 16) rfl (pe hs rfl rfl) rfl (by omega) (IntWalk.i64_in _ (by omega))) ?_
 refine q_v 8 (.int .i64 ((16 - (n % 16) : Nat) : Int)) (o_sub64 (m := 16) (n := (n % 16)) rfl rfl (pe hs rfl rfl) (by omega) (by omega)) ?_
 refine q_v 9 (.int .i64 (((16 - (n % 16)) % 16 : Nat) : Int)) (o_rem (m := (16 - (n % 16))) (n := 16) rfl (pe hs rfl rfl) rfl (by omega) (IntWalk.i64_in _ (by omega))) ?_
 refine op_ex (d := 10) rfl rfl (o_appendZ (m := (16 - (n % 16)) % 16) rfl (pe hs rfl rfl) (pe hs rfl rfl) ho_1 (by rw [List.nil_append, hn, Nat.zero_add]) (by omega) HB_1.size) (fun v_2 w_2 hR_2 => ?_)
 obtain ⟨A_2, c_2, rfl, ho_2, hb_2, hg_2, hat_2⟩ := hR_2
 have HB_2 : Below w.heap.size w w_2 := (HB_1).trans hb_2
 clear hg_2 hat_2 ho_1
 refine q_at (pe hs rfl rfl) ?_
 refine x_nil (hK_2 _ _ ?_)
 refine w2_ret ?_
 refine ret1 rfl hd (pe hs rfl rfl) ?_
 exact ⟨_, _, by rw [fillL_length, hn, Nat.zero_add], (by unfold fillL; rw [hn]; exact ho_2), HB_2⟩
end Go.Proofs.Ytggalcdkfielkaa
