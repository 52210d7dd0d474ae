/-
 WALKS: sapperlaw6.CurveForms.
-/
import Derived.Test.YtikjcikedbcfmaaRefE
import Derived.Test.YtikjcikedbcfmaaRefF
import Derived.Test.YtikjcikedbcfmaaAwake6
namespace Go.Proofs.Ytikjcikedbcfmaa
open Go.RowKit
set_option linter.unusedVariables false
set_option linter.unusedSimpArgs false
set_option maxRecDepth 100000
attribute [local irreducible] wpList wpListIn putsR

set_option linter.constructorNameAsVariable false
/-- What a secret and a place come to: the bytes that are told, the number of the error. -/
def mulRes (ks us : List Nat) : List Nat × Nat := if ks.length = 32 ∧ us.length = 32 then (if (xmul ks us).val = 0 then ([], 5) else (nbL (xmul ks us), 0)) else ([], 1)
def clRes (ks : List Nat) : List Nat × Nat := if ks.length = 32 then (clampL ks, 0) else ([], 1)
theorem mul_no {ks us : List Nat} (h : ¬ (ks.length = 32 ∧ us.length = 32)) : mulRes ks us = ([], 1) := by unfold mulRes; rw [if_neg h]
theorem mul_zero {ks us : List Nat} (h : ks.length = 32) (h2 : us.length = 32) (hz : (xmul ks us).val = 0) : mulRes ks us = ([], 5) := by unfold mulRes; rw [if_pos ⟨h, h2⟩, if_pos hz]
theorem mul_ok {ks us : List Nat} (h : ks.length = 32) (h2 : us.length = 32) (hz : ¬ (xmul ks us).val = 0) : mulRes ks us = (nbL (xmul ks us), 0) := by unfold mulRes; rw [if_pos ⟨h, h2⟩, if_neg hz]
theorem MultP_any {A B : Option Addr} {c d q m : Nat} {ks us : List Nat} (w : World) (h0 : Bs w A c ks) (hk : ks.length = q) (h1 : Bs w B d us) (hm : us.length = m) :
  Calls Try.prog 25 #[.slice A q c, .slice B m d] w fun e w' => ∃ A c, e = .returned (.tuple #[.slice A (mulRes ks us).1.length c, .int .i64 (((mulRes ks us).2 : Nat) : Int)]) ∧ Own w' w.heap.size A c (mulRes ks us).1 ∧ Below w.heap.size w w' := by
 by_cases h32 : q = 32
 ·by_cases m32 : m = 32
  ·subst h32
   subst m32
   refine Calls.mono (Mult_any w h0 h1 hk hm) ?_
   rintro e w' ⟨h, hb⟩
   unfold MultPost at h
   by_cases hz : (xmul ks us).val = 0
   ·rw [if_pos hz] at h
    rw [mul_zero hk hm hz]
    exact ⟨none, 0, h, Own.nil _ _, hb⟩
   ·rw [if_neg hz] at h
    obtain ⟨A', c', h2, h3⟩ := h
    rw [mul_ok hk hm hz]
    refine ⟨A', c', ?_, by rw [nbL_byte]; exact h3, hb⟩
    dsimp only
    rw [nbL_length]
    exact h2
  ·subst h32
   refine Calls.mono (Mult_no2 w h0 hk h1 hm m32) ?_
   rintro e w' ⟨h, hb⟩
   rw [mul_no (fun h9 => m32 (hm.symm.trans h9.2))]
   exact ⟨none, 0, h, Own.nil _ _, hb⟩
 ·refine Calls.mono (Mult_no1 w h32 h1 hm) ?_
  rintro e w' ⟨h, hb⟩
  rw [mul_no (fun h9 => h32 (hk.symm.trans h9.1))]
  exact ⟨none, 0, h, Own.nil _ _, hb⟩
theorem MultQ_any {A B : Option Addr} {c d q m : Nat} {ks us : List Nat} (w : World) (h0 : Bs w A c ks) (hk : ks.length = q) (h1 : Bs w B d us) (hm : us.length = m) :
  Calls Try.prog 26 #[.slice A q c, .slice B m d] w fun e w' => ∃ A c, e = .returned (.tuple #[.slice A (mulRes ks us).1.length c, .int .i64 (((mulRes ks us).2 : Nat) : Int)]) ∧ Own w' w.heap.size A c (mulRes ks us).1 ∧ Below w.heap.size w w' := by
 by_cases h32 : q = 32
 ·by_cases m32 : m = 32
  ·by_cases hz : (xmul ks us).val = 0
   ·refine Calls.mono (MultR_zero w h0 hk h1 hm h32 m32 hz) ?_
    rintro e w' ⟨h, hb⟩
    rw [mul_zero (hk.trans h32) (hm.trans m32) hz]
    exact ⟨none, 0, h, Own.nil _ _, hb⟩
   ·refine Calls.mono (MultR_ok w h0 hk h1 hm h32 m32 hz) ?_
    rintro e w' ⟨A', c', h2, h3, hb⟩
    rw [mul_ok (hk.trans h32) (hm.trans m32) hz]
    refine ⟨A', c', ?_, h3, hb⟩
    dsimp only
    rw [nbL_length]
    exact h2
  ·refine Calls.mono (MultR_no1 w h0 hk h1 hm h32 m32) ?_
   rintro e w' ⟨h, hb⟩
   rw [mul_no (fun h9 => m32 (hm.symm.trans h9.2))]
   exact ⟨none, 0, h, Own.nil _ _, hb⟩
 ·have hno := mul_no (ks := ks) (us := us) (fun h9 => h32 (hk.symm.trans h9.1))
  by_cases m32 : m = 32
  ·refine Calls.mono (MultR_no0 w h0 hk h1 hm h32 m32) ?_
   rintro e w' ⟨h, hb⟩
   rw [hno]
   exact ⟨none, 0, h, Own.nil _ _, hb⟩
  ·refine Calls.mono (MultR_no2 w h0 hk h1 hm h32 m32) ?_
   rintro e w' ⟨h, hb⟩
   rw [hno]
   exact ⟨none, 0, h, Own.nil _ _, hb⟩
theorem ClampP_any {A : Option Addr} {c q : Nat} {ks : List Nat} (w : World) (h0 : Bs w A c ks) (hk : ks.length = q) :
  Calls Try.prog 23 #[.slice A q c] w fun e w' => ∃ A c, e = .returned (.tuple #[.slice A (clRes ks).1.length c, .int .i64 (((clRes ks).2 : Nat) : Int)]) ∧ Own w' w.heap.size A c (clRes ks).1 ∧ Below w.heap.size w w' := by
 by_cases h32 : q = 32
 ·subst h32
  refine Calls.mono (Clamp_any w h0 hk) ?_
  rintro e w' ⟨g, c', h2, h3, hb⟩
  have e1 : clRes ks = (clampL ks, 0) := by unfold clRes; rw [if_pos hk]
  rw [e1]
  refine ⟨_, c', ?_, h3, hb⟩
  dsimp only
  rw [clampL_len hk rfl]
  exact h2
 ·refine Calls.mono (Clamp_no w h32) ?_
  rintro e w' ⟨h, rfl⟩
  have e1 : clRes ks = ([], 1) := by unfold clRes; rw [if_neg (by rw [hk]; exact h32)]
  rw [e1]
  exact ⟨none, 0, h, Own.nil _ _, Below.refl _ _⟩
theorem ClampQ_any {A : Option Addr} {c q : Nat} {ks : List Nat} (w : World) (h0 : Bs w A c ks) (hk : ks.length = q) :
  Calls Try.prog 24 #[.slice A q c] w fun e w' => ∃ A c, e = .returned (.tuple #[.slice A (clRes ks).1.length c, .int .i64 (((clRes ks).2 : Nat) : Int)]) ∧ Own w' w.heap.size A c (clRes ks).1 ∧ Below w.heap.size w w' := by
 by_cases h32 : q = 32
 ·refine Calls.mono (ClampR_ok w h0 hk h32) ?_
  rintro e w' ⟨A', c', h2, h3, hb⟩
  have e1 : clRes ks = (clampL ks, 0) := by unfold clRes; rw [if_pos (hk.trans h32)]
  rw [e1]
  refine ⟨A', c', ?_, h3, hb⟩
  dsimp only
  rw [clampL_len hk h32]
  exact h2
 ·refine Calls.mono (ClampR_no w h32) ?_
  rintro e w' ⟨h, rfl⟩
  have e1 : clRes ks = ([], 1) := by unfold clRes; rw [if_neg (by rw [hk]; exact h32)]
  rw [e1]
  exact ⟨none, 0, h, Own.nil _ _, Below.refl _ _⟩
theorem Key6_own {A : Option Addr} {c n : Nat} {xs : List Nat} (w : World) (ha : Bs w A c xs) (hn : xs.length = n) :
  Calls Try.prog 27 #[.slice A n c] w fun e w' => ∃ A c, e = .returned (.slice A 32 c) ∧ Own w' w.heap.size A c (padTo 32 xs) ∧ Below w.heap.size w w' := by
 refine Calls.mono (Key6_n hn w ha) ?_
 rintro e w' ⟨g, h1, h2, h3⟩
 exact ⟨_, _, h1, h2, h3⟩
theorem nine_put : putK 9 32 = (List.replicate 32 0).set 0 9 := by decide +kernel
section
variable {o : Oper} {ev : Operand → Value} {w : World} {x y : Operand} {T U : TypeId}
theorem o_make {n : Nat} (ho : o.op = .makeSlice 22 x y) (hx : ev x = .int .i64 (n : Int)) (hy : ev y = .int .i64 (n : Int))
  (hm : ∀ w : World, (Instr.makeSlice 22 (.int .i64 (n : Int)) (.int .i64 (n : Int))).run Try.prog w = .ok (.slice (some ⟨w.heap.size, 0, none⟩) n n) (w.alloc (.cells (u8s (List.replicate n 0)).toArray 5))) (hn : n ≤ 9223372036854775807) :
  ∃ v w', (execOp ev o).run Try.prog w = .ok (.value v) w' ∧ ∃ g, v = .slice (some ⟨g, 0, none⟩) n n ∧ Own w' w.heap.size (some ⟨g, 0, none⟩) n (List.replicate n 0) ∧ Below w.heap.size w w' := by
 refine ⟨_, w.alloc (.cells (u8s (List.replicate n 0)).toArray 5), ?_, w.heap.size, rfl, ?_, (Below.refl _ _).alloc (Nat.le_refl _) _⟩
 ·simp only [execOp, ho, hx, hy, hm, Sem.run_bind, Sem.run_pure, Result.andThen_ok]
 ·have h := Own.of_blk (xs := List.replicate n 0) (Blk.new w _ _) (Nat.le_refl _) (fun y hy => by rw [(List.mem_replicate.1 hy).2]; omega) (by simpa using hn)
  simpa using h
theorem o_shrG {k' : IntKind} {m n : Nat} (ho : o.op = .binOp .shr T x y U) (hx : ev x = .int .u64 (m : Int)) (hy : ev y = .int k' (n : Int)) (hm : m < 18446744073709551616) :
  (execOp ev o).run Try.prog w = .ok (.value (.int .u64 ((m / 2 ^ n : Nat) : Int))) w := by
 by_cases hn : n ≤ 64
 ·exact o_shr ho hx hy hn
 ·have h0 : ¬ ((n : Int) < 0) := by omega
  have hmin : min n IntKind.u64.bits = 64 := Nat.min_eq_right (by show 64 ≤ n; omega)
  have e1 : (m : Int).fdiv 18446744073709551616 = 0 := by
   rw [Int.fdiv_eq_ediv_of_nonneg (b := 18446744073709551616) _ (by decide)]
   omega
  have e2 : m / 2 ^ n = 0 := Nat.div_eq_of_lt (Nat.lt_of_lt_of_le (show m < 2 ^ 64 from hm) (Nat.pow_le_pow_right (show 2 > 0 by decide) (show 64 ≤ n by omega)))
  rw [e2]
  simp [execOp, ho, hx, hy, eqGuard, binOp, Op.shift, h0, hmin, e1, Sem.run_bind, Sem.run_pure]
end
theorem PutLowG_any (x n : Nat) (w : World) (hx : x < 18446744073709551616) (hn : n ≤ 64) :
  Calls Try.prog 38 #[.int .u64 ((x : Nat) : Int), .int .i64 ((n : Nat) : Int)] w fun e w' => ∃ A c, e = .returned (.slice A n c) ∧ Own w' w.heap.size A c (putK x n) ∧ Below w.heap.size w w' := by
 refine x_enter 22 Try.func38 rfl rfl (fun a hs hd ha0 => ?_)
 have t0 : a.eval (.tmp 0) = .int .u64 ((x : Nat) : Int) := ha0 0 _ rfl
 have t1 : a.eval (.tmp 1) = .int .i64 ((n : Nat) : Int) := ha0 1 _ rfl
 clear ha0
 refine w2_sr (fun K_1 hK_1 => ?_)
 refine q_as (.slice none (0) (0)) rfl ?_
 refine x_nil (hK_1 _ _ ?_)
 refine w2_sr (fun K_2 hK_2 => ?_)
 refine q_as (.slice none (0) (0)) rfl ?_
 refine x_nil (hK_2 _ _ ?_)
 refine w2_seq (fun K_3 hK_3 => ?_)
 refine w2_sr (fun K_4 hK_4 => ?_)
 refine q_mv ((pm rfl).trans t1) ?_
 refine q_v 8 (.int .i64 ((0 : Nat) : Int)) (o_move rfl rfl) ?_
 refine x_nil (hK_4 _ _ ?_)
 refine w2_block (fun K_5 hK_5 => ?_)
 refine x_loop (fun nn aa ww => ∃ (K : Nat) (A1 : Option Addr) (c1 : Nat), nn = n - K ∧ aa.tmps.size = 22 ∧ aa.defers = [] ∧ aa.eval (.tmp 0) = .int .u64 ((x : Nat) : Int) ∧ aa.eval (.tmp 1) = .int .i64 ((n : Nat) : Int) ∧ aa.eval (.tmp 4) = .slice none (0) (0) ∧ aa.eval (.tmp 5) = .slice A1 (K) (c1) ∧ aa.eval (.tmp 7) = .int .i64 ((n : Nat) : Int) ∧ aa.eval (.tmp 8) = .int .i64 ((K : Nat) : Int) ∧ K ≤ n ∧ Own ww w.heap.size A1 c1 (putK x K) ∧ Below w.heap.size w ww) (n) ?_ ?_
 ·exact ⟨0, none, 0, rfl, (by rw [putsR_size]; exact hs), (by rw [putsR_defers]; exact hd), ((pm rfl).trans t0), ((pm rfl).trans t1), (pe hs rfl rfl), (pe hs rfl rfl), (pe hs rfl rfl), (pe hs rfl rfl), Nat.zero_le _, Own.nil _ _, Below.refl _ _⟩
 ·skip
  clear t0 t1 hd
  rintro nna_1 a_1 w_1 ⟨K, A1, c1, hm_1, hs_1, hd_1, ta_1_0, ta_1_1, ta_1_4, ta_1_5, ta_1_7, ta_1_8, hK, hO, HBL⟩ K_6 hK_6
  subst hm_1
  refine w2_sr (fun K_7 hK_7 => ?_)
  refine q_v 9 (.bool (decide (K < n))) (o_lss (m := K) (n := n) rfl ((pm rfl).trans ta_1_8) ((pm rfl).trans ta_1_7)) ?_
  refine x_nil (hK_7 _ _ ?_)
  refine w2_seq (fun K_8 hK_8 => ?_)
  refine w2_split (pe hs_1 rfl rfl) (fun h_1 => ?_) (fun h_1 => ?_)
  ·simp only [DD9] at h_1
   refine w2_skip ?_
   refine hK_8 _ _ ?_
   refine w2_seq (fun K_9 hK_9 => ?_)
   refine w2_block (fun K_10 hK_10 => ?_)
   refine w2_sr (fun K_11 hK_11 => ?_)
   refine q_mv ((pm rfl).trans ta_1_8) ?_
   refine q_at (pe hs_1 rfl rfl) ?_
   refine x_nil (hK_11 _ _ ?_)
   refine x_region (by kernel_rfl) ?_
   refine q_mv ((pm rfl).trans ta_1_5) ?_
   refine q_mv ((pm rfl).trans ta_1_0) ?_
   refine q_mv (pe hs_1 rfl rfl) ?_
   refine q_v 14 (.int .i64 ((8 * K : Nat) : Int)) (o_mul64 (m := 8) (n := K) rfl rfl (pe hs_1 rfl rfl) (by omega)) ?_
   refine q_v 15 (.int .u64 ((8 * K : Nat) : Int)) (o_conv (m := (8 * K)) (r := 8 * K) rfl (pe hs_1 rfl rfl) ⟨.int .i64, fun _ => by kernel_rfl⟩ (fun _ => by kernel_rfl) (by rw [IntKind.wrap_u64]; omega)) ?_
   refine q_v 16 (.int .u64 ((x / 2 ^ (8 * K) : Nat) : Int)) (o_shrG (m := x) (n := 8 * K) rfl (pe hs_1 rfl rfl) (pe hs_1 rfl rfl) hx) ?_
   refine q_v 17 (.int .u8 (((x / 2 ^ (8 * K)) % 256 : Nat) : Int)) (o_conv (m := (x / 2 ^ (8 * K))) (r := (x / 2 ^ (8 * K)) % 256) rfl (pe hs_1 rfl rfl) ⟨.int .u64, fun _ => by kernel_rfl⟩ (fun _ => by kernel_rfl) (by rw [IntKind.wrap_u8]; omega)) ?_
   refine op_ex (d := 18) rfl rfl (o_build1 (m := (x / 2 ^ (8 * K)) % 256) rfl (pe hs_1 rfl rfl) (Nat.mod_lt _ (by decide))) (fun v_1 w_2 hR_1 => ?_)
   obtain ⟨g_1, rfl, ho_1, hb_1⟩ := hR_1
   replace ho_1 := ho_1.mono HBL.size
   replace hO := hO.nx hb_1
   have HB_1 := below_from HBL hb_1
   refine op_ex (d := 19) rfl rfl (o_append rfl (pe hs_1 rfl rfl) (pe hs_1 rfl rfl) hO (ho_1).bs (by rw [(putK_length x K)]) (by simp only [List.length_cons, List.length_nil]) (by omega) HB_1.size) (fun v_2 w_3 hR_2 => ?_)
   obtain ⟨A_1, c_1, rfl, ho_2, hb_2, hg_1, hat_1⟩ := hR_2
   have HB_2 : Below w.heap.size w w_3 := (HB_1).trans hb_2
   clear hg_1 hat_1 hO
   refine q_at (pe hs_1 rfl rfl) ?_
   refine x_nil (hK_10 _ _ ?_)
   refine hK_9 _ _ ?_
   refine x_region (by kernel_rfl) ?_
   refine q_v 20 (.int .i64 ((K + 1 : Nat) : Int)) (o_add64 (m := K) (n := 1) rfl ((pm rfl).trans ta_1_8) rfl (by omega)) ?_
   refine q_mv (pe hs_1 rfl rfl) ?_
   refine x_nil ?_
   refine hK_6 _ _ _ ⟨K + 1, A_1, c_1, rfl, (by rw [putsR_size]; exact hs_1), (by rw [putsR_defers]; exact hd_1), ((pm rfl).trans ta_1_0), ((pm rfl).trans ta_1_1), ((pm rfl).trans ta_1_4), (pe hs_1 rfl rfl), ((pm rfl).trans ta_1_7), (pe hs_1 rfl rfl), (by omega), ho_2, HB_2⟩ ?_
   omega
  ·simp only [DD9] at h_1
   obtain rfl : K = n := by omega
   refine w2_exit ?_
   refine thn_exit ?_
   refine thn_exit ?_
   refine exb_hit ?_
   refine hK_5 _ _ ?_
   refine hK_3 _ _ ?_
   refine w2_sr (fun K_12 hK_12 => ?_)
   refine q_mv ((pm rfl).trans ta_1_5) ?_
   refine q_at (pe hs_1 rfl rfl) ?_
   refine x_nil (hK_12 _ _ ?_)
   refine w2_ret ?_
   refine ret1 rfl hd_1 (pe hs_1 rfl rfl) ?_
   exact ⟨_, _, rfl, hO, HBL⟩
theorem BaseQ_any {A : Option Addr} {c q : Nat} {ks : List Nat} (w : World) (h0 : Bs w A c ks) (hq : ks.length = q) :
  Calls Try.prog 29 #[.slice A (q) (c)] w fun e w' => ∃ A c, e = .returned (.tuple #[.slice A (mulRes ks (putK 9 32)).1.length c, .int .i64 (((mulRes ks (putK 9 32)).2 : Nat) : Int)]) ∧ Own w' w.heap.size A c (mulRes ks (putK 9 32)).1 ∧ Below w.heap.size w w' := by
 refine x_enter 9 Try.func29 rfl rfl (fun a hs hd ha0 => ?_)
 have t0 : a.eval (.tmp 0) = .slice A (q) (c) := ha0 0 _ rfl
 clear ha0
 refine w2_sr (fun K_1 hK_1 => ?_)
 refine q_as (.slice none (0) (0)) rfl ?_
 refine q_as (.int .i64 ((0 : Nat) : Int)) rfl ?_
 refine x_nil (hK_1 _ _ ?_)
 refine w2_sr (fun K_2 hK_2 => ?_)
 refine q_mv ((pm rfl).trans t0) ?_
 refine q_ca (vs := #[.int .u64 ((9 : Nat) : Int), .int .i64 ((32 : Nat) : Int)]) Try.func38 (args2 rfl rfl) (PutLowG_any 9 32 _ (by decide) (by decide)) (fun e_1 w_1 hR_1 => ?_)
 obtain ⟨A_1, c_1, rfl, ho_1, hb_1⟩ := hR_1
 refine ⟨_, rfl, ?_⟩
 refine q_ca (vs := #[.slice A (q) (c), .slice A_1 (32) (c_1)]) Try.func26 (args2 (pe hs rfl rfl) (pe hs rfl rfl)) (MultQ_any _ (h0.below hb_1) hq (ho_1).bs (putK_length _ _)) (fun e_2 w_2 hR_2 => ?_)
 obtain ⟨A_2, c_2, rfl, ho_2, hb_2⟩ := hR_2
 replace ho_2 := ho_2.mono hb_1.size
 have HB_1 := below_from hb_1 hb_2
 refine ⟨_, rfl, ?_⟩
 refine q_ex (v := .slice A_2 ((mulRes ks (putK 9 32)).1.length) (c_2)) (pe hs rfl rfl) rfl ?_
 refine q_ex (v := .int .i64 (((mulRes ks (putK 9 32)).2 : Nat) : Int)) (pe hs rfl rfl) rfl ?_
 refine q_at (pe hs rfl rfl) ?_
 refine q_at (pe hs rfl rfl) ?_
 refine x_nil (hK_2 _ _ ?_)
 refine w2_ret ?_
 refine ret2 rfl hd (pe hs rfl rfl) (pe hs rfl rfl) ?_
 exact ⟨_, _, rfl, ho_2, HB_1⟩
theorem BaseP_any {A : Option Addr} {c q : Nat} {ks : List Nat} (w : World) (h0 : Bs w A c ks) (hq : ks.length = q) :
  Calls Try.prog 28 #[.slice A (q) (c)] w fun e w' => ∃ A c, e = .returned (.tuple #[.slice A (mulRes ks (putK 9 32)).1.length c, .int .i64 (((mulRes ks (putK 9 32)).2 : Nat) : Int)]) ∧ Own w' w.heap.size A c (mulRes ks (putK 9 32)).1 ∧ Below w.heap.size w w' := by
 refine x_enter 13 Try.func28 rfl rfl (fun a hs hd ha0 => ?_)
 have t0 : a.eval (.tmp 0) = .slice A (q) (c) := ha0 0 _ rfl
 clear ha0
 refine w2_sr (fun K_1 hK_1 => ?_)
 refine q_as (.slice none (0) (0)) rfl ?_
 refine q_as (.int .i64 ((0 : Nat) : Int)) rfl ?_
 refine x_nil (hK_1 _ _ ?_)
 refine w2_sr (fun K_2 hK_2 => ?_)
 refine op_ex (d := 5) rfl rfl (o_make (n := 32) rfl rfl rfl (fun _ => by kernel_rfl) (by omega)) (fun v_1 w_1 hR_1 => ?_)
 obtain ⟨g_1, rfl, ho_1, hb_1⟩ := hR_1
 refine q_at (pe hs rfl rfl) ?_
 refine x_nil (hK_2 _ _ ?_)
 refine w2_sr (fun K_3 hK_3 => ?_)
 refine q_mv (pe hs rfl rfl) ?_
 refine q_v 7 (.pointer (atA ((some ⟨g_1, 0, none⟩)) (0))) (o_ix (k := 0) rfl (pe hs rfl rfl) rfl (by omega) ((ho_1).bs.some (by rw [List.length_replicate]; omega))) ?_
 refine op_do rfl rfl (o_st8 rfl (pe hs rfl rfl) rfl ho_1 (by have h9 : (List.replicate 32 0).length = 32 := (by simp only [List.length_replicate]); omega) (by decide) ⟨by kernel_rfl, by kernel_rfl⟩) (fun w_2 hR_2 => ?_)
 obtain ⟨ho_2, hb_2⟩ := hR_2
 have HB_1 := hb_1.trans hb_2
 refine x_nil (hK_3 _ _ ?_)
 refine w2_seq (fun K_4 hK_4 => ?_)
 rw [← nine_put] at ho_2
 refine x_region (by kernel_rfl) ?_
 refine q_mv ((pm rfl).trans t0) ?_
 refine q_mv (pe hs rfl rfl) ?_
 refine q_ca (vs := #[.slice A (q) (c), .slice ((some ⟨g_1, 0, none⟩)) (32) (32)]) Try.func25 (args2 (pe hs rfl rfl) (pe hs rfl rfl)) (MultP_any _ (h0.below HB_1) hq (ho_2).bs (putK_length _ _)) (fun e_1 w_3 hR_3 => ?_)
 obtain ⟨A_1, c_1, rfl, ho_3, hb_3⟩ := hR_3
 replace ho_3 := ho_3.mono HB_1.size
 have HB_2 := below_from HB_1 hb_3
 refine ⟨_, rfl, ?_⟩
 refine q_ex (v := .slice A_1 ((mulRes ks (putK 9 32)).1.length) (c_1)) (pe hs rfl rfl) rfl ?_
 refine q_ex (v := .int .i64 (((mulRes ks (putK 9 32)).2 : Nat) : Int)) (pe hs rfl rfl) rfl ?_
 refine q_at (pe hs rfl rfl) ?_
 refine q_at (pe hs rfl rfl) ?_
 refine x_nil (hK_4 _ _ ?_)
 refine w2_ret ?_
 refine ret2 rfl hd (pe hs rfl rfl) (pe hs rfl rfl) ?_
 exact ⟨_, _, rfl, ho_3, HB_2⟩
theorem CForms0 {A1 A2 : Option Addr} {c1 c2 n1 n2 : Nat} {xa xb : List Nat} (w : World) (h1 : Bs w A1 c1 xa) (l1 : xa.length = n1) (h2 : Bs w A2 c2 xb) (l2 : xb.length = n2) (hbig : 40 < n1) :
  Calls Try.prog 4 #[.slice A1 (n1) (c1), .slice A2 (n2) (c2)] w fun e w' => e = .returned (.bool true) ∧ Below w.heap.size w w' := by
 refine x_enter 127 Try.func4 rfl rfl (fun a hs hd ha0 => ?_)
 have t0 : a.eval (.tmp 0) = .slice A1 (n1) (c1) := ha0 0 _ rfl
 clear ha0
 refine w2_sr (fun K_1 hK_1 => ?_)
 refine q_as (.bool (false)) rfl ?_
 refine x_nil (hK_1 _ _ ?_)
 refine w2_seq (fun K_2 hK_2 => ?_)
 refine w2_sr (fun K_3 hK_3 => ?_)
 refine q_mv ((pm rfl).trans t0) ?_
 refine q_v 22 (.int .i64 ((n1 : Nat) : Int)) (o_len rfl (pe hs rfl rfl)) ?_
 refine q_v 23 (.bool (true)) (o_eq (o_gtr (m := n1) (n := 40) rfl (pe hs rfl rfl) rfl) (by rw [decide_eq_true hbig])) ?_
 refine q_mv (pe hs rfl rfl) ?_
 refine op_left (e := 24) rfl rfl (by kernel_rfl) (pe hs rfl rfl) rfl ?_
 refine op_left (e := 24) rfl rfl (by kernel_rfl) (pe hs rfl rfl) rfl ?_
 refine op_left (e := 24) rfl rfl (by kernel_rfl) (pe hs rfl rfl) rfl ?_
 refine q_v 28 (.bool (true)) (o_pickT rfl (pe hs rfl rfl) rfl) ?_
 refine x_nil (hK_3 _ _ ?_)
 refine w2_condT (pe hs rfl rfl) ?_
 refine w2_sr (fun K_4 hK_4 => ?_)
 refine q_ca (vs := #[]) Try.func22 (args0) (awake6_any _) (fun e_1 w_1 hR_1 => ?_)
 obtain ⟨rfl, hb_2⟩ := hR_1
 refine ⟨_, rfl, ?_⟩
 refine q_at (pe hs rfl rfl) ?_
 refine x_nil (hK_4 _ _ ?_)
 refine w2_ret ?_
 refine thn_ret ?_
 refine ret1 rfl hd (pe hs rfl rfl) ?_
 exact ⟨rfl, hb_2⟩
theorem CForms1 {A1 A2 : Option Addr} {c1 c2 n1 n2 : Nat} {xa xb : List Nat} (w : World) (h1 : Bs w A1 c1 xa) (l1 : xa.length = n1) (h2 : Bs w A2 c2 xb) (l2 : xb.length = n2) (p1 : n1 ≤ 40) (hbig : 40 < n2) :
  Calls Try.prog 4 #[.slice A1 (n1) (c1), .slice A2 (n2) (c2)] w fun e w' => e = .returned (.bool true) ∧ Below w.heap.size w w' := by
 refine x_enter 127 Try.func4 rfl rfl (fun a hs hd ha0 => ?_)
 have t0 : a.eval (.tmp 0) = .slice A1 (n1) (c1) := ha0 0 _ rfl
 have t1 : a.eval (.tmp 1) = .slice A2 (n2) (c2) := ha0 1 _ rfl
 clear ha0
 refine w2_sr (fun K_1 hK_1 => ?_)
 refine q_as (.bool (false)) rfl ?_
 refine x_nil (hK_1 _ _ ?_)
 refine w2_seq (fun K_2 hK_2 => ?_)
 refine w2_sr (fun K_3 hK_3 => ?_)
 refine q_mv ((pm rfl).trans t0) ?_
 refine q_v 22 (.int .i64 ((n1 : Nat) : Int)) (o_len rfl (pe hs rfl rfl)) ?_
 refine q_v 23 (.bool (false)) (o_eq (o_gtr (m := n1) (n := 40) rfl (pe hs rfl rfl) rfl) (by rw [decide_eq_false (by omega)])) ?_
 refine q_mv (pe hs rfl rfl) ?_
 refine op_valG (e := 24) (d := 25) (v := .slice A2 (n2) (c2)) rfl rfl (by kernel_rfl) (pe hs rfl rfl) (o_move rfl ((pm rfl).trans t1)) ?_
 refine op_valG (e := 24) (d := 26) (v := .int .i64 ((n2 : Nat) : Int)) rfl rfl (by kernel_rfl) (pe hs rfl rfl) (o_len rfl (pe hs rfl rfl)) ?_
 refine op_valG (e := 24) (d := 27) (v := .bool (true)) rfl rfl (by kernel_rfl) (pe hs rfl rfl) (o_eq (o_gtr (m := n2) (n := 40) rfl (pe hs rfl rfl) rfl) (by rw [decide_eq_true hbig])) ?_
 refine q_v 28 (.bool (true)) (o_pickF rfl (pe hs rfl rfl) (pe hs rfl rfl)) ?_
 refine x_nil (hK_3 _ _ ?_)
 refine w2_condT (pe hs rfl rfl) ?_
 refine w2_sr (fun K_4 hK_4 => ?_)
 refine q_ca (vs := #[]) Try.func22 (args0) (awake6_any _) (fun e_1 w_1 hR_1 => ?_)
 obtain ⟨rfl, hb_2⟩ := hR_1
 refine ⟨_, rfl, ?_⟩
 refine q_at (pe hs rfl rfl) ?_
 refine x_nil (hK_4 _ _ ?_)
 refine w2_ret ?_
 refine thn_ret ?_
 refine ret1 rfl hd (pe hs rfl rfl) ?_
 exact ⟨rfl, hb_2⟩
set_option maxHeartbeats 4000000 in
theorem CFormsM {A1 A2 : Option Addr} {c1 c2 n1 n2 : Nat} {xa xb : List Nat} (w : World) (h1 : Bs w A1 c1 xa) (l1 : xa.length = n1) (h2 : Bs w A2 c2 xb) (l2 : xb.length = n2) (p1 : n1 ≤ 40) (p2 : n2 ≤ 40) :
  Calls Try.prog 4 #[.slice A1 (n1) (c1), .slice A2 (n2) (c2)] w fun e w' => e = .returned (.bool true) ∧ Below w.heap.size w w' := by
 refine x_enter 127 Try.func4 rfl rfl (fun a hs hd ha0 => ?_)
 have t0 : a.eval (.tmp 0) = .slice A1 (n1) (c1) := ha0 0 _ rfl
 have t1 : a.eval (.tmp 1) = .slice A2 (n2) (c2) := ha0 1 _ rfl
 clear ha0
 refine w2_sr (fun K_1 hK_1 => ?_)
 refine q_as (.bool (false)) rfl ?_
 refine x_nil (hK_1 _ _ ?_)
 refine w2_seq (fun K_2 hK_2 => ?_)
 refine w2_sr (fun K_3 hK_3 => ?_)
 refine q_mv ((pm rfl).trans t0) ?_
 refine q_v 22 (.int .i64 ((n1 : Nat) : Int)) (o_len rfl (pe hs rfl rfl)) ?_
 refine q_v 23 (.bool (false)) (o_eq (o_gtr (m := n1) (n := 40) rfl (pe hs rfl rfl) rfl) (by rw [decide_eq_false (by omega)])) ?_
 refine q_mv (pe hs rfl rfl) ?_
 refine op_valG (e := 24) (d := 25) (v := .slice A2 (n2) (c2)) rfl rfl (by kernel_rfl) (pe hs rfl rfl) (o_move rfl ((pm rfl).trans t1)) ?_
 refine op_valG (e := 24) (d := 26) (v := .int .i64 ((n2 : Nat) : Int)) rfl rfl (by kernel_rfl) (pe hs rfl rfl) (o_len rfl (pe hs rfl rfl)) ?_
 refine op_valG (e := 24) (d := 27) (v := .bool (false)) rfl rfl (by kernel_rfl) (pe hs rfl rfl) (o_eq (o_gtr (m := n2) (n := 40) rfl (pe hs rfl rfl) rfl) (by rw [decide_eq_false (by omega)])) ?_
 refine q_v 28 (.bool (false)) (o_pickF rfl (pe hs rfl rfl) (pe hs rfl rfl)) ?_
 refine x_nil (hK_3 _ _ ?_)
 refine w2_condF (pe hs rfl rfl) ?_
 refine w2_skip ?_
 refine hK_2 _ _ ?_
 refine w2_sr (fun K_4 hK_4 => ?_)
 refine q_mv ((pm rfl).trans t0) ?_
 refine q_ca (vs := #[.slice A1 (n1) (c1)]) Try.func23 (args1 (pe hs rfl rfl)) (ClampP_any _ h1 (by simp only [l1])) (fun e_1 w_1 hR_1 => ?_)
 obtain ⟨A_1, c_1, rfl, ho_1, hb_1⟩ := hR_1
 refine ⟨_, rfl, ?_⟩
 refine q_mv (pe hs rfl rfl) ?_
 refine q_ex (v := .slice A_1 ((clRes xa).1.length) (c_1)) (pe hs rfl rfl) rfl ?_
 refine q_ex (v := .int .i64 (((clRes xa).2 : Nat) : Int)) (pe hs rfl rfl) rfl ?_
 refine q_at (pe hs rfl rfl) ?_
 refine q_at (pe hs rfl rfl) ?_
 refine x_nil (hK_4 _ _ ?_)
 refine w2_sr (fun K_5 hK_5 => ?_)
 refine q_mv ((pm rfl).trans t0) ?_
 refine q_ca (vs := #[.slice A1 (n1) (c1)]) Try.func24 (args1 (pe hs rfl rfl)) (ClampQ_any _ (h1.below hb_1) (by simp only [l1])) (fun e_2 w_2 hR_2 => ?_)
 obtain ⟨A_2, c_2, rfl, ho_2, hb_2⟩ := hR_2
 replace ho_2 := ho_2.mono hb_1.size
 replace ho_1 := ho_1.nx hb_2
 have HB_1 := below_from hb_1 hb_2
 refine ⟨_, rfl, ?_⟩
 refine q_mv (pe hs rfl rfl) ?_
 refine q_ex (v := .slice A_2 ((clRes xa).1.length) (c_2)) (pe hs rfl rfl) rfl ?_
 refine q_ex (v := .int .i64 (((clRes xa).2 : Nat) : Int)) (pe hs rfl rfl) rfl ?_
 refine q_at (pe hs rfl rfl) ?_
 refine q_at (pe hs rfl rfl) ?_
 refine x_nil (hK_5 _ _ ?_)
 refine w2_sr (fun K_6 hK_6 => ?_)
 refine q_mv ((pm rfl).trans t0) ?_
 refine q_mv ((pm rfl).trans t1) ?_
 refine q_ca (vs := #[.slice A1 (n1) (c1), .slice A2 (n2) (c2)]) Try.func25 (args2 (pe hs rfl rfl) (pe hs rfl rfl)) (MultP_any _ (h1.below HB_1) (by simp only [l1]) (h2.below HB_1) (by simp only [l2])) (fun e_3 w_3 hR_3 => ?_)
 obtain ⟨A_3, c_3, rfl, ho_3, hb_3⟩ := hR_3
 replace ho_3 := ho_3.mono HB_1.size
 replace ho_1 := ho_1.nx hb_3
 replace ho_2 := ho_2.nx hb_3
 have HB_2 := below_from HB_1 hb_3
 refine ⟨_, rfl, ?_⟩
 refine q_mv (pe hs rfl rfl) ?_
 refine q_ex (v := .slice A_3 ((mulRes xa xb).1.length) (c_3)) (pe hs rfl rfl) rfl ?_
 refine q_ex (v := .int .i64 (((mulRes xa xb).2 : Nat) : Int)) (pe hs rfl rfl) rfl ?_
 refine q_at (pe hs rfl rfl) ?_
 refine q_at (pe hs rfl rfl) ?_
 refine x_nil (hK_6 _ _ ?_)
 refine w2_sr (fun K_7 hK_7 => ?_)
 refine q_mv ((pm rfl).trans t0) ?_
 refine q_mv ((pm rfl).trans t1) ?_
 refine q_ca (vs := #[.slice A1 (n1) (c1), .slice A2 (n2) (c2)]) Try.func26 (args2 (pe hs rfl rfl) (pe hs rfl rfl)) (MultQ_any _ (h1.below HB_2) (by simp only [l1]) (h2.below HB_2) (by simp only [l2])) (fun e_4 w_4 hR_4 => ?_)
 obtain ⟨A_4, c_4, rfl, ho_4, hb_4⟩ := hR_4
 replace ho_4 := ho_4.mono HB_2.size
 replace ho_1 := ho_1.nx hb_4
 replace ho_2 := ho_2.nx hb_4
 replace ho_3 := ho_3.nx hb_4
 have HB_3 := below_from HB_2 hb_4
 refine ⟨_, rfl, ?_⟩
 refine q_mv (pe hs rfl rfl) ?_
 refine q_ex (v := .slice A_4 ((mulRes xa xb).1.length) (c_4)) (pe hs rfl rfl) rfl ?_
 refine q_ex (v := .int .i64 (((mulRes xa xb).2 : Nat) : Int)) (pe hs rfl rfl) rfl ?_
 refine q_at (pe hs rfl rfl) ?_
 refine q_at (pe hs rfl rfl) ?_
 refine x_nil (hK_7 _ _ ?_)
 refine w2_seq (fun K_8 hK_8 => ?_)
 refine w2_sr (fun K_9 hK_9 => ?_)
 refine q_mv (pe hs rfl rfl) ?_
 refine q_v 53 (.string (strB ((clRes xa).1))) (o_str rfl (pe hs rfl rfl) (ho_1).bs (rfl)) ?_
 refine q_mv (pe hs rfl rfl) ?_
 refine q_v 55 (.string (strB ((clRes xa).1))) (o_str rfl (pe hs rfl rfl) (ho_2).bs (rfl)) ?_
 refine q_v 56 (.bool (false)) (o_neS rfl (pe hs rfl rfl) (pe hs rfl rfl) rfl) ?_
 refine q_mv (pe hs rfl rfl) ?_
 refine op_valG (e := 57) (d := 58) (v := .int .i64 (((clRes xa).2 : Nat) : Int)) rfl rfl (by kernel_rfl) (pe hs rfl rfl) (o_move rfl (pe hs rfl rfl)) ?_
 refine op_valG (e := 57) (d := 59) (v := .int .i64 (((clRes xa).2 : Nat) : Int)) rfl rfl (by kernel_rfl) (pe hs rfl rfl) (o_move rfl (pe hs rfl rfl)) ?_
 refine op_valG (e := 57) (d := 60) (v := .bool (false)) rfl rfl (by kernel_rfl) (pe hs rfl rfl) (o_eq (o_neq (m := ((clRes xa).2)) (n := ((clRes xa).2)) rfl (pe hs rfl rfl) (pe hs rfl rfl)) (by rw [decide_eq_true rfl]; rfl)) ?_
 refine q_v 61 (.bool (false)) (o_pickF rfl (pe hs rfl rfl) (pe hs rfl rfl)) ?_
 refine q_mv (pe hs rfl rfl) ?_
 refine op_valG (e := 62) (d := 63) (v := .slice A_3 ((mulRes xa xb).1.length) (c_3)) rfl rfl (by kernel_rfl) (pe hs rfl rfl) (o_move rfl (pe hs rfl rfl)) ?_
 refine op_valG (e := 62) (d := 64) (v := .string (strB ((mulRes xa xb).1))) rfl rfl (by kernel_rfl) (pe hs rfl rfl) (o_str rfl (pe hs rfl rfl) (ho_3).bs (rfl)) ?_
 refine op_valG (e := 62) (d := 65) (v := .slice A_4 ((mulRes xa xb).1.length) (c_4)) rfl rfl (by kernel_rfl) (pe hs rfl rfl) (o_move rfl (pe hs rfl rfl)) ?_
 refine op_valG (e := 62) (d := 66) (v := .string (strB ((mulRes xa xb).1))) rfl rfl (by kernel_rfl) (pe hs rfl rfl) (o_str rfl (pe hs rfl rfl) (ho_4).bs (rfl)) ?_
 refine op_valG (e := 62) (d := 67) (v := .bool (false)) rfl rfl (by kernel_rfl) (pe hs rfl rfl) (o_neS rfl (pe hs rfl rfl) (pe hs rfl rfl) rfl) ?_
 refine q_v 68 (.bool (false)) (o_pickF rfl (pe hs rfl rfl) (pe hs rfl rfl)) ?_
 refine q_mv (pe hs rfl rfl) ?_
 refine op_valG (e := 69) (d := 70) (v := .int .i64 (((mulRes xa xb).2 : Nat) : Int)) rfl rfl (by kernel_rfl) (pe hs rfl rfl) (o_move rfl (pe hs rfl rfl)) ?_
 refine op_valG (e := 69) (d := 71) (v := .int .i64 (((mulRes xa xb).2 : Nat) : Int)) rfl rfl (by kernel_rfl) (pe hs rfl rfl) (o_move rfl (pe hs rfl rfl)) ?_
 refine op_valG (e := 69) (d := 72) (v := .bool (false)) rfl rfl (by kernel_rfl) (pe hs rfl rfl) (o_eq (o_neq (m := ((mulRes xa xb).2)) (n := ((mulRes xa xb).2)) rfl (pe hs rfl rfl) (pe hs rfl rfl)) (by rw [decide_eq_true rfl]; rfl)) ?_
 refine q_v 73 (.bool (false)) (o_pickF rfl (pe hs rfl rfl) (pe hs rfl rfl)) ?_
 refine x_nil (hK_9 _ _ ?_)
 refine w2_condF (pe hs rfl rfl) ?_
 refine w2_skip ?_
 refine hK_8 _ _ ?_
 refine w2_sr (fun K_10 hK_10 => ?_)
 refine q_mv ((pm rfl).trans t0) ?_
 refine q_ca (vs := #[.slice A1 (n1) (c1)]) Try.func27 (args1 (pe hs rfl rfl)) (Key6_own _ (h1.below HB_3) (by simp only [l1])) (fun e_5 w_5 hR_5 => ?_)
 obtain ⟨A_5, c_5, rfl, ho_5, hb_5⟩ := hR_5
 replace ho_5 := ho_5.mono HB_3.size
 have HB_4 := below_from HB_3 hb_5
 refine ⟨_, rfl, ?_⟩
 refine q_mv ((pm rfl).trans t1) ?_
 refine q_ca (vs := #[.slice A2 (n2) (c2)]) Try.func27 (args1 (pe hs rfl rfl)) (Key6_own _ (h2.below HB_4) (by simp only [l2])) (fun e_6 w_6 hR_6 => ?_)
 obtain ⟨A_6, c_6, rfl, ho_6, hb_6⟩ := hR_6
 replace ho_6 := ho_6.mono HB_4.size
 replace ho_5 := ho_5.nx hb_6
 have HB_5 := below_from HB_4 hb_6
 refine ⟨_, rfl, ?_⟩
 refine q_ca (vs := #[.slice A_5 (32) (c_5), .slice A_6 (32) (c_6)]) Try.func25 (args2 (pe hs rfl rfl) (pe hs rfl rfl)) (MultP_any _ (ho_5).bs (padTo_length _ _) (ho_6).bs (padTo_length _ _)) (fun e_7 w_7 hR_7 => ?_)
 obtain ⟨A_7, c_7, rfl, ho_7, hb_7⟩ := hR_7
 replace ho_7 := ho_7.mono HB_5.size
 have HB_6 := below_from HB_5 hb_7
 refine ⟨_, rfl, ?_⟩
 refine q_mv (pe hs rfl rfl) ?_
 refine q_ex (v := .slice A_7 ((mulRes (padTo 32 xa) (padTo 32 xb)).1.length) (c_7)) (pe hs rfl rfl) rfl ?_
 refine q_ex (v := .int .i64 (((mulRes (padTo 32 xa) (padTo 32 xb)).2 : Nat) : Int)) (pe hs rfl rfl) rfl ?_
 refine q_at (pe hs rfl rfl) ?_
 refine q_at (pe hs rfl rfl) ?_
 refine x_nil (hK_10 _ _ ?_)
 refine w2_sr (fun K_11 hK_11 => ?_)
 refine q_mv ((pm rfl).trans t0) ?_
 refine q_ca (vs := #[.slice A1 (n1) (c1)]) Try.func27 (args1 (pe hs rfl rfl)) (Key6_own _ (h1.below HB_6) (by simp only [l1])) (fun e_8 w_8 hR_8 => ?_)
 obtain ⟨A_8, c_8, rfl, ho_8, hb_8⟩ := hR_8
 replace ho_8 := ho_8.mono HB_6.size
 replace ho_7 := ho_7.nx hb_8
 have HB_7 := below_from HB_6 hb_8
 refine ⟨_, rfl, ?_⟩
 refine q_mv ((pm rfl).trans t1) ?_
 refine q_ca (vs := #[.slice A2 (n2) (c2)]) Try.func27 (args1 (pe hs rfl rfl)) (Key6_own _ (h2.below HB_7) (by simp only [l2])) (fun e_9 w_9 hR_9 => ?_)
 obtain ⟨A_9, c_9, rfl, ho_9, hb_9⟩ := hR_9
 replace ho_9 := ho_9.mono HB_7.size
 replace ho_7 := ho_7.nx hb_9
 replace ho_8 := ho_8.nx hb_9
 have HB_8 := below_from HB_7 hb_9
 refine ⟨_, rfl, ?_⟩
 refine q_ca (vs := #[.slice A_8 (32) (c_8), .slice A_9 (32) (c_9)]) Try.func26 (args2 (pe hs rfl rfl) (pe hs rfl rfl)) (MultQ_any _ (ho_8).bs (padTo_length _ _) (ho_9).bs (padTo_length _ _)) (fun e_10 w_10 hR_10 => ?_)
 obtain ⟨A_10, c_10, rfl, ho_10, hb_10⟩ := hR_10
 replace ho_10 := ho_10.mono HB_8.size
 replace ho_7 := ho_7.nx hb_10
 have HB_9 := below_from HB_8 hb_10
 refine ⟨_, rfl, ?_⟩
 refine q_mv (pe hs rfl rfl) ?_
 refine q_ex (v := .slice A_10 ((mulRes (padTo 32 xa) (padTo 32 xb)).1.length) (c_10)) (pe hs rfl rfl) rfl ?_
 refine q_ex (v := .int .i64 (((mulRes (padTo 32 xa) (padTo 32 xb)).2 : Nat) : Int)) (pe hs rfl rfl) rfl ?_
 refine q_at (pe hs rfl rfl) ?_
 refine q_at (pe hs rfl rfl) ?_
 refine x_nil (hK_11 _ _ ?_)
 refine w2_sr (fun K_12 hK_12 => ?_)
 refine q_mv ((pm rfl).trans t0) ?_
 refine q_ca (vs := #[.slice A1 (n1) (c1)]) Try.func27 (args1 (pe hs rfl rfl)) (Key6_own _ (h1.below HB_9) (by simp only [l1])) (fun e_11 w_11 hR_11 => ?_)
 obtain ⟨A_11, c_11, rfl, ho_11, hb_11⟩ := hR_11
 replace ho_11 := ho_11.mono HB_9.size
 replace ho_7 := ho_7.nx hb_11
 replace ho_10 := ho_10.nx hb_11
 have HB_10 := below_from HB_9 hb_11
 refine ⟨_, rfl, ?_⟩
 refine q_ca (vs := #[.slice A_11 (32) (c_11)]) Try.func28 (args1 (pe hs rfl rfl)) (BaseP_any _ (ho_11).bs (padTo_length _ _)) (fun e_12 w_12 hR_12 => ?_)
 obtain ⟨A_12, c_12, rfl, ho_12, hb_12⟩ := hR_12
 replace ho_12 := ho_12.mono HB_10.size
 replace ho_7 := ho_7.nx hb_12
 replace ho_10 := ho_10.nx hb_12
 have HB_11 := below_from HB_10 hb_12
 refine ⟨_, rfl, ?_⟩
 refine q_mv (pe hs rfl rfl) ?_
 refine q_ex (v := .slice A_12 ((mulRes (padTo 32 xa) (putK 9 32)).1.length) (c_12)) (pe hs rfl rfl) rfl ?_
 refine q_ex (v := .int .i64 (((mulRes (padTo 32 xa) (putK 9 32)).2 : Nat) : Int)) (pe hs rfl rfl) rfl ?_
 refine q_at (pe hs rfl rfl) ?_
 refine q_at (pe hs rfl rfl) ?_
 refine x_nil (hK_12 _ _ ?_)
 refine w2_sr (fun K_13 hK_13 => ?_)
 refine q_mv ((pm rfl).trans t0) ?_
 refine q_ca (vs := #[.slice A1 (n1) (c1)]) Try.func27 (args1 (pe hs rfl rfl)) (Key6_own _ (h1.below HB_11) (by simp only [l1])) (fun e_13 w_13 hR_13 => ?_)
 obtain ⟨A_13, c_13, rfl, ho_13, hb_13⟩ := hR_13
 replace ho_13 := ho_13.mono HB_11.size
 replace ho_7 := ho_7.nx hb_13
 replace ho_10 := ho_10.nx hb_13
 replace ho_12 := ho_12.nx hb_13
 have HB_12 := below_from HB_11 hb_13
 refine ⟨_, rfl, ?_⟩
 refine q_ca (vs := #[.slice A_13 (32) (c_13)]) Try.func29 (args1 (pe hs rfl rfl)) (BaseQ_any _ (ho_13).bs (padTo_length _ _)) (fun e_14 w_14 hR_14 => ?_)
 obtain ⟨A_14, c_14, rfl, ho_14, hb_14⟩ := hR_14
 replace ho_14 := ho_14.mono HB_12.size
 replace ho_7 := ho_7.nx hb_14
 replace ho_10 := ho_10.nx hb_14
 replace ho_12 := ho_12.nx hb_14
 have HB_13 := below_from HB_12 hb_14
 refine ⟨_, rfl, ?_⟩
 refine q_mv (pe hs rfl rfl) ?_
 refine q_ex (v := .slice A_14 ((mulRes (padTo 32 xa) (putK 9 32)).1.length) (c_14)) (pe hs rfl rfl) rfl ?_
 refine q_ex (v := .int .i64 (((mulRes (padTo 32 xa) (putK 9 32)).2 : Nat) : Int)) (pe hs rfl rfl) rfl ?_
 refine q_at (pe hs rfl rfl) ?_
 refine q_at (pe hs rfl rfl) ?_
 refine x_nil (hK_13 _ _ ?_)
 refine w2_sr (fun K_14 hK_14 => ?_)
 refine q_mv (pe hs rfl rfl) ?_
 refine q_v 103 (.string (strB ((mulRes (padTo 32 xa) (padTo 32 xb)).1))) (o_str rfl (pe hs rfl rfl) (ho_7).bs (rfl)) ?_
 refine q_mv (pe hs rfl rfl) ?_
 refine q_v 105 (.string (strB ((mulRes (padTo 32 xa) (padTo 32 xb)).1))) (o_str rfl (pe hs rfl rfl) (ho_10).bs (rfl)) ?_
 refine q_v 106 (.bool (true)) (o_eqS rfl (pe hs rfl rfl) (pe hs rfl rfl) rfl) ?_
 refine q_mv (pe hs rfl rfl) ?_
 refine op_valG (e := 107) (d := 108) (v := .int .i64 (((mulRes (padTo 32 xa) (padTo 32 xb)).2 : Nat) : Int)) rfl rfl (by kernel_rfl) (pe hs rfl rfl) (o_move rfl (pe hs rfl rfl)) ?_
 refine op_valG (e := 107) (d := 109) (v := .int .i64 (((mulRes (padTo 32 xa) (padTo 32 xb)).2 : Nat) : Int)) rfl rfl (by kernel_rfl) (pe hs rfl rfl) (o_move rfl (pe hs rfl rfl)) ?_
 refine op_valG (e := 107) (d := 110) (v := .bool (true)) rfl rfl (by kernel_rfl) (pe hs rfl rfl) (o_eq (o_eql (m := ((mulRes (padTo 32 xa) (padTo 32 xb)).2)) (n := ((mulRes (padTo 32 xa) (padTo 32 xb)).2)) rfl (pe hs rfl rfl) (pe hs rfl rfl)) (by rw [decide_eq_true rfl])) ?_
 refine q_v 111 (.bool (true)) (o_pickT rfl (pe hs rfl rfl) (pe hs rfl rfl)) ?_
 refine q_mv (pe hs rfl rfl) ?_
 refine op_valG (e := 112) (d := 113) (v := .slice A_12 ((mulRes (padTo 32 xa) (putK 9 32)).1.length) (c_12)) rfl rfl (by kernel_rfl) (pe hs rfl rfl) (o_move rfl (pe hs rfl rfl)) ?_
 refine op_valG (e := 112) (d := 114) (v := .string (strB ((mulRes (padTo 32 xa) (putK 9 32)).1))) rfl rfl (by kernel_rfl) (pe hs rfl rfl) (o_str rfl (pe hs rfl rfl) (ho_12).bs (rfl)) ?_
 refine op_valG (e := 112) (d := 115) (v := .slice A_14 ((mulRes (padTo 32 xa) (putK 9 32)).1.length) (c_14)) rfl rfl (by kernel_rfl) (pe hs rfl rfl) (o_move rfl (pe hs rfl rfl)) ?_
 refine op_valG (e := 112) (d := 116) (v := .string (strB ((mulRes (padTo 32 xa) (putK 9 32)).1))) rfl rfl (by kernel_rfl) (pe hs rfl rfl) (o_str rfl (pe hs rfl rfl) (ho_14).bs (rfl)) ?_
 refine op_valG (e := 112) (d := 117) (v := .bool (true)) rfl rfl (by kernel_rfl) (pe hs rfl rfl) (o_eqS rfl (pe hs rfl rfl) (pe hs rfl rfl) rfl) ?_
 refine q_v 118 (.bool (true)) (o_pickT rfl (pe hs rfl rfl) (pe hs rfl rfl)) ?_
 refine q_mv (pe hs rfl rfl) ?_
 refine op_valG (e := 119) (d := 120) (v := .int .i64 (((mulRes (padTo 32 xa) (putK 9 32)).2 : Nat) : Int)) rfl rfl (by kernel_rfl) (pe hs rfl rfl) (o_move rfl (pe hs rfl rfl)) ?_
 refine op_valG (e := 119) (d := 121) (v := .int .i64 (((mulRes (padTo 32 xa) (putK 9 32)).2 : Nat) : Int)) rfl rfl (by kernel_rfl) (pe hs rfl rfl) (o_move rfl (pe hs rfl rfl)) ?_
 refine op_valG (e := 119) (d := 122) (v := .bool (true)) rfl rfl (by kernel_rfl) (pe hs rfl rfl) (o_eq (o_eql (m := ((mulRes (padTo 32 xa) (putK 9 32)).2)) (n := ((mulRes (padTo 32 xa) (putK 9 32)).2)) rfl (pe hs rfl rfl) (pe hs rfl rfl)) (by rw [decide_eq_true rfl])) ?_
 refine q_v 123 (.bool (true)) (o_pickT rfl (pe hs rfl rfl) (pe hs rfl rfl)) ?_
 refine q_mv (pe hs rfl rfl) ?_
 refine op_callG (e := 124) (vs := #[]) rfl rfl (by kernel_rfl) (pe hs rfl rfl) (exec_call Try.func22 (by kernel_rfl) (by kernel_rfl) _ rfl _ _ (args0)) (awake6_any _) (fun e_15 w_15 hR_15 => ?_)
 obtain ⟨rfl, hb_16⟩ := hR_15
 have HB_14 := below_from HB_13 hb_16
 refine ⟨_, rfl, ?_⟩
 refine q_v 126 (.bool (true)) (o_pickT rfl (pe hs rfl rfl) (pe hs rfl rfl)) ?_
 refine q_at (pe hs rfl rfl) ?_
 refine x_nil (hK_14 _ _ ?_)
 refine w2_ret ?_
 refine ret1 rfl hd (pe hs rfl rfl) ?_
 exact ⟨rfl, HB_14⟩
end Go.Proofs.Ytikjcikedbcfmaa
