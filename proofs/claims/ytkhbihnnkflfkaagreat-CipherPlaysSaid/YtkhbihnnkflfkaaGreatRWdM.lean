/-
 RWord · RBlock · RXor, IN ONE TEXT.
-/
import Derived.Test.YtkhbihnnkflfkaaGreatEz
import Derived.Test.YtkhbihnnkflfkaaGreatCell
import Derived.Test.YtkhbihnnkflfkaaGreatArr32
import Derived.Test.YtkhbihnnkflfkaaGreatBlock
import Derived.Test.YtkhbihnnkflfkaaGreatZero
import Derived.Test.YtkhbihnnkflfkaaGreatCXor
import Derived.Test.YtkhbihnnkflfkaaGreatConcat
import Derived.Test.YtkhbihnnkflfkaaGreatAead
/-
 WALKS: the reference's words: at, Low, PutLow, Left, Quarter.
-/
namespace Go.Proofs.YtkhbihnnkflfkaaGreat
open Go.RowKit
set_option maxHeartbeats 8000000
set_option linter.unusedVariables false
set_option linter.unusedSimpArgs false
set_option maxRecDepth 100000
attribute [local irreducible] wpList wpListIn putsR

variable {A : Option Addr} {c q : Nat} {xs : List Nat}
theorem lw_shl (p K : Nat) (hp : p < 256) (hK : K < 8) : IntKind.u64.wrap (((p : Nat) : Int) * 2 ^ (8 * K)) = ((p * 2 ^ (8 * K) : Nat) : Int) := by
 have h1 : 2 ^ (8 * K) ≤ 2 ^ 56 := Nat.pow_le_pow_right (by omega) (by omega)
 have h2 : p * 2 ^ (8 * K) ≤ 255 * 2 ^ 56 := Nat.mul_le_mul (by omega) h1
 have e1 : (p : Int) * 2 ^ (8 * K) = ((p * 2 ^ (8 * K) : Nat) : Int) := by simp
 rw [e1, IntKind.wrap_u64]
 omega
theorem lw_or (q p K : Nat) (hq : q < 2 ^ (8 * K)) (hp : p < 256) (hK : K < 8) : bits .or .u64 ((q : Nat) : Int) ((p * 2 ^ (8 * K) : Nat) : Int) = ((q + p * 2 ^ (8 * K) : Nat) : Int) := by
 have h := or_low q p K hq hp hK
 rwa [lw_shl p K hp hK] at h
theorem atW_0 (w : World) (h0 : Bs w A c xs) (hq : xs.length = q) (i k : Nat) (hi : i < 4611686018427387904) (hk9 : k < 4611686018427387904) (hb : q < i) :
  Calls Tryz.prog 135 #[.slice A (q) (c), .int .i64 ((i : Nat) : Int), .int .i64 ((k : Nat) : Int)] w fun e w' => e = .returned (.int .u8 ((xs.getD (i + k) 0 : Nat) : Int)) ∧ w = w' := by
 have hcl := h0.le
 have hcm := h0.max
 unfold maxLen at hcm
 refine x_enter 29 Tryz.func135 rfl rfl (fun a hs hd ha0 => ?_)
 have t0 := tA 0 ha0
 have t1 := tA 1 ha0
 clear ha0
 iterate 2 refine e1 ?_
 refine q_as (.int .u8 ((0 : Nat) : Int)) rfl ?_
 iterate 5 refine e1 ?_
 refine q_v 8 (.bool (false)) (o_eq (o_lss (m := i) (n := 0) rfl ev rfl) (by rw [decide_eq_false (by omega)])) ?_
 refine e1 ?_
 refine q_g 9 (.int .i64 ((i : Nat) : Int)) (o_move rfl ev) ?_
 refine q_g 9 (.slice A (q) (c)) (o_move rfl ev) ?_
 refine q_g 9 (.int .i64 ((q : Nat) : Int)) (o_len rfl ev) ?_
 refine q_g 9 (.bool (true)) (o_eq (o_gtr (m := i) (n := q) rfl ev ev) (by rw [decide_eq_true hb])) ?_
 refine q_w (o_pickF rfl ev ev) ?_
 refine e1 ?_
 refine q_l 15 ?_
 refine q_l 15 ?_
 refine q_l 15 ?_
 refine q_l 15 ?_
 refine q_l 15 ?_
 refine q_l 15 ?_
 refine q_w (o_pickT rfl ev rfl) ?_
 iterate 4 refine e1 ?_
 refine q_as (.int .u8 ((0 : Nat) : Int)) rfl ?_
 iterate 4 refine e1 ?_
 exact ⟨by rw [show xs.getD (i + k) 0 = 0 from by rw [List.getD_eq_getElem?_getD, List.getElem?_eq_none (by omega)]; rfl], rfl⟩
theorem atW_1 (w : World) (h0 : Bs w A c xs) (hq : xs.length = q) (i k : Nat) (hi : i < 4611686018427387904) (hk9 : k < 4611686018427387904) (hb : i ≤ q) (hk : q ≤ i + k) :
  Calls Tryz.prog 135 #[.slice A (q) (c), .int .i64 ((i : Nat) : Int), .int .i64 ((k : Nat) : Int)] w fun e w' => e = .returned (.int .u8 ((xs.getD (i + k) 0 : Nat) : Int)) ∧ w = w' := by
 have hcl := h0.le
 have hcm := h0.max
 unfold maxLen at hcm
 refine x_enter 29 Tryz.func135 rfl rfl (fun a hs hd ha0 => ?_)
 have t0 := tA 0 ha0
 have t1 := tA 1 ha0
 have t2 := tA 2 ha0
 clear ha0
 iterate 2 refine e1 ?_
 refine q_as (.int .u8 ((0 : Nat) : Int)) rfl ?_
 iterate 5 refine e1 ?_
 refine q_v 8 (.bool (false)) (o_eq (o_lss (m := i) (n := 0) rfl ev rfl) (by rw [decide_eq_false (by omega)])) ?_
 refine e1 ?_
 refine q_g 9 (.int .i64 ((i : Nat) : Int)) (o_move rfl ev) ?_
 refine q_g 9 (.slice A (q) (c)) (o_move rfl ev) ?_
 refine q_g 9 (.int .i64 ((q : Nat) : Int)) (o_len rfl ev) ?_
 refine q_g 9 (.bool (false)) (o_eq (o_gtr (m := i) (n := q) rfl ev ev) (by rw [decide_eq_false (by omega)])) ?_
 refine q_w (o_pickF rfl ev ev) ?_
 refine e1 ?_
 refine q_g 15 (.int .i64 ((k : Nat) : Int)) (o_move rfl ev) ?_
 refine q_g 15 (.slice A (q) (c)) (o_move rfl ev) ?_
 refine q_g 15 (.int .i64 ((q : Nat) : Int)) (o_len rfl ev) ?_
 refine q_g 15 (.int .i64 ((i : Nat) : Int)) (o_move rfl ev) ?_
 refine q_g 15 (.int .i64 ((q - i : Nat) : Int)) (o_sub64 (m := q) (n := i) rfl ev ev (by omega) (by omega)) ?_
 refine q_g 15 (.bool (true)) (o_eq (o_geq (m := k) (n := (q - i)) rfl ev ev) (by rw [decide_eq_true (by omega)])) ?_
 refine q_w (o_pickF rfl ev ev) ?_
 iterate 4 refine e1 ?_
 refine q_as (.int .u8 ((0 : Nat) : Int)) rfl ?_
 iterate 4 refine e1 ?_
 exact ⟨by rw [show xs.getD (i + k) 0 = 0 from by rw [List.getD_eq_getElem?_getD, List.getElem?_eq_none (by omega)]; rfl], rfl⟩
theorem atW_2 (w : World) (h0 : Bs w A c xs) (hq : xs.length = q) (i k : Nat) (hi : i < 4611686018427387904) (hk9 : k < 4611686018427387904) (hb : i ≤ q) (hk : i + k < q) :
  Calls Tryz.prog 135 #[.slice A (q) (c), .int .i64 ((i : Nat) : Int), .int .i64 ((k : Nat) : Int)] w fun e w' => e = .returned (.int .u8 ((xs.getD (i + k) 0 : Nat) : Int)) ∧ w = w' := by
 have hcl := h0.le
 have hcm := h0.max
 unfold maxLen at hcm
 refine x_enter 29 Tryz.func135 rfl rfl (fun a hs hd ha0 => ?_)
 have t0 := tA 0 ha0
 have t1 := tA 1 ha0
 have t2 := tA 2 ha0
 clear ha0
 iterate 2 refine e1 ?_
 refine q_as (.int .u8 ((0 : Nat) : Int)) rfl ?_
 iterate 5 refine e1 ?_
 refine q_v 8 (.bool (false)) (o_eq (o_lss (m := i) (n := 0) rfl ev rfl) (by rw [decide_eq_false (by omega)])) ?_
 refine e1 ?_
 refine q_g 9 (.int .i64 ((i : Nat) : Int)) (o_move rfl ev) ?_
 refine q_g 9 (.slice A (q) (c)) (o_move rfl ev) ?_
 refine q_g 9 (.int .i64 ((q : Nat) : Int)) (o_len rfl ev) ?_
 refine q_g 9 (.bool (false)) (o_eq (o_gtr (m := i) (n := q) rfl ev ev) (by rw [decide_eq_false (by omega)])) ?_
 refine q_w (o_pickF rfl ev ev) ?_
 refine e1 ?_
 refine q_g 15 (.int .i64 ((k : Nat) : Int)) (o_move rfl ev) ?_
 refine q_g 15 (.slice A (q) (c)) (o_move rfl ev) ?_
 refine q_g 15 (.int .i64 ((q : Nat) : Int)) (o_len rfl ev) ?_
 refine q_g 15 (.int .i64 ((i : Nat) : Int)) (o_move rfl ev) ?_
 refine q_g 15 (.int .i64 ((q - i : Nat) : Int)) (o_sub64 (m := q) (n := i) rfl ev ev (by omega) (by omega)) ?_
 refine q_g 15 (.bool (false)) (o_eq (o_geq (m := k) (n := (q - i)) rfl ev ev) (by rw [decide_eq_false (by omega)])) ?_
 refine q_w (o_pickF rfl ev ev) ?_
 iterate 9 refine e1 ?_
 refine q_w (o_add64 rfl ev ev (by omega)) ?_
 refine q_v 27 (.pointer (atA A (i + k))) (o_ix (k := i + k) rfl ev ev (by omega) (h0.some (by rw [hq]; omega))) ?_
 refine q_v 28 (.int .u8 ((xs.getD (i + k) 0 : Nat) : Int)) (o_ld8 rfl ev h0 (by rw [hq]; omega) rfl) ?_
 iterate 4 refine e1 ?_
 exact ⟨rfl, rfl⟩
theorem atW_any (w : World) (h0 : Bs w A c xs) (hq : xs.length = q) (i k : Nat) (hi : i < 4611686018427387904) (hk9 : k < 4611686018427387904) :
  Calls Tryz.prog 135 #[.slice A (q) (c), .int .i64 ((i : Nat) : Int), .int .i64 ((k : Nat) : Int)] w fun e w' => e = .returned (.int .u8 ((xs.getD (i + k) 0 : Nat) : Int)) ∧ w = w' := by
 by_cases hb : i ≤ q
 ·by_cases hk : q ≤ i + k
  ·exact atW_1 w h0 hq i k hi hk9 hb hk
  ·exact atW_2 w h0 hq i k hi hk9 hb (by omega)
 ·exact atW_0 w h0 hq i k hi hk9 (by omega)
theorem LowW_any (w : World) (h0 : Bs w A c xs) (hq : xs.length = q) (i n : Nat) (hi : i < 4611686018427387904) (hn : n ≤ 8) :
  Calls Tryz.prog 104 #[.slice A (q) (c), .int .i64 ((i : Nat) : Int), .int .i64 ((n : Nat) : Int)] w fun e w' => e = .returned (.int .u64 ((lowN xs i n : Nat) : Int)) ∧ w = w' := by
 refine x_enter 26 Tryz.func104 rfl rfl (fun a hs hd ha0 => ?_)
 have t0 := tA 0 ha0
 have t1 := tA 1 ha0
 have t2 := tA 2 ha0
 clear ha0
 iterate 2 refine e1 ?_
 refine q_as (.int .u64 ((0 : Nat) : Int)) rfl ?_
 iterate 3 refine e1 ?_
 refine q_as (.int .u64 ((0 : Nat) : Int)) rfl ?_
 iterate 5 refine e1 ?_
 refine q_v 10 (.int .i64 ((0 : Nat) : Int)) (o_move rfl rfl) ?_
 iterate 2 refine e1 ?_
 refine x_loop (fun nn aa ww => ∃ (K : Nat), nn = n - K ∧ aa.tmps.size = 26 ∧ aa.defers = [] ∧ aa.eval (.tmp 0) = .slice A (q) (c) ∧ aa.eval (.tmp 1) = .int .i64 ((i : Nat) : Int) ∧ aa.eval (.tmp 7) = .int .u64 ((lowN xs i K : Nat) : Int) ∧ aa.eval (.tmp 9) = .int .i64 ((n : Nat) : Int) ∧ aa.eval (.tmp 10) = .int .i64 ((K : Nat) : Int) ∧ K ≤ n ∧ w = ww) (n) ?_ ?_
 ·exact ⟨0, rfl, (psz hs), (pdf hd), ev, ev, ev, ev, ev, (Nat.zero_le _), rfl⟩
 ·skip
  rintro nna_1 a_1 w_1 ⟨K, hm_1, hs_1, hd_1, ta_1_0, ta_1_1, ta_1_7, ta_1_9, ta_1_10, hK, hW⟩ K_6 hK_6
  subst hm_1
  subst hW
  have hlo := lowN_lt h0.b8 i K
  have hp8 := getD_lt h0.b8 (i + K)
  iterate 2 refine e1 ?_
  refine q_w (o_lss rfl ev ev) ?_
  iterate 2 refine e1 ?_
  refine w2_split (pe hs_1 rfl rfl) (fun h_1 => ?_) (fun h_1 => ?_)
  ·simp only [DD9] at h_1
   iterate 15 refine e1 ?_
   refine k_c Tryz.func135 (atW_any _ h0 hq i K (by omega) (by omega)) ?_
   rintro e_1 w_2 ⟨rfl, rfl⟩
   refine ⟨_, rfl, ?_⟩
   refine q_w (o_conv (r := xs.getD (i + K) 0) rfl ev ⟨.int .u8, fun _ => by kernel_rfl⟩ (fun _ => by kernel_rfl) (by rw [IntKind.wrap_u64]; omega)) ?_
   refine e1 ?_
   refine q_w (o_mul64 (m := 8) rfl rfl ev (by omega)) ?_
   refine q_w (o_conv (r := 8 * K) rfl ev ⟨.int .i64, fun _ => by kernel_rfl⟩ (fun _ => by kernel_rfl) (by rw [IntKind.wrap_u64]; omega)) ?_
   refine q_w (o_shl (xs.getD (i + K) 0 * 2 ^ (8 * K)) rfl ev ev (by show 8 * K ≤ 64; omega) (lw_shl _ K hp8 (by omega))) ?_
   refine q_w (o_bits (lowN xs i (K + 1)) rfl ev ev (by decide) (lw_or _ _ K hlo hp8 (by omega))) ?_
   iterate 4 refine e1 ?_
   refine q_w (o_add64 (n := 1) rfl ev rfl (by omega)) ?_
   refine e1 ?_
   refine x_nil ?_
   refine hK_6 _ _ _ ⟨K + 1, rfl, (psz hs_1), (pdf hd_1), ev, ev, ev, ev, ev, (by omega), rfl⟩ ?_
   omega
  ·simp only [DD9] at h_1
   obtain rfl : K = n := by omega
   iterate 12 refine e1 ?_
   exact ⟨rfl, rfl⟩
theorem PutLowW_any (x n : Nat) (w : World) (hx : x < 18446744073709551616) (hn : n ≤ 8) :
  Calls Tryz.prog 38 #[.int .u64 ((x : Nat) : Int), .int .i64 ((n : Nat) : Int)] w fun e w' => ∃ A c, e = .returned (.slice A n c) ∧ Own w' w.heap.size A c (putL x n) ∧ Below w.heap.size w w' := by
 refine x_enter 22 Tryz.func38 rfl rfl (fun a hs hd ha0 => ?_)
 have t0 := tA 0 ha0
 have t1 := tA 1 ha0
 clear ha0
 iterate 12 refine e1 ?_
 refine q_v 8 (.int .i64 ((0 : Nat) : Int)) (o_move rfl rfl) ?_
 iterate 2 refine e1 ?_
 refine x_loop (fun nn aa ww => ∃ (K : Nat) (A1 : Option Addr) (c1 : Nat), nn = n - K ∧ aa.tmps.size = 22 ∧ aa.defers = [] ∧ aa.eval (.tmp 0) = .int .u64 ((x : Nat) : Int) ∧ aa.eval (.tmp 5) = .slice A1 (K) (c1) ∧ aa.eval (.tmp 7) = .int .i64 ((n : Nat) : Int) ∧ aa.eval (.tmp 8) = .int .i64 ((K : Nat) : Int) ∧ K ≤ n ∧ Own ww w.heap.size A1 c1 (putL x K) ∧ Below w.heap.size w ww) (n) ?_ ?_
 ·exact ⟨0, none, 0, rfl, (psz hs), (pdf hd), ev, ev, ev, ev, Nat.zero_le _, Own.nil _ _, Below.refl _ _⟩
 ·skip
  rintro nna_1 a_1 w_1 ⟨K, A1, c1, hm_1, hs_1, hd_1, ta_1_0, ta_1_5, ta_1_7, ta_1_8, hK, hO, HBL⟩ K_6 hK_6
  subst hm_1
  iterate 2 refine e1 ?_
  refine q_w (o_lss rfl ev ev) ?_
  iterate 2 refine e1 ?_
  refine w2_split (pe hs_1 rfl rfl) (fun h_1 => ?_) (fun h_1 => ?_)
  ·simp only [DD9] at h_1
   iterate 13 refine e1 ?_
   refine q_w (o_mul64 (m := 8) rfl rfl ev (by omega)) ?_
   refine q_w (o_conv (r := 8 * K) rfl ev ⟨.int .i64, fun _ => by kernel_rfl⟩ (fun _ => by kernel_rfl) (by rw [IntKind.wrap_u64]; omega)) ?_
   refine q_w (o_shr rfl ev ev (by simp [IntKind.bits]; omega)) ?_
   refine q_w (o_conv (r := (x / 2 ^ (8 * K)) % 256) rfl ev ⟨.int .u64, fun _ => by kernel_rfl⟩ (fun _ => by kernel_rfl) (by rw [IntKind.wrap_u8]; omega)) ?_
   refine q_x (o_build1 (m := (x / 2 ^ (8 * K)) % 256) rfl ev (Nat.mod_lt _ (by decide))) (fun v_1 w_2 hR_1 => ?_)
   obtain ⟨g_1, rfl, ho_1, hb_1⟩ := hR_1
   replace ho_1 := ho_1.mono HBL.size
   replace hO := hO.nx hb_1
   have HB_1 := below_from HBL hb_1
   refine q_x (o_append rfl ev ev hO (ho_1).bs (by rw [(putL_length x K)]) (by simp only [List.length_cons, List.length_nil]) (by omega) HB_1.size) (fun v_2 w_3 hR_2 => ?_)
   obtain ⟨A_1, c_1, rfl, ho_2, hb_2, hg_1, hat_1⟩ := hR_2
   have HB_2 : Below w.heap.size w w_3 := (HB_1).trans hb_2
   iterate 4 refine e1 ?_
   refine q_w (o_add64 (n := 1) rfl ev rfl (by omega)) ?_
   refine e1 ?_
   refine x_nil ?_
   refine hK_6 _ _ _ ⟨K + 1, A_1, c_1, rfl, (psz hs_1), (pdf hd_1), ev, ev, ev, ev, (by omega), ho_2, HB_2⟩ ?_
   omega
  ·simp only [DD9] at h_1
   obtain rfl : K = n := by omega
   iterate 12 refine e1 ?_
   exact ⟨_, _, rfl, hO, HBL⟩
theorem ret4 {P : Program} {fn : Func} {R : Ending → World → Prop} {a : Act} {w : World} {l : List (Tmp × Value)} {t u s r : Tmp} {v x y z : Value} (hf : fn.results = #[.tmp t, .tmp u, .tmp s, .tmp r]) (hd : a.defers = []) (hv : (putsR a l).eval (.tmp t) = v) (hx : (putsR a l).eval (.tmp u) = x) (hy : (putsR a l).eval (.tmp s) = y) (hz : (putsR a l).eval (.tmp r) = z)
  (hR : R (.returned (.tuple #[v, x, y, z])) w) : bodyPost P fn R .ret (putsR a l) w := by
 subst hv; subst hx; subst hy; subst hz
 refine ⟨by rw [putsR_defers, hd], .tuple #[(putsR a l).eval (.tmp t), (putsR a l).eval (.tmp u), (putsR a l).eval (.tmp s), (putsR a l).eval (.tmp r)], ?_, hR⟩
 simp [results, hf, Act.eval]
theorem LeftW_any (x k : Nat) (w : World) (hx : x < 4294967296) (hk : k < 32) :
  Calls Tryz.prog 136 #[.int .u32 ((x : Nat) : Int), .int .i64 ((k : Nat) : Int)] w fun e w' => e = .returned (.int .u32 ((rotl x k : Nat) : Int)) ∧ w = w' := by
 refine x_enter 19 Tryz.func136 rfl rfl (fun a hs hd ha0 => ?_)
 have t0 := tA 0 ha0
 have t1 := tA 1 ha0
 clear ha0
 iterate 2 refine e1 ?_
 refine q_as (.int .u32 ((0 : Nat) : Int)) rfl ?_
 iterate 4 refine e1 ?_
 refine q_w (o_rem (n := 32) rfl ev rfl (by omega) (IntWalk.i64_in _ (by omega))) ?_
 refine q_w (o_add64 (n := 32) rfl ev rfl (by omega)) ?_
 refine q_w (o_conv (r := (k % 32) + 32) rfl ev ⟨.int .i64, fun _ => by kernel_rfl⟩ (fun _ => by kernel_rfl) (by rw [IntKind.wrap_u64]; omega)) ?_
 refine q_v 10 (.int .u64 ((k : Nat) : Int)) (o_eq (o_rem (m := ((k % 32) + 32)) (n := 32) rfl ev rfl (by omega) (by rw [IntKind.wrap_u64]; omega)) (congrArg (fun z : Nat => Value.int .u64 (z : Int)) (by omega))) ?_
 iterate 6 refine e1 ?_
 refine q_w (o_shl (x * 2 ^ k % 4294967296) rfl ev ev (by show k ≤ 32; omega) (by rw [IntKind.wrap_u32]; simp)) ?_
 iterate 2 refine e1 ?_
 refine q_w (o_subU (m := 32) (32 - k) rfl rfl ev (by rw [IntKind.wrap_u64]; omega)) ?_
 refine q_w (o_shr rfl ev ev (by show 32 - k ≤ 32; omega)) ?_
 refine q_v 18 (.int .u32 ((rotl x k : Nat) : Int)) (o_eq (o_bits (m := (x * 2 ^ k % 4294967296)) (n := (x / 2 ^ (32 - k))) ((x * 2 ^ k % 4294967296) ||| (x / 2 ^ (32 - k))) rfl ev ev (by decide) (u32_or_nat _ _ (Nat.mod_lt _ (by decide)) (Nat.lt_of_le_of_lt (Nat.div_le_self _ _) hx))) rfl) ?_
 iterate 4 refine e1 ?_
 exact ⟨rfl, rfl⟩
theorem QuarterW_any (xa xb xc xd : Nat) (w : World) (la : xa < 4294967296) (lb : xb < 4294967296) (lc : xc < 4294967296) (ld : xd < 4294967296) :
  Calls Tryz.prog 105 #[.int .u32 ((xa : Nat) : Int), .int .u32 ((xb : Nat) : Int), .int .u32 ((xc : Nat) : Int), .int .u32 ((xd : Nat) : Int)] w fun e w' => ∃ p q r s : Nat, e = .returned (.tuple #[.int .u32 (p : Int), .int .u32 (q : Int), .int .u32 (r : Int), .int .u32 (s : Int)]) ∧ qr xa xb xc xd = (p, q, r, s) ∧ p < 4294967296 ∧ q < 4294967296 ∧ r < 4294967296 ∧ s < 4294967296 ∧ w = w' := by
 refine x_enter 44 Tryz.func105 rfl rfl (fun a hs hd ha0 => ?_)
 have t0 := tA 0 ha0
 have t1 := tA 1 ha0
 have t2 := tA 2 ha0
 have t3 := tA 3 ha0
 clear ha0
 iterate 2 refine e1 ?_
 refine q_as (.int .u32 ((0 : Nat) : Int)) rfl ?_
 refine q_as (.int .u32 ((0 : Nat) : Int)) rfl ?_
 refine q_as (.int .u32 ((0 : Nat) : Int)) rfl ?_
 refine q_as (.int .u32 ((0 : Nat) : Int)) rfl ?_
 iterate 2 refine e1 ?_
 obtain ⟨a1, ha1, la1⟩ : ∃ q : Nat, q = (xa + xb) % 4294967296 ∧ q < 4294967296 := ⟨_, rfl, (Nat.mod_lt _ (by decide))⟩
 iterate 3 refine e1 ?_
 refine q_v 14 (.int .u32 ((a1 : Nat) : Int)) (o_eq (o_addU (m := xa) (n := xb) ((xa + xb) % 4294967296) rfl ev ev (by rw [IntKind.wrap_u32]; omega)) (by rw [ha1])) ?_
 iterate 3 refine e1 ?_
 obtain ⟨d1, hd1, ld1⟩ : ∃ q : Nat, q = rotl (xd ^^^ a1) 16 ∧ q < 4294967296 := ⟨_, rfl, (rotl_lt _ _ (Nat.xor_lt_two_pow (n := 32) (by omega) (by omega)))⟩
 iterate 3 refine e1 ?_
 refine q_w (o_bits (xd ^^^ a1) rfl ev ev (by decide) (u32_xor_nat _ _ (by omega) (by omega))) ?_
 refine e1 ?_
 refine k_c Tryz.func136 (LeftW_any (xd ^^^ a1) 16 _ (Nat.xor_lt_two_pow (n := 32) (by omega) (by omega)) (by decide)) ?_
 rintro e_1 w_1 ⟨rfl, rfl⟩
 refine ⟨_, rfl, ?_⟩
 refine q_v 3 (.int .u32 ((d1 : Nat) : Int)) (o_eq (o_assign rfl ev) (by rw [hd1])) ?_
 iterate 2 refine e1 ?_
 obtain ⟨c1, hc1, lc1⟩ : ∃ q : Nat, q = (xc + d1) % 4294967296 ∧ q < 4294967296 := ⟨_, rfl, (Nat.mod_lt _ (by decide))⟩
 iterate 3 refine e1 ?_
 refine q_v 21 (.int .u32 ((c1 : Nat) : Int)) (o_eq (o_addU (m := xc) (n := d1) ((xc + d1) % 4294967296) rfl ev ev (by rw [IntKind.wrap_u32]; omega)) (by rw [hc1])) ?_
 iterate 3 refine e1 ?_
 obtain ⟨b1, hb1, lb1⟩ : ∃ q : Nat, q = rotl (xb ^^^ c1) 12 ∧ q < 4294967296 := ⟨_, rfl, (rotl_lt _ _ (Nat.xor_lt_two_pow (n := 32) (by omega) (by omega)))⟩
 iterate 3 refine e1 ?_
 refine q_w (o_bits (xb ^^^ c1) rfl ev ev (by decide) (u32_xor_nat _ _ (by omega) (by omega))) ?_
 refine e1 ?_
 refine k_c Tryz.func136 (LeftW_any (xb ^^^ c1) 12 _ (Nat.xor_lt_two_pow (n := 32) (by omega) (by omega)) (by decide)) ?_
 rintro e_2 w_2 ⟨rfl, rfl⟩
 refine ⟨_, rfl, ?_⟩
 refine q_v 1 (.int .u32 ((b1 : Nat) : Int)) (o_eq (o_assign rfl ev) (by rw [hb1])) ?_
 iterate 2 refine e1 ?_
 obtain ⟨a2, ha2, la2⟩ : ∃ q : Nat, q = (a1 + b1) % 4294967296 ∧ q < 4294967296 := ⟨_, rfl, (Nat.mod_lt _ (by decide))⟩
 iterate 3 refine e1 ?_
 refine q_v 28 (.int .u32 ((a2 : Nat) : Int)) (o_eq (o_addU (m := a1) (n := b1) ((a1 + b1) % 4294967296) rfl ev ev (by rw [IntKind.wrap_u32]; omega)) (by rw [ha2])) ?_
 iterate 3 refine e1 ?_
 obtain ⟨d2, hd2, ld2⟩ : ∃ q : Nat, q = rotl (d1 ^^^ a2) 8 ∧ q < 4294967296 := ⟨_, rfl, (rotl_lt _ _ (Nat.xor_lt_two_pow (n := 32) (by omega) (by omega)))⟩
 iterate 3 refine e1 ?_
 refine q_w (o_bits (d1 ^^^ a2) rfl ev ev (by decide) (u32_xor_nat _ _ (by omega) (by omega))) ?_
 refine e1 ?_
 refine k_c Tryz.func136 (LeftW_any (d1 ^^^ a2) 8 _ (Nat.xor_lt_two_pow (n := 32) (by omega) (by omega)) (by decide)) ?_
 rintro e_3 w_3 ⟨rfl, rfl⟩
 refine ⟨_, rfl, ?_⟩
 refine q_v 3 (.int .u32 ((d2 : Nat) : Int)) (o_eq (o_assign rfl ev) (by rw [hd2])) ?_
 iterate 2 refine e1 ?_
 obtain ⟨c2, hc2, lc2⟩ : ∃ q : Nat, q = (c1 + d2) % 4294967296 ∧ q < 4294967296 := ⟨_, rfl, (Nat.mod_lt _ (by decide))⟩
 iterate 3 refine e1 ?_
 refine q_v 35 (.int .u32 ((c2 : Nat) : Int)) (o_eq (o_addU (m := c1) (n := d2) ((c1 + d2) % 4294967296) rfl ev ev (by rw [IntKind.wrap_u32]; omega)) (by rw [hc2])) ?_
 iterate 3 refine e1 ?_
 obtain ⟨b2, hb2, lb2⟩ : ∃ q : Nat, q = rotl (b1 ^^^ c2) 7 ∧ q < 4294967296 := ⟨_, rfl, (rotl_lt _ _ (Nat.xor_lt_two_pow (n := 32) (by omega) (by omega)))⟩
 iterate 3 refine e1 ?_
 refine q_w (o_bits (b1 ^^^ c2) rfl ev ev (by decide) (u32_xor_nat _ _ (by omega) (by omega))) ?_
 refine e1 ?_
 refine k_c Tryz.func136 (LeftW_any (b1 ^^^ c2) 7 _ (Nat.xor_lt_two_pow (n := 32) (by omega) (by omega)) (by decide)) ?_
 rintro e_4 w_4 ⟨rfl, rfl⟩
 refine ⟨_, rfl, ?_⟩
 refine q_v 1 (.int .u32 ((b2 : Nat) : Int)) (o_eq (o_assign rfl ev) (by rw [hb2])) ?_
 iterate 13 refine e1 ?_
 refine ret4 rfl hd (pe hs rfl rfl) (pe hs rfl rfl) (pe hs rfl rfl) (pe hs rfl rfl) ?_
 exact ⟨a2, b2, c2, d2, rfl, (by rw [hb2, hc2, hd2, ha2, hb1, hc1, hd1, ha1]; rfl), la2, lb2, lc2, ld2, rfl⟩
theorem QuarterW_eq {a b d p r s : Nat} (w : World) (hq : qr a b c d = (p, q, r, s)) (la : a < 4294967296) (lb : b < 4294967296) (lc : c < 4294967296) (ld : d < 4294967296) :
  Calls Tryz.prog 105 #[.int .u32 ((a : Nat) : Int), .int .u32 ((b : Nat) : Int), .int .u32 ((c : Nat) : Int), .int .u32 ((d : Nat) : Int)] w fun e w' => e = .returned (.tuple #[.int .u32 ((p : Nat) : Int), .int .u32 ((q : Nat) : Int), .int .u32 ((r : Nat) : Int), .int .u32 ((s : Nat) : Int)]) ∧ w = w' := by
 refine Calls.mono (QuarterW_any a b c d w la lb lc ld) ?_
 rintro e w' ⟨p', q', r', s', he, hq', _, _, _, _, hw⟩
 rw [hq] at hq'
 simp only [Prod.mk.injEq] at hq'
 obtain ⟨rfl, rfl, rfl, rfl⟩ := hq'
 exact ⟨he, hw⟩
end Go.Proofs.YtkhbihnnkflfkaaGreat
/-
 WALKS: the reference's ChaCha20: Block.
-/
namespace Go.Proofs.YtkhbihnnkflfkaaGreat
open Go.RowKit
set_option maxHeartbeats 8000000
set_option linter.unusedVariables false
set_option linter.unusedSimpArgs false
set_option maxRecDepth 100000
attribute [local irreducible] wpList wpListIn putsR

def stpW (s : List Nat) : Nat → List Nat
 | 0 => s
 | K + 1 => if K < 4 then qrAt (stpW s K) K (4 + K) (8 + K) (12 + K) else qrAt (stpW s K) (K - 4) (4 + (K + 1) % 4) (8 + (K + 2) % 4) (12 + (K + 3) % 4)
theorem stpW_8 (s : List Nat) : stpW s 8 = diags (cols s 4) 4 := by
 simp [stpW, diags, cols]
theorem W16.stp {s : List Nat} (h : W16 s) : ∀ K, W16 (stpW s K)
 | 0 => h
 | K + 1 => by
  rw [stpW]
  split
  ·exact (W16.stp h K).qr _ _ _ _
  ·exact (W16.stp h K).qr _ _ _ _
def kW (ks : List Nat) : Nat → List Nat
 | 0 => [1634760805, 857760878, 2036477234, 1797285236, 0, 0, 0, 0, 0, 0, 0, 0, 0, 0, 0, 0]
 | K + 1 => (kW ks K).set (4 + K) (lowN ks (4 * K) 4)
def nW (l ns : List Nat) : Nat → List Nat
 | 0 => l
 | K + 1 => (nW l ns K).set (13 + K) (lowN ns (4 * K) 4)
theorem kW_length (ks : List Nat) : ∀ K, (kW ks K).length = 16
 | 0 => rfl
 | K + 1 => by rw [kW, List.length_set]; exact kW_length ks K
theorem nW_length (l ns : List Nat) : ∀ K, (nW l ns K).length = l.length
 | 0 => rfl
 | K + 1 => by rw [nW, List.length_set]; exact nW_length l ns K
theorem begin_same (ks ns : List Nat) (n : Nat) : nW ((kW ks 8).set 12 n) ns 3 = beginL ks ns n := by
 simp only [nW, kW, beginL, List.set_cons_succ, List.set_cons_zero, Nat.reduceMul, Nat.reduceAdd]
theorem BlockW_ok {A B : Option Addr} {c d m k : Nat} {ks ns : List Nat} (n : Nat) (w : World) (ha : Bs w A c ks) (hb : Bs w B d ns) (hm : ks.length = m) (hk : ns.length = k) (hn : n < 4294967296) (hm32 : m = 32) (hk12 : k = 12) :
  Calls Tryz.prog 63 #[.slice A (m) (c), .slice B (k) (d), .int .u32 ((n : Nat) : Int)] w fun e w' => ∃ A c, e = .returned (.tuple #[.slice A 64 c, .int .i64 0]) ∧ Own w' w.heap.size A c (blockL ks ns n) ∧ Below w.heap.size w w' := by
 have S0 : W16 (beginL ks ns n) := beginL_16 ks ns n ha.b8 hb.b8 hn
 refine x_enter 137 Tryz.func63 rfl rfl (fun a hs hd ha0 => ?_)
 have t0 := tA 0 ha0
 have t1 := tA 1 ha0
 have t2 := tA 2 ha0
 clear ha0
 iterate 3 refine e1 ?_
 refine q_as (.int .i64 ((0 : Nat) : Int)) rfl ?_
 iterate 5 refine e1 ?_
 refine q_w (o_len rfl ev) ?_
 refine q_v 25 (.bool (false)) (o_eq (o_neq (m := m) (n := 32) rfl ev rfl) (by rw [decide_eq_true hm32]; rfl)) ?_
 refine e1 ?_
 refine q_g 26 (.slice B (k) (d)) (o_move rfl ev) ?_
 refine q_g 26 (.int .i64 ((k : Nat) : Int)) (o_len rfl ev) ?_
 refine q_g 26 (.bool (false)) (o_eq (o_neq (m := k) (n := 12) rfl ev rfl) (by rw [decide_eq_true hk12]; rfl)) ?_
 refine q_w (o_pickF rfl ev ev) ?_
 iterate 6 refine e1 ?_
 refine q_v 31 (.agg (iws .u32 ([1634760805, 857760878, 2036477234, 1797285236, 0, 0, 0, 0, 0, 0, 0, 0, 0, 0, 0, 0])).toArray) (o_bld (vs := #[(0, .int .u32 ((1634760805 : Nat) : Int)), (1, .int .u32 ((857760878 : Nat) : Int)), (2, .int .u32 ((2036477234 : Nat) : Int)), (3, .int .u32 ((1797285236 : Nat) : Int))]) rfl (bld4 rfl rfl rfl rfl) (fun _ => by kernel_rfl)) ?_
 refine q_x (o_alloc (zs := (iws .u32 (List.replicate 16 0)).toArray) rfl (fun _ => by kernel_rfl)) (fun v_1 w_1 hR_1 => ?_)
 obtain ⟨g_1, rfl, hle_1, hB_1, hb_1⟩ := hR_1
 have ge_1 : w.heap.size ≤ g_1 := hle_1
 refine q_d (o_storeI rfl ev ev hB_1 ⟨by kernel_rfl, by kernel_rfl⟩ (by simp [iws])) (fun w_2 hR_2 => ?_)
 obtain ⟨hB_2, hX_1⟩ := hR_2
 have HB_1 := hX_1.below hb_1 hb_1.size (fun k hk => hk ▸ ge_1)
 replace hB_2 : Blk w_2 g_1 (iws .u32 ([1634760805, 857760878, 2036477234, 1797285236, 0, 0, 0, 0, 0, 0, 0, 0, 0, 0, 0, 0])).toArray _ := hB_2
 iterate 4 refine e1 ?_
 refine q_v 32 (.int .i64 ((0 : Nat) : Int)) (o_move rfl rfl) ?_
 refine x_nil ?_
 have h00 : kW ks 0 = [1634760805, 857760878, 2036477234, 1797285236, 0, 0, 0, 0, 0, 0, 0, 0, 0, 0, 0, 0] := rfl
 rw [← h00] at hB_2
 iterate 2 refine e1 ?_
 refine x_loop (fun nn aa ww => ∃ (K : Nat), nn = 8 - K ∧ aa.tmps.size = 137 ∧ aa.defers = [] ∧ aa.eval (.tmp 0) = .slice A (m) (c) ∧ aa.eval (.tmp 1) = .slice B (k) (d) ∧ aa.eval (.tmp 2) = .int .u32 ((n : Nat) : Int) ∧ aa.eval (.tmp 8) = .pointer (some ⟨g_1, 0, none⟩) ∧ aa.eval (.tmp 32) = .int .i64 ((K : Nat) : Int) ∧ K ≤ 8 ∧ Blk ww g_1 (iws .u32 (kW ks K)).toArray 120 ∧ Below w.heap.size w ww) (8) ?_ ?_
 ·exact ⟨0, rfl, (psz hs), (pdf hd), ev, ev, ev, ev, ev, by omega, hB_2, HB_1⟩
 ·skip
  rintro nna_1 a_1 w_3 ⟨K, hm_1, hs_1, hd_1, ta_1_0, ta_1_1, ta_1_2, ta_1_8, ta_1_32, hK, BS, HBL⟩ K_8 hK_8
  subst hm_1
  have hkl := kW_length ks K
  have hlo : lowN ks (4 * K) 4 < 4294967296 := lowN_lt ha.b8 (4 * K) 4
  iterate 2 refine e1 ?_
  refine q_w (o_lss (n := 8) rfl ev rfl) ?_
  iterate 2 refine e1 ?_
  refine w2_split (pe hs_1 rfl rfl) (fun h_1 => ?_) (fun h_1 => ?_)
  ·simp only [DD9] at h_1
   iterate 11 refine e1 ?_
   refine q_w (o_add64 (m := 4) rfl rfl ev (by omega)) ?_
   iterate 2 refine e1 ?_
   refine q_w (o_mul64 (m := 4) rfl rfl ev (by omega)) ?_
   refine e1 ?_
   refine k_c Tryz.func104 (LowW_any _ (ha.below HBL) hm (4 * K) 4 (by omega) (by decide)) ?_
   rintro e_1 w_4 ⟨rfl, rfl⟩
   refine ⟨_, rfl, ?_⟩
   refine q_w (o_conv (r := lowN ks (4 * K) 4) rfl ev ⟨.int .u64, fun _ => by kernel_rfl⟩ (fun _ => by kernel_rfl) (by rw [IntKind.wrap_u32]; omega)) ?_
   refine q_v _ (.pointer (some ⟨g_1, 4 + K, none⟩)) (zero_off (o_ixA (k := 0) (i := 4 + K) (n := 16) (e := 68) rfl ev ev (by omega) (fun _ => by kernel_rfl) (fun _ => by kernel_rfl))) ?_
   refine q_d (o_storeW rfl ev ev BS (by rw [hkl]; omega) ⟨by kernel_rfl, by kernel_rfl⟩) (fun w_5 hR_4 => ?_)
   obtain ⟨hB_3, hX_2⟩ := hR_4
   have HB_2 := hX_2.below HBL HBL.size (fun k hk => hk ▸ ge_1)
   iterate 3 refine e1 ?_
   refine q_w (o_add64 (n := 1) rfl ev rfl (by omega)) ?_
   refine e1 ?_
   refine x_nil ?_
   refine hK_8 _ _ _ ⟨K + 1, rfl, (psz hs_1), (pdf hd_1), ev, ev, ev, ev, ev, (by omega), hB_3, HB_2⟩ ?_
   omega
  ·simp only [DD9] at h_1
   obtain rfl : K = 8 := by omega
   iterate 8 refine e1 ?_
   refine q_v _ (.pointer (some ⟨g_1, 12, none⟩)) (zero_off (o_ixA (k := 0) (i := 12) (n := 16) (e := 68) rfl ev rfl (by omega) (fun _ => by kernel_rfl) (fun _ => by kernel_rfl))) ?_
   refine q_d (o_storeW rfl ev ev BS (by rw [hkl]; omega) ⟨by kernel_rfl, by kernel_rfl⟩) (fun w_6 hR_5 => ?_)
   obtain ⟨hB_4, hX_3⟩ := hR_5
   have HB_3 := hX_3.below HBL HBL.size (fun k hk => hk ▸ ge_1)
   iterate 4 refine e1 ?_
   refine q_v 46 (.int .i64 ((0 : Nat) : Int)) (o_move rfl rfl) ?_
   refine x_nil ?_
   obtain ⟨l9, hl9⟩ : ∃ q, q = (kW ks 8).set 12 n := ⟨_, rfl⟩
   have hl16 : l9.length = 16 := by rw [hl9, List.length_set]; exact kW_length ks 8
   replace hB_4 : Blk w_6 g_1 (iws .u32 (nW l9 ns 0)).toArray 120 := by rw [hl9]; exact hB_4
   iterate 2 refine e1 ?_
   refine x_loop (fun nn aa ww => ∃ (K : Nat), nn = 3 - K ∧ aa.tmps.size = 137 ∧ aa.defers = [] ∧ aa.eval (.tmp 1) = .slice B (k) (d) ∧ aa.eval (.tmp 8) = .pointer (some ⟨g_1, 0, none⟩) ∧ aa.eval (.tmp 46) = .int .i64 ((K : Nat) : Int) ∧ K ≤ 3 ∧ Blk ww g_1 (iws .u32 (nW l9 ns K)).toArray 120 ∧ Below w.heap.size w ww) (3) ?_ ?_
   ·exact ⟨0, rfl, (psz hs_1), (pdf hd_1), ev, ev, ev, by omega, hB_4, HB_3⟩
   ·skip
    rintro nna_2 a_2 w_7 ⟨K, hm_2, hs_2, hd_2, ta_2_1, ta_2_8, ta_2_46, hK, BS, HBL⟩ K_18 hK_18
    subst hm_2
    have hkl := (nW_length l9 ns K).trans hl16
    have hlo : lowN ns (4 * K) 4 < 4294967296 := lowN_lt hb.b8 (4 * K) 4
    iterate 2 refine e1 ?_
    refine q_w (o_lss (n := 3) rfl ev rfl) ?_
    iterate 2 refine e1 ?_
    refine w2_split (pe hs_2 rfl rfl) (fun h_2 => ?_) (fun h_2 => ?_)
    ·simp only [DD9] at h_2
     iterate 11 refine e1 ?_
     refine q_w (o_add64 (m := 13) rfl rfl ev (by omega)) ?_
     iterate 2 refine e1 ?_
     refine q_w (o_mul64 (m := 4) rfl rfl ev (by omega)) ?_
     refine e1 ?_
     refine k_c Tryz.func104 (LowW_any _ (hb.below HBL) hk (4 * K) 4 (by omega) (by decide)) ?_
     rintro e_2 w_8 ⟨rfl, rfl⟩
     refine ⟨_, rfl, ?_⟩
     refine q_w (o_conv (r := lowN ns (4 * K) 4) rfl ev ⟨.int .u64, fun _ => by kernel_rfl⟩ (fun _ => by kernel_rfl) (by rw [IntKind.wrap_u32]; omega)) ?_
     refine q_v _ (.pointer (some ⟨g_1, 13 + K, none⟩)) (zero_off (o_ixA (k := 0) (i := 13 + K) (n := 16) (e := 68) rfl ev ev (by omega) (fun _ => by kernel_rfl) (fun _ => by kernel_rfl))) ?_
     refine q_d (o_storeW rfl ev ev BS (by rw [hkl]; omega) ⟨by kernel_rfl, by kernel_rfl⟩) (fun w_9 hR_7 => ?_)
     obtain ⟨hB_5, hX_4⟩ := hR_7
     have HB_4 := hX_4.below HBL HBL.size (fun k hk => hk ▸ ge_1)
     iterate 3 refine e1 ?_
     refine q_w (o_add64 (n := 1) rfl ev rfl (by omega)) ?_
     refine e1 ?_
     refine x_nil ?_
     refine hK_18 _ _ _ ⟨K + 1, rfl, (psz hs_2), (pdf hd_2), ev, ev, ev, (by omega), hB_5, HB_4⟩ ?_
     omega
    ·simp only [DD9] at h_2
     obtain rfl : K = 3 := by omega
     iterate 6 refine e1 ?_
     rw [hl9, begin_same] at BS
     refine e1 ?_
     refine q_w (o_loadI rfl ev BS (by rw [S0.1]; exact ⟨by kernel_rfl, by kernel_rfl⟩)) ?_
     refine q_x (o_alloc (zs := (iws .u32 (List.replicate 16 0)).toArray) rfl (fun _ => by kernel_rfl)) (fun v_2 w_10 hR_8 => ?_)
     obtain ⟨g_2, rfl, hle_2, hB_6, hb_4⟩ := hR_8
     have ne_1 : g_1 ≠ g_2 := Nat.ne_of_lt (Nat.lt_of_lt_of_le BS.lt hle_2)
     have ge_2 : w.heap.size ≤ g_2 := Nat.le_trans HBL.size hle_2
     replace BS := BS.nx hb_4
     have HB_5 := below_from HBL hb_4
     refine q_d (o_storeI rfl ev ev hB_6 (by rw [S0.1]; exact ⟨by kernel_rfl, by kernel_rfl⟩) (by rw [S0.1]; simp [iws])) (fun w_11 hR_9 => ?_)
     obtain ⟨hB_7, hX_5⟩ := hR_9
     replace BS := hX_5.blk BS ne_1
     have HB_6 := hX_5.below HB_5 HB_5.size (fun k hk => hk ▸ ge_2)
     iterate 4 refine e1 ?_
     refine q_v 59 (.int .i64 ((0 : Nat) : Int)) (o_move rfl rfl) ?_
     iterate 2 refine e1 ?_
     refine x_loop (fun nn aa ww => ∃ (R : Nat), nn = 10 - R ∧ aa.tmps.size = 137 ∧ aa.defers = [] ∧ aa.eval (.tmp 8) = .pointer (some ⟨g_1, 0, none⟩) ∧ aa.eval (.tmp 11) = .pointer (some ⟨g_2, 0, none⟩) ∧ aa.eval (.tmp 59) = .int .i64 ((R : Nat) : Int) ∧ R ≤ 10 ∧ Blk ww g_2 (iws .u32 (dbls (beginL ks ns n) R)).toArray 120 ∧ Blk ww g_1 (iws .u32 (beginL ks ns n)).toArray 120 ∧ Below w.heap.size w ww) (10) ?_ ?_
     ·exact ⟨0, rfl, (psz hs_2), (pdf hd_2), ev, ev, ev, by omega, hB_7, BS, HB_6⟩
     ·skip
      rintro nna_3 a_3 w_12 ⟨R, hm_3, hs_3, hd_3, ta_3_8, ta_3_11, ta_3_59, hR, BS, BF, HBL⟩ K_28 hK_28
      subst hm_3
      have S1 := S0.dbls R
      generalize hs1 : dbls (beginL ks ns n) R = s1 at BS S1
      iterate 2 refine e1 ?_
      refine q_w (o_lss (n := 10) rfl ev rfl) ?_
      iterate 2 refine e1 ?_
      refine w2_split (pe hs_3 rfl rfl) (fun h_3 => ?_) (fun h_3 => ?_)
      ·simp only [DD9] at h_3
       iterate 6 refine e1 ?_
       refine q_v 61 (.int .i64 ((0 : Nat) : Int)) (o_move rfl rfl) ?_
       iterate 2 refine e1 ?_
       refine x_loop (fun nn aa ww => ∃ (K : Nat), nn = 8 - K ∧ aa.tmps.size = 137 ∧ aa.defers = [] ∧ aa.eval (.tmp 8) = .pointer (some ⟨g_1, 0, none⟩) ∧ aa.eval (.tmp 11) = .pointer (some ⟨g_2, 0, none⟩) ∧ aa.eval (.tmp 59) = .int .i64 ((R : Nat) : Int) ∧ aa.eval (.tmp 61) = .int .i64 ((K : Nat) : Int) ∧ K ≤ 8 ∧ Blk ww g_2 (iws .u32 (stpW s1 K)).toArray 120 ∧ Blk ww g_1 (iws .u32 (beginL ks ns n)).toArray 120 ∧ Below w.heap.size w ww) (8) ?_ ?_
       ·exact ⟨0, rfl, (psz hs_3), (pdf hd_3), ev, ev, ev, ev, by omega, BS, BF, HBL⟩
       ·skip
        rintro nna_4 a_4 w_13 ⟨K, hm_4, hs_4, hd_4, ta_4_8, ta_4_11, ta_4_59, ta_4_61, hK, BS, BF, HBL⟩ K_35 hK_35
        subst hm_4
        have HS := S1.stp K
        generalize hs : stpW s1 K = s at BS HS
        have hs16 := HS.1
        iterate 2 refine e1 ?_
        refine q_w (o_lss (n := 8) rfl ev rfl) ?_
        iterate 2 refine e1 ?_
        refine w2_split (pe hs_4 rfl rfl) (fun h_4 => ?_) (fun h_4 => ?_)
        ·simp only [DD9] at h_4
         iterate 12 refine e1 ?_
         refine q_w (o_rem (n := 4) rfl ev rfl (by omega) (IntWalk.i64_in _ (by omega))) ?_
         refine e1 ?_
         refine q_w (o_rem (n := 4) rfl ev rfl (by omega) (IntWalk.i64_in _ (by omega))) ?_
         refine q_w (o_add64 (m := 4) rfl rfl ev (by omega)) ?_
         refine e1 ?_
         refine q_w (o_rem (n := 4) rfl ev rfl (by omega) (IntWalk.i64_in _ (by omega))) ?_
         refine q_w (o_add64 (m := 8) rfl rfl ev (by omega)) ?_
         refine e1 ?_
         refine q_w (o_rem (n := 4) rfl ev rfl (by omega) (IntWalk.i64_in _ (by omega))) ?_
         refine q_w (o_add64 (m := 12) rfl rfl ev (by omega)) ?_
         iterate 9 refine e1 ?_
         refine q_w (o_geq (n := 4) rfl ev rfl) ?_
         refine e1 ?_
         refine w2_split (pe hs_4 rfl rfl) (fun h_5 => ?_) (fun h_5 => ?_)
         ·simp only [DD9] at h_5
          iterate 2 refine e1 ?_
          refine q_w (o_add64 (n := 1) rfl ev rfl (by omega)) ?_
          refine q_w (o_rem (n := 4) rfl ev rfl (by omega) (IntWalk.i64_in _ (by omega))) ?_
          refine q_w (o_add64 (m := 4) rfl rfl ev (by omega)) ?_
          refine e1 ?_
          refine q_w (o_add64 (n := 2) rfl ev rfl (by omega)) ?_
          refine q_w (o_rem (n := 4) rfl ev rfl (by omega) (IntWalk.i64_in _ (by omega))) ?_
          refine q_w (o_add64 (m := 8) rfl rfl ev (by omega)) ?_
          refine e1 ?_
          refine q_w (o_add64 (n := 3) rfl ev rfl (by omega)) ?_
          refine q_w (o_rem (n := 4) rfl ev rfl (by omega) (IntWalk.i64_in _ (by omega))) ?_
          refine q_w (o_add64 (m := 12) rfl rfl ev (by omega)) ?_
          iterate 5 refine e1 ?_
          generalize hdd : 12 + ((K + 3) % 4) = dd
          generalize hcc : 8 + ((K + 2) % 4) = cc
          generalize hbb : 4 + ((K + 1) % 4) = bb
          generalize haa : K % 4 = aa
          obtain ⟨a0, ha0, la0⟩ : ∃ a, s.getD (aa) 0 = a ∧ a < 4294967296 := ⟨_, rfl, HS.get _⟩
          obtain ⟨b0, hb0, lb0⟩ : ∃ a, s.getD (bb) 0 = a ∧ a < 4294967296 := ⟨_, rfl, HS.get _⟩
          obtain ⟨c0, hc0, lc0⟩ : ∃ a, s.getD (cc) 0 = a ∧ a < 4294967296 := ⟨_, rfl, HS.get _⟩
          obtain ⟨d0, hd0, ld0⟩ : ∃ a, s.getD (dd) 0 = a ∧ a < 4294967296 := ⟨_, rfl, HS.get _⟩
          obtain ⟨p0, p1, p2, p3, hqr⟩ : ∃ p0 p1 p2 p3, qr a0 b0 c0 d0 = (p0, p1, p2, p3) := ⟨_, _, _, _, rfl⟩
          refine y_drawn2 21 [iI .i64 aa, iP g_2 aa, iI .u32 a0, iI .i64 bb, iP g_2 bb, iI .u32 b0, iI .i64 cc, iP g_2 cc, iI .u32 c0, iI .i64 dd, iP g_2 dd, iI .u32 d0, iV (.tuple #[.int .u32 ((p0 : Nat) : Int), .int .u32 ((p1 : Nat) : Int), .int .u32 ((p2 : Nat) : Int), .int .u32 ((p3 : Nat) : Int)]), iV (.tuple #[.int .u32 ((p0 : Nat) : Int), .int .u32 ((p1 : Nat) : Int), .int .u32 ((p2 : Nat) : Int), .int .u32 ((p3 : Nat) : Int)]), iI .u32 p0, iI .u32 p1, iI .u32 p2, iI .u32 p3, iI .u32 p0, iI .u32 p1, iI .u32 p2] [90, 91, 92, 93, 94, 95, 96, 97, 98, 99, 100, 101, 102, 89, 103, 104, 105, 106, 17, 18, 19] hs_4 hd_4 ⟨sx, (step_ok rfl fun a' w' hb' hO hD => oV (zero_off (o_ixA (k := 0) (i := aa) (n := 16) (e := 68) rfl ed ed (by omega) (fun _ => by kernel_rfl) (fun _ => by kernel_rfl))) rfl), (step_ok rfl fun a' w' hb' hO hD => oV (o_loadW rfl ed (BS.nx hb') (by rw [hs16]; omega) ha0 ⟨by kernel_rfl, by kernel_rfl⟩) rfl), sx, (step_ok rfl fun a' w' hb' hO hD => oV (zero_off (o_ixA (k := 0) (i := bb) (n := 16) (e := 68) rfl ed ed (by omega) (fun _ => by kernel_rfl) (fun _ => by kernel_rfl))) rfl), (step_ok rfl fun a' w' hb' hO hD => oV (o_loadW rfl ed (BS.nx hb') (by rw [hs16]; omega) hb0 ⟨by kernel_rfl, by kernel_rfl⟩) rfl), sx, (step_ok rfl fun a' w' hb' hO hD => oV (zero_off (o_ixA (k := 0) (i := cc) (n := 16) (e := 68) rfl ed ed (by omega) (fun _ => by kernel_rfl) (fun _ => by kernel_rfl))) rfl), (step_ok rfl fun a' w' hb' hO hD => oV (o_loadW rfl ed (BS.nx hb') (by rw [hs16]; omega) hc0 ⟨by kernel_rfl, by kernel_rfl⟩) rfl), sx, (step_ok rfl fun a' w' hb' hO hD => oV (zero_off (o_ixA (k := 0) (i := dd) (n := 16) (e := 68) rfl ed ed (by omega) (fun _ => by kernel_rfl) (fun _ => by kernel_rfl))) rfl), (step_ok rfl fun a' w' hb' hO hD => oV (o_loadW rfl ed (BS.nx hb') (by rw [hs16]; omega) hd0 ⟨by kernel_rfl, by kernel_rfl⟩) rfl), (step_ok rfl fun a' w' hb' hO hD => oC (vs := #[.int .u32 ((a0 : Nat) : Int), .int .u32 ((b0 : Nat) : Int), .int .u32 ((c0 : Nat) : Int), .int .u32 ((d0 : Nat) : Int)]) Tryz.func105 rfl (args4 ed ed ed ed) (Calls.mono (QuarterW_eq _ hqr la0 lb0 lc0 ld0) (fun e w'' hR => by obtain ⟨rfl, rfl⟩ := hR; exact ⟨_, rfl, rfl, (Below.refl _ _)⟩))), sx, sx, sx, sx, sx, sx, sx, sx, trivial⟩ (fun a_5 w_14 hs_5 hd_5 hb_6 hO_1 hV_1 => ?_)
          have ta_5_8 := fK 8 hO_1
          have ta_5_11 := fK 11 hO_1
          have ta_5_59 := fK 59 hO_1
          have ta_5_61 := fK 61 hO_1
          have ta_5_13 := fK 13 hO_1
          have ta_5_14 := fK 14 hO_1
          have ta_5_15 := fK 15 hO_1
          have ta_5_16 := fK 16 hO_1
          obtain ⟨BS, BF⟩ := nx2 hb_6 BS BF
          have HB_7 := below_from HBL hb_6
          have ta_5_106 := fV 106 hV_1
          have ta_5_17 := fV 17 hV_1
          have ta_5_18 := fV 18 hV_1
          have ta_5_19 := fV 19 hV_1
          simp only [List.drop_succ_cons, List.drop_zero]
          iterate 11 refine e1 ?_
          refine q_v _ (.pointer (some ⟨g_2, aa, none⟩)) (zero_off (o_ixA (k := 0) (i := aa) (n := 16) (e := 68) rfl ev ev (by omega) (fun _ => by kernel_rfl) (fun _ => by kernel_rfl))) ?_
          refine q_d (o_storeW rfl ev ev BS (by rw [hs16]; omega) ⟨by kernel_rfl, by kernel_rfl⟩) (fun w_15 hR_10 => ?_)
          obtain ⟨hB_8, hX_6⟩ := hR_10
          replace BF := hX_6.blk BF ne_1
          have HB_8 := hX_6.below HB_7 HB_7.size (fun k hk => hk ▸ ge_2)
          refine q_v _ (.pointer (some ⟨g_2, bb, none⟩)) (zero_off (o_ixA (k := 0) (i := bb) (n := 16) (e := 68) rfl ev ev (by omega) (fun _ => by kernel_rfl) (fun _ => by kernel_rfl))) ?_
          refine q_d (o_storeW rfl ev ev hB_8 (by simp only [List.length_set, hs16]; omega) ⟨by kernel_rfl, by kernel_rfl⟩) (fun w_16 hR_11 => ?_)
          obtain ⟨hB_9, hX_7⟩ := hR_11
          replace BF := hX_7.blk BF ne_1
          have HB_9 := hX_7.below HB_8 HB_8.size (fun k hk => hk ▸ ge_2)
          refine q_v _ (.pointer (some ⟨g_2, cc, none⟩)) (zero_off (o_ixA (k := 0) (i := cc) (n := 16) (e := 68) rfl ev ev (by omega) (fun _ => by kernel_rfl) (fun _ => by kernel_rfl))) ?_
          refine q_d (o_storeW rfl ev ev hB_9 (by simp only [List.length_set, List.length_set, hs16]; omega) ⟨by kernel_rfl, by kernel_rfl⟩) (fun w_17 hR_12 => ?_)
          obtain ⟨hB_10, hX_8⟩ := hR_12
          replace BF := hX_8.blk BF ne_1
          have HB_10 := hX_8.below HB_9 HB_9.size (fun k hk => hk ▸ ge_2)
          refine q_v _ (.pointer (some ⟨g_2, dd, none⟩)) (zero_off (o_ixA (k := 0) (i := dd) (n := 16) (e := 68) rfl ev ev (by omega) (fun _ => by kernel_rfl) (fun _ => by kernel_rfl))) ?_
          refine q_d (o_storeW rfl ev ev hB_10 (by simp only [List.length_set, List.length_set, List.length_set, hs16]; omega) ⟨by kernel_rfl, by kernel_rfl⟩) (fun w_18 hR_13 => ?_)
          obtain ⟨hB_11, hX_9⟩ := hR_13
          replace BF := hX_9.blk BF ne_1
          have HB_11 := hX_9.below HB_10 HB_10.size (fun k hk => hk ▸ ge_2)
          iterate 3 refine e1 ?_
          refine q_w (o_add64 (n := 1) rfl ev rfl (by omega)) ?_
          refine e1 ?_
          refine x_nil ?_
          refine hK_35 _ _ _ ⟨K + 1, rfl, (psz hs_5), (pdf hd_5), ev, ev, ev, ev, (by omega), (by rw [stpW, if_neg (show ¬ K < 4 by omega), hbb, hcc, hdd, hs, show K - 4 = aa by omega, qrAt_eq (a := p0) (b := p1) (c := p2) (d := p3) (by rw [ha0, hb0, hc0, hd0]; exact hqr)]; exact hB_11), BF, HB_11⟩ ?_
          omega
         ·simp only [DD9] at h_5
          iterate 3 refine e1 ?_
          generalize hdd : 12 + (K % 4) = dd
          generalize hcc : 8 + (K % 4) = cc
          generalize hbb : 4 + (K % 4) = bb
          generalize haa : K % 4 = aa
          obtain ⟨a0, ha0, la0⟩ : ∃ a, s.getD (aa) 0 = a ∧ a < 4294967296 := ⟨_, rfl, HS.get _⟩
          obtain ⟨b0, hb0, lb0⟩ : ∃ a, s.getD (bb) 0 = a ∧ a < 4294967296 := ⟨_, rfl, HS.get _⟩
          obtain ⟨c0, hc0, lc0⟩ : ∃ a, s.getD (cc) 0 = a ∧ a < 4294967296 := ⟨_, rfl, HS.get _⟩
          obtain ⟨d0, hd0, ld0⟩ : ∃ a, s.getD (dd) 0 = a ∧ a < 4294967296 := ⟨_, rfl, HS.get _⟩
          obtain ⟨p0, p1, p2, p3, hqr⟩ : ∃ p0 p1 p2 p3, qr a0 b0 c0 d0 = (p0, p1, p2, p3) := ⟨_, _, _, _, rfl⟩
          refine y_drawn2 21 [iI .i64 aa, iP g_2 aa, iI .u32 a0, iI .i64 bb, iP g_2 bb, iI .u32 b0, iI .i64 cc, iP g_2 cc, iI .u32 c0, iI .i64 dd, iP g_2 dd, iI .u32 d0, iV (.tuple #[.int .u32 ((p0 : Nat) : Int), .int .u32 ((p1 : Nat) : Int), .int .u32 ((p2 : Nat) : Int), .int .u32 ((p3 : Nat) : Int)]), iV (.tuple #[.int .u32 ((p0 : Nat) : Int), .int .u32 ((p1 : Nat) : Int), .int .u32 ((p2 : Nat) : Int), .int .u32 ((p3 : Nat) : Int)]), iI .u32 p0, iI .u32 p1, iI .u32 p2, iI .u32 p3, iI .u32 p0, iI .u32 p1, iI .u32 p2] [90, 91, 92, 93, 94, 95, 96, 97, 98, 99, 100, 101, 102, 89, 103, 104, 105, 106, 17, 18, 19] hs_4 hd_4 ⟨sx, (step_ok rfl fun a' w' hb' hO hD => oV (zero_off (o_ixA (k := 0) (i := aa) (n := 16) (e := 68) rfl ed ed (by omega) (fun _ => by kernel_rfl) (fun _ => by kernel_rfl))) rfl), (step_ok rfl fun a' w' hb' hO hD => oV (o_loadW rfl ed (BS.nx hb') (by rw [hs16]; omega) ha0 ⟨by kernel_rfl, by kernel_rfl⟩) rfl), sx, (step_ok rfl fun a' w' hb' hO hD => oV (zero_off (o_ixA (k := 0) (i := bb) (n := 16) (e := 68) rfl ed ed (by omega) (fun _ => by kernel_rfl) (fun _ => by kernel_rfl))) rfl), (step_ok rfl fun a' w' hb' hO hD => oV (o_loadW rfl ed (BS.nx hb') (by rw [hs16]; omega) hb0 ⟨by kernel_rfl, by kernel_rfl⟩) rfl), sx, (step_ok rfl fun a' w' hb' hO hD => oV (zero_off (o_ixA (k := 0) (i := cc) (n := 16) (e := 68) rfl ed ed (by omega) (fun _ => by kernel_rfl) (fun _ => by kernel_rfl))) rfl), (step_ok rfl fun a' w' hb' hO hD => oV (o_loadW rfl ed (BS.nx hb') (by rw [hs16]; omega) hc0 ⟨by kernel_rfl, by kernel_rfl⟩) rfl), sx, (step_ok rfl fun a' w' hb' hO hD => oV (zero_off (o_ixA (k := 0) (i := dd) (n := 16) (e := 68) rfl ed ed (by omega) (fun _ => by kernel_rfl) (fun _ => by kernel_rfl))) rfl), (step_ok rfl fun a' w' hb' hO hD => oV (o_loadW rfl ed (BS.nx hb') (by rw [hs16]; omega) hd0 ⟨by kernel_rfl, by kernel_rfl⟩) rfl), (step_ok rfl fun a' w' hb' hO hD => oC (vs := #[.int .u32 ((a0 : Nat) : Int), .int .u32 ((b0 : Nat) : Int), .int .u32 ((c0 : Nat) : Int), .int .u32 ((d0 : Nat) : Int)]) Tryz.func105 rfl (args4 ed ed ed ed) (Calls.mono (QuarterW_eq _ hqr la0 lb0 lc0 ld0) (fun e w'' hR => by obtain ⟨rfl, rfl⟩ := hR; exact ⟨_, rfl, rfl, (Below.refl _ _)⟩))), sx, sx, sx, sx, sx, sx, sx, sx, trivial⟩ (fun a_6 w_19 hs_6 hd_6 hb_8 hO_2 hV_2 => ?_)
          have ta_6_8 := fK 8 hO_2
          have ta_6_11 := fK 11 hO_2
          have ta_6_59 := fK 59 hO_2
          have ta_6_61 := fK 61 hO_2
          have ta_6_13 := fK 13 hO_2
          have ta_6_14 := fK 14 hO_2
          have ta_6_15 := fK 15 hO_2
          have ta_6_16 := fK 16 hO_2
          obtain ⟨BS, BF⟩ := nx2 hb_8 BS BF
          have HB_12 := below_from HBL hb_8
          have ta_6_106 := fV 106 hV_2
          have ta_6_17 := fV 17 hV_2
          have ta_6_18 := fV 18 hV_2
          have ta_6_19 := fV 19 hV_2
          simp only [List.drop_succ_cons, List.drop_zero]
          iterate 11 refine e1 ?_
          refine q_v _ (.pointer (some ⟨g_2, aa, none⟩)) (zero_off (o_ixA (k := 0) (i := aa) (n := 16) (e := 68) rfl ev ev (by omega) (fun _ => by kernel_rfl) (fun _ => by kernel_rfl))) ?_
          refine q_d (o_storeW rfl ev ev BS (by rw [hs16]; omega) ⟨by kernel_rfl, by kernel_rfl⟩) (fun w_20 hR_14 => ?_)
          obtain ⟨hB_12, hX_10⟩ := hR_14
          replace BF := hX_10.blk BF ne_1
          have HB_13 := hX_10.below HB_12 HB_12.size (fun k hk => hk ▸ ge_2)
          refine q_v _ (.pointer (some ⟨g_2, bb, none⟩)) (zero_off (o_ixA (k := 0) (i := bb) (n := 16) (e := 68) rfl ev ev (by omega) (fun _ => by kernel_rfl) (fun _ => by kernel_rfl))) ?_
          refine q_d (o_storeW rfl ev ev hB_12 (by simp only [List.length_set, hs16]; omega) ⟨by kernel_rfl, by kernel_rfl⟩) (fun w_21 hR_15 => ?_)
          obtain ⟨hB_13, hX_11⟩ := hR_15
          replace BF := hX_11.blk BF ne_1
          have HB_14 := hX_11.below HB_13 HB_13.size (fun k hk => hk ▸ ge_2)
          refine q_v _ (.pointer (some ⟨g_2, cc, none⟩)) (zero_off (o_ixA (k := 0) (i := cc) (n := 16) (e := 68) rfl ev ev (by omega) (fun _ => by kernel_rfl) (fun _ => by kernel_rfl))) ?_
          refine q_d (o_storeW rfl ev ev hB_13 (by simp only [List.length_set, List.length_set, hs16]; omega) ⟨by kernel_rfl, by kernel_rfl⟩) (fun w_22 hR_16 => ?_)
          obtain ⟨hB_14, hX_12⟩ := hR_16
          replace BF := hX_12.blk BF ne_1
          have HB_15 := hX_12.below HB_14 HB_14.size (fun k hk => hk ▸ ge_2)
          refine q_v _ (.pointer (some ⟨g_2, dd, none⟩)) (zero_off (o_ixA (k := 0) (i := dd) (n := 16) (e := 68) rfl ev ev (by omega) (fun _ => by kernel_rfl) (fun _ => by kernel_rfl))) ?_
          refine q_d (o_storeW rfl ev ev hB_14 (by simp only [List.length_set, List.length_set, List.length_set, hs16]; omega) ⟨by kernel_rfl, by kernel_rfl⟩) (fun w_23 hR_17 => ?_)
          obtain ⟨hB_15, hX_13⟩ := hR_17
          replace BF := hX_13.blk BF ne_1
          have HB_16 := hX_13.below HB_15 HB_15.size (fun k hk => hk ▸ ge_2)
          iterate 3 refine e1 ?_
          refine q_w (o_add64 (n := 1) rfl ev rfl (by omega)) ?_
          refine e1 ?_
          refine x_nil ?_
          refine hK_35 _ _ _ ⟨K + 1, rfl, (psz hs_6), (pdf hd_6), ev, ev, ev, ev, (by omega), (by rw [stpW, if_pos (show K < 4 by omega), show 12 + K = dd by omega, show 8 + K = cc by omega, show 4 + K = bb by omega, hs, show K = aa by omega, qrAt_eq (a := p0) (b := p1) (c := p2) (d := p3) (by rw [ha0, hb0, hc0, hd0]; exact hqr)]; exact hB_15), BF, HB_16⟩ ?_
          omega
        ·simp only [DD9] at h_4
         obtain rfl : K = 8 := by omega
         iterate 7 refine e1 ?_
         refine q_w (o_add64 (n := 1) rfl ev rfl (by omega)) ?_
         refine e1 ?_
         refine x_nil ?_
         refine hK_28 _ _ _ ⟨R + 1, rfl, (psz hs_4), (pdf hd_4), ev, ev, ev, (by omega), (by rw [dbls, hs1, ← stpW_8, hs]; exact BS), BF, HBL⟩ ?_
         omega
      ·simp only [DD9] at h_3
       obtain rfl : R = 10 := by omega
       iterate 12 refine e1 ?_
       refine q_v 121 (.int .i64 ((0 : Nat) : Int)) (o_move rfl rfl) ?_
       refine x_nil ?_
       have s16 := S1.1
       iterate 2 refine e1 ?_
       refine x_loop (fun nn aa ww => ∃ (K : Nat) (A1 : Option Addr) (c1 : Nat), nn = 16 - K ∧ aa.tmps.size = 137 ∧ aa.defers = [] ∧ aa.eval (.tmp 8) = .pointer (some ⟨g_1, 0, none⟩) ∧ aa.eval (.tmp 11) = .pointer (some ⟨g_2, 0, none⟩) ∧ aa.eval (.tmp 21) = .slice A1 (4 * K) (c1) ∧ aa.eval (.tmp 121) = .int .i64 ((K : Nat) : Int) ∧ K ≤ 16 ∧ Own ww w.heap.size A1 c1 (outL s1 (beginL ks ns n) K) ∧ Blk ww g_2 (iws .u32 s1).toArray 120 ∧ Blk ww g_1 (iws .u32 (beginL ks ns n)).toArray 120 ∧ Below w.heap.size w ww) (16) ?_ ?_
       ·exact ⟨0, none, 0, rfl, (psz hs_3), (pdf hd_3), ev, ev, ev, ev, by omega, Own.nil _ _, BS, BF, HBL⟩
       ·skip
        rintro nna_7 a_7 w_24 ⟨K, A1, c1, hm_5, hs_7, hd_7, ta_7_8, ta_7_11, ta_7_21, ta_7_121, hK, hO, BS, BF, HBL⟩ K_50 hK_50
        subst hm_5
        iterate 2 refine e1 ?_
        refine q_w (o_lss (n := 16) rfl ev rfl) ?_
        iterate 2 refine e1 ?_
        refine w2_split (pe hs_7 rfl rfl) (fun h_6 => ?_) (fun h_6 => ?_)
        ·simp only [DD9] at h_6
         iterate 9 refine e1 ?_
         refine y_drawn 10 [iV (.slice A1 (4 * K) (c1)), iI .i64 K, iP g_2 K, iV (.int .u32 ((s1.getD (K) 0 : Nat) : Int)), iI .i64 K, iP g_1 K, iV (.int .u32 (((beginL ks ns n).getD (K) 0 : Nat) : Int)), iV (.int .u32 ((((s1.getD (K) 0) + ((beginL ks ns n).getD (K) 0)) % 4294967296 : Nat) : Int)), iV (.int .u64 ((((s1.getD (K) 0) + ((beginL ks ns n).getD (K) 0)) % 4294967296 : Nat) : Int)), fun ww vv => OwnN w_24.heap.size (4) (putL (((s1.getD (K) 0) + ((beginL ks ns n).getD (K) 0)) % 4294967296) 4) ww vv] [124, 125, 126, 127, 128, 129, 130, 131, 132, 133] hs_7 hd_7 ⟨sx, sx, (step_ok rfl fun a' w' hb' hO hD => oV (zero_off (o_ixA (k := 0) (i := K) (n := 16) (e := 68) rfl ed ed (by omega) (fun _ => by kernel_rfl) (fun _ => by kernel_rfl))) rfl), (step_ok rfl fun a' w' hb' hO hD => oV (o_loadW rfl ed (BS.nx hb') (by rw [s16]; omega) rfl ⟨by kernel_rfl, by kernel_rfl⟩) rfl), sx, (step_ok rfl fun a' w' hb' hO hD => oV (zero_off (o_ixA (k := 0) (i := K) (n := 16) (e := 68) rfl ed ed (by omega) (fun _ => by kernel_rfl) (fun _ => by kernel_rfl))) rfl), (step_ok rfl fun a' w' hb' hO hD => oV (o_loadW rfl ed (BF.nx hb') (by rw [S0.1]; omega) rfl ⟨by kernel_rfl, by kernel_rfl⟩) rfl), (step_ok rfl fun a' w' hb' hO hD => oV (o_addU (m := (s1.getD (K) 0)) (n := ((beginL ks ns n).getD (K) 0)) (((s1.getD (K) 0) + ((beginL ks ns n).getD (K) 0)) % 4294967296) rfl ed ed (by rw [IntKind.wrap_u32]; omega)) rfl), (step_ok rfl fun a' w' hb' hO hD => oV (o_conv (m := (((s1.getD (K) 0) + ((beginL ks ns n).getD (K) 0)) % 4294967296)) (r := ((s1.getD (K) 0) + ((beginL ks ns n).getD (K) 0)) % 4294967296) rfl ed ⟨.int .u32, fun _ => by kernel_rfl⟩ (fun _ => by kernel_rfl) (by rw [IntKind.wrap_u64]; omega)) rfl), (step_ok rfl fun a' w' hb' hO hD => oC (vs := #[.int .u64 ((((s1.getD (K) 0) + ((beginL ks ns n).getD (K) 0)) % 4294967296 : Nat) : Int), .int .i64 ((4 : Nat) : Int)]) Tryz.func38 rfl (args2 ed rfl) (Calls.mono (PutLowW_any (((s1.getD (K) 0) + ((beginL ks ns n).getD (K) 0)) % 4294967296) 4 _ (by omega) (by decide)) (fun e w'' hR => by obtain ⟨A_1, c_1, rfl, ho_1, hb_9⟩ := hR; exact ⟨_, rfl, ⟨_, _, rfl, ho_1.mono hb'.size⟩, hb_9⟩))), trivial⟩ (fun a_8 w_25 hs_8 hd_8 hb_10 hO_3 hV_3 => ?_)
         have ta_8_8 := fK 8 hO_3
         have ta_8_11 := fK 11 hO_3
         have ta_8_121 := fK 121 hO_3
         obtain ⟨hO, BS, BF⟩ := nx3 hb_10 hO BS BF
         have HB_17 := below_from HBL hb_10
         have ta_8_124 := fV 124 hV_3
         have x_1 := hV_3 9 133 rfl rfl
         obtain ⟨A_2, c_2, hv_1, hO_4⟩ := x_1
         replace hO_4 := hO_4.mono HBL.size
         simp only [List.drop_succ_cons, List.drop_zero]
         refine q_x (o_append rfl ev ((pm rfl).trans hv_1) hO (hO_4).bs (by rw [outL_length]) (putL_length _ _) (by omega) HB_17.size) (fun v_3 w_26 hR_18 => ?_)
         obtain ⟨A_3, c_3, rfl, ho_2, hb_11, hg_1, hat_1⟩ := hR_18
         replace BS := BS.grown hO hg_1 (by decide)
         replace BF := BF.grown hO hg_1 (by decide)
         have HB_18 : Below w.heap.size w w_26 := (HB_17).trans hb_11
         iterate 4 refine e1 ?_
         refine q_w (o_add64 (n := 1) rfl ev rfl (by omega)) ?_
         refine e1 ?_
         refine x_nil ?_
         refine hK_50 _ _ _ ⟨K + 1, A_3, c_3, rfl, (psz hs_8), (pdf hd_8), ev, ev, ev, ev, (by omega), ho_2, BS, BF, HB_18⟩ ?_
         omega
        ·simp only [DD9] at h_6
         obtain rfl : K = 16 := by omega
         iterate 9 refine e1 ?_
         refine q_as (.int .i64 ((0 : Nat) : Int)) rfl ?_
         iterate 3 refine e1 ?_
         exact ⟨A1, c1, rfl, (by unfold blockL; rw [hs1]; exact hO), HBL⟩
end Go.Proofs.YtkhbihnnkflfkaaGreat
/-
 WALKS: the reference's stream: Xor, XorChaCha, join, filled, Nonce.
-/
namespace Go.Proofs.YtkhbihnnkflfkaaGreat
open Go.RowKit
set_option maxHeartbeats 8000000
set_option linter.unusedVariables false
set_option linter.unusedSimpArgs false
set_option maxRecDepth 100000
attribute [local irreducible] wpList wpListIn putsR

variable {A B C : Option Addr} {c d f gs k m n q : Nat} {bs ks ns xs : List Nat}
theorem XorW_any {ys : List Nat} (w : World) (ha : Bs w A c xs) (hb : Bs w B d ys) (hn : xs.length = n) (hm : ys.length = m) (hl : n ≤ 70368744177664) :
  Calls Tryz.prog 64 #[.slice A (n) (c), .slice B (m) (d)] w fun e w' => ∃ A' c', e = .returned (.slice A' (min n m) c') ∧ Own w' w.heap.size A' c' (xorL xs ys (min n m)) ∧ Below w.heap.size w w' := by
 refine x_enter 29 Tryz.func64 rfl rfl (fun a hs hd ha0 => ?_)
 have t0 := tA 0 ha0
 have t1 := tA 1 ha0
 clear ha0
 iterate 12 refine e1 ?_
 refine q_w (o_len rfl ev) ?_
 refine e1 ?_
 refine q_w (o_len rfl ev) ?_
 refine q_v 11 (.int .i64 ((min n m : Nat) : Int)) (o_min rfl ev ev) ?_
 refine q_v 12 (.int .i64 ((0 : Nat) : Int)) (o_move rfl rfl) ?_
 iterate 2 refine e1 ?_
 refine x_loop (fun nn aa ww => ∃ (K : Nat) (A1 : Option Addr) (c1 : Nat), nn = min n m - K ∧ aa.tmps.size = 29 ∧ aa.defers = [] ∧ aa.eval (.tmp 0) = .slice A (n) (c) ∧ aa.eval (.tmp 1) = .slice B (m) (d) ∧ aa.eval (.tmp 5) = .slice A1 (K) (c1) ∧ aa.eval (.tmp 11) = .int .i64 ((min n m : Nat) : Int) ∧ aa.eval (.tmp 12) = .int .i64 ((K : Nat) : Int) ∧ K ≤ min n m ∧ Own ww w.heap.size A1 c1 (xorL xs ys K) ∧ Below w.heap.size w ww) (min n m) ?_ ?_
 ·exact ⟨0, none, 0, rfl, (psz hs), (pdf hd), ev, ev, ev, ev, ev, Nat.zero_le _, Own.nil _ _, Below.refl _ _⟩
 ·skip
  rintro nna_1 a_1 w_1 ⟨K, A1, c1, hm_1, hs_1, hd_1, ta_1_0, ta_1_1, ta_1_5, ta_1_11, ta_1_12, hK, hO, HBL⟩ K_6 hK_6
  subst hm_1
  iterate 2 refine e1 ?_
  refine q_w (o_lss rfl ev ev) ?_
  iterate 2 refine e1 ?_
  refine w2_split (pe hs_1 rfl rfl) (fun h_1 => ?_) (fun h_1 => ?_)
  ·simp only [DD9] at h_1
   have hn1 : K < n := by omega
   have hm1 : K < m := by omega
   iterate 9 refine e1 ?_
   refine y_drawn 11 [iV (.slice A1 (K) (c1)), iV (.slice A (n) (c)), iI .i64 K, iV (.pointer (atA A (K))), iV (.int .u8 ((xs.getD (K) 0 : Nat) : Int)), iV (.slice B (m) (d)), iI .i64 K, iV (.pointer (atA B (K))), iV (.int .u8 ((ys.getD (K) 0 : Nat) : Int)), iV (.int .u8 (((xs.getD (K) 0) ^^^ (ys.getD (K) 0) : Nat) : Int)), fun ww vv => OwnN w_1.heap.size 1 [(xs.getD (K) 0) ^^^ (ys.getD (K) 0)] ww vv] [15, 16, 17, 18, 19, 20, 21, 22, 23, 24, 25] hs_1 hd_1 ⟨sx, sx, sx, (step_ok rfl fun a' w' hb' hO hD => oV (o_ix (k := K) rfl ed ed (by omega) ((ha.below (below_from HBL hb')).some (by rw [hn]; omega))) rfl), (step_ok rfl fun a' w' hb' hO hD => oV (o_ld8 rfl ed (ha.below (below_from HBL hb')) (by rw [hn]; omega) rfl) rfl), sx, sx, (step_ok rfl fun a' w' hb' hO hD => oV (o_ix (k := K) rfl ed ed (by omega) ((hb.below (below_from HBL hb')).some (by rw [hm]; omega))) rfl), (step_ok rfl fun a' w' hb' hO hD => oV (o_ld8 rfl ed (hb.below (below_from HBL hb')) (by rw [hm]; omega) rfl) rfl), (step_ok rfl fun a' w' hb' hO hD => oV (o_bits (m := (xs.getD (K) 0)) (n := (ys.getD (K) 0)) ((xs.getD (K) 0) ^^^ (ys.getD (K) 0)) rfl ed ed (by decide) (u8_xor_nat _ _ (getD_lt ha.b8 _) (getD_lt hb.b8 _))) rfl),
(step_ok rfl (fun a' w' hb' hO hD => by
     have d_14 : a'.eval (.tmp 24) = .int .u8 (((xs.getD (K) 0) ^^^ (ys.getD (K) 0) : Nat) : Int) := hD 9 24 (by kernel_rfl) rfl
     exact out_new (o_build1 (m := (xs.getD (K) 0) ^^^ (ys.getD (K) 0)) rfl d_14 (xor8 _ _ (getD_lt ha.b8 _) (getD_lt hb.b8 _))) (fun v w_2 hR => by obtain ⟨g_1, rfl, ho_1, hb_1⟩ := hR; exact ⟨⟨_, _, rfl, ho_1.mono hb'.size⟩, hb_1⟩))), trivial⟩ (fun a_2 w_3 hs_2 hd_2 hb_2 hO_1 hV_1 => ?_)
   have ta_2_0 := fK 0 hO_1
   have ta_2_1 := fK 1 hO_1
   have ta_2_11 := fK 11 hO_1
   have ta_2_12 := fK 12 hO_1
   replace hO := hO.nx hb_2
   have HB_1 := below_from HBL hb_2
   have ta_2_15 := fV 15 hV_1
   have x_1 := hV_1 10 25 rfl rfl
   obtain ⟨A_1, c_1, hv_1, hO_2⟩ := x_1
   replace hO_2 := hO_2.mono HBL.size
   simp only [List.drop_succ_cons, List.drop_zero]
   refine q_x (o_append rfl ev ((pm rfl).trans hv_1) hO (hO_2).bs (by rw [xorL_length]) (by simp only [List.length_cons, List.length_nil]) (by omega) HB_1.size) (fun v_1 w_4 hR_1 => ?_)
   obtain ⟨A_2, c_2, rfl, ho_2, hb_3, hg_1, hat_1⟩ := hR_1
   have HB_2 : Below w.heap.size w w_4 := (HB_1).trans hb_3
   iterate 4 refine e1 ?_
   refine q_w (o_add64 (n := 1) rfl ev rfl (by omega)) ?_
   refine e1 ?_
   refine x_nil ?_
   refine hK_6 _ _ _ ⟨K + 1, A_2, c_2, rfl, (psz hs_2), (pdf hd_2), ev, ev, ev, ev, ev, (by omega), ho_2, HB_2⟩ ?_
   omega
  ·simp only [DD9] at h_1
   iterate 12 refine e1 ?_
   obtain rfl : K = min n m := by omega
   exact ⟨A1, c1, rfl, hO, HBL⟩
theorem xorL_take (xs ys : List Nat) (m : Nat) : ∀ K, K ≤ m → xorL (xs.take m) ys K = xorL xs ys K
 | 0, _ => rfl
 | K + 1, h => by
  rw [xorL, xorL, xorL_take xs ys m K (by omega)]
  congr 3
  simp only [List.getD_eq_getElem?_getD, List.getElem?_take]
  rw [if_pos (by omega)]
theorem xor_step (ks ns : List Nat) (n : Nat) (hq : bs.length = q) (K : Nat) : (xorSt ks ns n bs (List.range K)).1 ++ xorL (bs.drop (64 * K)) (blockL ks ns (xorSt ks ns n bs (List.range K)).2) (min (q - 64 * K) 64) = (xorSt ks ns n bs (List.range (K + 1))).1 := by
 rw [List.range_succ, xorSt_snoc, chunkL_length, hq, Nat.min_comm (q - 64 * K)]
 show _ = _ ++ _
 rw [chunkL, xorL_take _ _ _ _ (Nat.min_le_left _ _)]
theorem xor_snd (ks ns : List Nat) (n : Nat) (bs : List Nat) (K : Nat) : ((xorSt ks ns n bs (List.range K)).2 + 1) % 4294967296 = (xorSt ks ns n bs (List.range (K + 1))).2 := by rw [List.range_succ, xorSt_snoc]
theorem XorChaW_ok (n : Nat) (w : World) (ha : Bs w A c ks) (hb : Bs w B d ns) (hc : Bs w C f bs) (hm : ks.length = m) (hk : ns.length = k) (hq : bs.length = q) (hn : n < 4294967296) (hm32 : m = 32) (hk12 : k = 12) (hl : q ≤ 70368744177664) :
  Calls Tryz.prog 36 #[.slice A (m) (c), .slice B (k) (d), .int .u32 ((n : Nat) : Int), .slice C (q) (f)] w fun e w' => ∃ A c, e = .returned (.tuple #[.slice A q c, .int .i64 ((0 : Nat) : Int)]) ∧ Own w' w.heap.size A c (xorS ks ns n bs) ∧ Below w.heap.size w w' := by
 refine x_enter 45 Tryz.func36 rfl rfl (fun a hs hd ha0 => ?_)
 have t0 := tA 0 ha0
 have t1 := tA 1 ha0
 have t2 := tA 2 ha0
 have t3 := tA 3 ha0
 clear ha0
 iterate 3 refine e1 ?_
 refine q_as (.int .i64 ((0 : Nat) : Int)) rfl ?_
 iterate 5 refine e1 ?_
 refine q_w (o_len rfl ev) ?_
 refine q_v 16 (.bool (false)) (o_eq (o_neq (m := m) (n := 32) rfl ev rfl) (by rw [decide_eq_true hm32]; rfl)) ?_
 refine e1 ?_
 refine q_g 17 (.slice B (k) (d)) (o_move rfl ev) ?_
 refine q_g 17 (.int .i64 ((k : Nat) : Int)) (o_len rfl ev) ?_
 refine q_g 17 (.bool (false)) (o_eq (o_neq (m := k) (n := 12) rfl ev rfl) (by rw [decide_eq_true hk12]; rfl)) ?_
 refine q_w (o_pickF rfl ev ev) ?_
 iterate 11 refine e1 ?_
 refine q_as (.int .i64 ((0 : Nat) : Int)) rfl ?_
 iterate 2 refine e1 ?_
 refine x_loop (fun nn aa ww => ∃ (K n1 c1 : Nat) (A1 : Option Addr), nn = q - 64 * K ∧ aa.tmps.size = 45 ∧ aa.defers = [] ∧ aa.eval (.tmp 0) = .slice A (m) (c) ∧ aa.eval (.tmp 1) = .slice B (k) (d) ∧ aa.eval (.tmp 2) = .int .u32 (((xorSt ks ns n bs (List.range K)).2 : Nat) : Int) ∧ aa.eval (.tmp 3) = .slice C (q) (f) ∧ aa.eval (.tmp 10) = .slice A1 (n1) (c1) ∧ aa.eval (.tmp 11) = .int .i64 ((64 * K : Nat) : Int) ∧ K ≤ (q + 64 - 1) / 64 ∧ n1 = min (64 * K) q ∧ Own ww w.heap.size A1 c1 (xorSt ks ns n bs (List.range K)).1 ∧ Below w.heap.size w ww) (q) ?_ ?_
 ·exact ⟨0, 0, 0, none, rfl, (psz hs), (pdf hd), ev, ev, ev, ev, ev, ev, Nat.zero_le _, (by omega), Own.nil _ _, Below.refl _ _⟩
 ·skip
  rintro nna_1 a_1 w_1 ⟨K, n1, c1, A1, hm_1, hs_1, hd_1, ta_1_0, ta_1_1, ta_1_2, ta_1_3, ta_1_10, ta_1_11, hK, hn1, hO, HBL⟩ K_8 hK_8
  subst hm_1
  have hsl : (xorSt ks ns n bs (List.range K)).1.length = n1 := (xorSt_length ks ns n bs K).trans (by rw [hq, hn1])
  iterate 5 refine e1 ?_
  refine q_w (o_len rfl ev) ?_
  refine q_w (o_lss rfl ev ev) ?_
  refine e1 ?_
  refine w2_split (pe hs_1 rfl rfl) (fun h_1 => ?_) (fun h_1 => ?_)
  ·simp only [DD9] at h_1
   have hKq : 64 * K < q := h_1
   have hcl := hc.le
   iterate 10 refine e1 ?_
   refine k_c Tryz.func63 (BlockW_ok ((xorSt ks ns n bs (List.range K)).2) _ (ha.below HBL) (hb.below HBL) hm hk (xorSt_lt ks ns n bs hn (List.range K)) hm32 hk12) ?_
   rintro e_1 w_2 ⟨A_1, c_1, rfl, ho_1, hb_1⟩
   replace ho_1 := ho_1.mono HBL.size
   replace hO := hO.nx hb_1
   have HB_1 := below_from HBL hb_1
   refine ⟨_, rfl, ?_⟩
   iterate 7 refine e1 ?_
   have hsb := hc.sub (l := 64 * K) (q := q) (m := f) (by omega) (by have := hc.le; omega) (Nat.le_refl _)
   rw [show (bs.drop (64 * K)).take (q - 64 * K) = bs.drop (64 * K) from List.take_of_length_le (by rw [List.length_drop]; omega)] at hsb
   iterate 4 refine e1 ?_
   refine q_w (o_sliceL (l := 64 * K) rfl ev ev (by omega)) ?_
   iterate 2 refine e1 ?_
   refine k_c Tryz.func64 (XorW_any _ (hsb.below HB_1) (ho_1).bs (by rw [List.length_drop, hq]) (by simp only [blockL_length]) (by omega)) ?_
   rintro e_2 w_3 ⟨A_2, c_2, rfl, ho_2, hb_2⟩
   replace ho_2 := ho_2.mono HB_1.size
   replace hO := hO.nx hb_2
   have HB_2 := below_from HB_1 hb_2
   refine ⟨_, rfl, ?_⟩
   refine q_x (o_append rfl ev ev hO (ho_2).bs (by rw [hsl]) (by simp only [xorL_length]) (by omega) HB_2.size) (fun v_1 w_4 hR_3 => ?_)
   obtain ⟨A_3, c_3, rfl, ho_3, hb_3, hg_1, hat_1⟩ := hR_3
   have HB_3 : Below w.heap.size w w_4 := (HB_2).trans hb_3
   iterate 4 refine e1 ?_
   refine q_v 43 (.int .u32 (((xorSt ks ns n bs (List.range (K + 1))).2 : Nat) : Int)) (o_eq (o_addU (m := ((xorSt ks ns n bs (List.range K)).2)) (n := 1) ((((xorSt ks ns n bs (List.range K)).2) + 1) % 4294967296) rfl ev rfl (by rw [IntKind.wrap_u32]; omega)) (by rw [xor_snd])) ?_
   iterate 5 refine e1 ?_
   refine q_v 27 (.int .i64 ((64 * (K + 1) : Nat) : Int)) (o_eq (o_add64 (m := (64 * K)) (n := 64) rfl ev rfl (by omega)) (congrArg (fun z : Nat => Value.int .i64 (z : Int)) (by omega))) ?_
   refine e1 ?_
   refine x_nil ?_
   refine hK_8 _ _ _ ⟨K + 1, _, c_3, A_3, rfl, (psz hs_1), (pdf hd_1), ev, ev, ev, ev, ev, ev, (by omega), (by omega), (by rw [← xor_step ks ns n hq K]; exact ho_3), HB_3⟩ ?_
   omega
  ·simp only [DD9] at h_1
   obtain rfl : K = (q + 64 - 1) / 64 := by omega
   iterate 9 refine e1 ?_
   refine q_as (.int .i64 ((0 : Nat) : Int)) rfl ?_
   iterate 3 refine e1 ?_
   exact ⟨_, _, by rw [hn1, Nat.min_eq_right (by omega)], (by unfold xorS; rw [hq]; exact hO), HBL⟩
theorem joinW_any {ps : List Part} (w : World) (hB : Blk w gs (ps.map Part.val).toArray 22) (hP : ∀ p ∈ ps, Bs w p.A p.c p.xs) (hl : (joinP ps ps.length).length ≤ 70368744177664) (hl2 : ps.length ≤ 4611686018427387904) :
  Calls Tryz.prog 66 #[.slice ((some ⟨gs, 0, none⟩)) (ps.length) (ps.length)] w fun e w' => ∃ A c, e = .returned (.slice A (joinP ps ps.length).length c) ∧ Own w' w.heap.size A c (joinP ps ps.length) ∧ Below w.heap.size w w' := by
 refine x_enter 17 Tryz.func66 rfl rfl (fun a hs hd ha0 => ?_)
 have t0 := tA 0 ha0
 clear ha0
 iterate 12 refine e1 ?_
 refine q_w (o_lenS rfl ev) ?_
 refine q_v 8 (.int .i64 ((0 : Nat) : Int)) (o_move rfl rfl) ?_
 iterate 2 refine e1 ?_
 refine x_loop (fun nn aa ww => ∃ (K n1 c1 : Nat) (A1 : Option Addr), nn = ps.length - K ∧ aa.tmps.size = 17 ∧ aa.defers = [] ∧ aa.eval (.tmp 3) = .slice A1 (n1) (c1) ∧ aa.eval (.tmp 6) = .slice ((some ⟨gs, 0, none⟩)) (ps.length) (ps.length) ∧ aa.eval (.tmp 7) = .int .i64 ((ps.length : Nat) : Int) ∧ aa.eval (.tmp 8) = .int .i64 ((K : Nat) : Int) ∧ K ≤ ps.length ∧ n1 = (joinP ps K).length ∧ Own ww w.heap.size A1 c1 (joinP ps K) ∧ Below w.heap.size w ww) (ps.length) ?_ ?_
 ·exact ⟨0, 0, 0, none, rfl, (psz hs), (pdf hd), ev, ev, ev, ev, Nat.zero_le _, rfl, Own.nil _ _, Below.refl _ _⟩
 ·skip
  rintro nna_1 a_1 w_1 ⟨K, n1, c1, A1, hm_1, hs_1, hd_1, ta_1_3, ta_1_6, ta_1_7, ta_1_8, hK, hn1, hO, HBL⟩ K_6 hK_6
  subst hm_1
  iterate 2 refine e1 ?_
  refine q_w (o_lss rfl ev ev) ?_
  iterate 2 refine e1 ?_
  refine w2_split (pe hs_1 rfl rfl) (fun h_1 => ?_) (fun h_1 => ?_)
  ·simp only [DD9] at h_1
   have hlt : K < ps.length := h_1
   have hPK := hP _ (Part.mem hlt)
   have hjl := joinP_le ps _ hl (K + 1) hlt
   rw [joinP, List.length_append] at hjl
   iterate 6 refine e1 ?_
   refine q_v _ (.pointer (some ⟨gs, K, none⟩)) (zero_off (o_ixS (off := 0) (i := K) rfl ev ev (by omega))) ?_
   refine q_v 11 (.slice ((Part.at ps K).A) ((Part.at ps K).xs.length) ((Part.at ps K).c)) (o_eq (o_load1 rfl ev (hB.nx HBL) (Part.get hlt) ⟨by kernel_rfl, by kernel_rfl⟩) rfl) ?_
   iterate 5 refine e1 ?_
   refine q_x (o_append rfl ev ev hO (hPK.below HBL) (by rw [hn1]) rfl (by omega) HBL.size) (fun v_1 w_2 hR_1 => ?_)
   obtain ⟨A_1, c_1, rfl, ho_1, hb_1, hg_1, hat_1⟩ := hR_1
   have HB_1 : Below w.heap.size w w_2 := (HBL).trans hb_1
   iterate 4 refine e1 ?_
   refine q_w (o_add64 (n := 1) rfl ev rfl (by omega)) ?_
   refine e1 ?_
   refine x_nil ?_
   refine hK_6 _ _ _ ⟨K + 1, _, c_1, A_1, rfl, (psz hs_1), (pdf hd_1), ev, ev, ev, ev, (by omega), (by rw [joinP, List.length_append, hn1]), ho_1, HB_1⟩ ?_
   omega
  ·simp only [DD9] at h_1
   obtain rfl : K = ps.length := by omega
   iterate 12 refine e1 ?_
   exact ⟨_, _, by rw [hn1], hO, HBL⟩
theorem NonceW_any (n : Nat) (w : World) (hn : n < 18446744073709551616) :
  Calls Tryz.prog 12 #[.int .u64 ((n : Nat) : Int)] w fun e w' => ∃ A c, e = .returned (.slice A 12 c) ∧ Own w' w.heap.size A c (nonceL n) ∧ Below w.heap.size w w' := by
 refine x_enter 7 Tryz.func12 rfl rfl (fun a hs hd ha0 => ?_)
 have t0 := tA 0 ha0
 clear ha0
 iterate 5 refine e1 ?_
 refine y_drawn 3 [fun ww vv => OwnN w.heap.size (4) (List.replicate 4 0) ww vv, iI .u64 n, fun ww vv => OwnN w.heap.size (8) (putL n 8) ww vv] [3, 4, 5] hs hd ⟨(step_ok rfl (fun a' w' hb' hO hD => by
   exact out_new (o_make (n := 4) rfl rfl rfl (fun _ => by kernel_rfl) (by omega)) (fun v w_1 hR => by obtain ⟨g_1, rfl, ho_1, hb_1⟩ := hR; exact ⟨⟨_, _, rfl, ho_1.mono hb'.size⟩, hb_1⟩))), sx, (step_ok rfl fun a' w' hb' hO hD => oC (vs := #[.int .u64 ((n : Nat) : Int), .int .i64 ((8 : Nat) : Int)]) Tryz.func38 rfl (args2 ed rfl) (Calls.mono (PutLowW_any n 8 _ hn (by decide)) (fun e w'' hR => by obtain ⟨A_1, c_1, rfl, ho_2, hb_2⟩ := hR; exact ⟨_, rfl, ⟨_, _, rfl, ho_2.mono hb'.size⟩, hb_2⟩))), trivial⟩ (fun a_1 w_2 hs_1 hd_1 hb_3 hO_1 hV_1 => ?_)
 have x_1 := hV_1 0 3 rfl rfl
 obtain ⟨A_2, c_2, hv_1, hO_2⟩ := x_1
 have x_2 := hV_1 2 5 rfl rfl
 obtain ⟨A_3, c_3, hv_2, hO_3⟩ := x_2
 simp only [List.drop_succ_cons, List.drop_zero]
 refine q_x (o_append rfl ((pm rfl).trans hv_1) ((pm rfl).trans hv_2) hO_2 (hO_3).bs (by rw [List.length_replicate]) (putL_length _ _) (by omega) hb_3.size) (fun v_1 w_3 hR_1 => ?_)
 obtain ⟨A_4, c_4, rfl, ho_3, hb_4, hg_1, hat_1⟩ := hR_1
 have HB_1 : Below w.heap.size w w_3 := (hb_3).trans hb_4
 iterate 4 refine e1 ?_
 exact ⟨_, _, rfl, ho_3, HB_1⟩
theorem filledW_any (w : World) (ha : Bs w A c xs) (hn : xs.length = n) (hl : n ≤ 70368744177664) :
  Calls Tryz.prog 67 #[.slice A (n) (c)] w fun e w' => ∃ A c, e = .returned (.slice A (fillL xs).length c) ∧ Own w' w.heap.size A c (fillL xs) ∧ Below w.heap.size w w' := by
 refine x_enter 11 Tryz.func67 rfl rfl (fun a hs hd ha0 => ?_)
 have t0 := tA 0 ha0
 clear ha0
 iterate 7 refine e1 ?_
 refine q_x (o_append rfl rfl (pe hs rfl rfl) (Own.nil w w.heap.size) ha rfl hn (by omega) (Nat.le_refl _)) (fun v_1 w_1 hR_1 => ?_)
 obtain ⟨A_1, c_1, rfl, ho_1, hb_1, hg_1, hat_1⟩ := hR_1
 have HB_1 : Below w.heap.size w w_1 := hb_1
 refine e1 ?_
 refine q_w (o_len rfl ev) ?_
 refine q_w (o_rem (n := 16) rfl ev rfl (by omega) (IntWalk.i64_in _ (by omega))) ?_
 refine q_w (o_sub64 (m := 16) rfl rfl ev (by omega) (by omega)) ?_
 refine q_w (o_rem (n := 16) rfl ev rfl (by omega) (IntWalk.i64_in _ (by omega))) ?_
 refine q_x (o_appendZ (m := (16 - (n % 16)) % 16) rfl ev ev ho_1 (by rw [List.nil_append, hn, Nat.zero_add]) (by omega) HB_1.size) (fun v_2 w_2 hR_2 => ?_)
 obtain ⟨A_2, c_2, rfl, ho_2, hb_2, hg_2, hat_2⟩ := hR_2
 have HB_2 : Below w.heap.size w w_2 := (HB_1).trans hb_2
 clear hg_2 hat_2 ho_1
 iterate 4 refine e1 ?_
 exact ⟨_, _, by rw [fillL_length, hn, Nat.zero_add], (by unfold fillL; rw [hn]; exact ho_2), HB_2⟩
end Go.Proofs.YtkhbihnnkflfkaaGreat
