/-
 WALKS: package poly, without Tag.
-/
import Derived.Test.YtkhbihnnkflfkaaGreatEz
import Derived.Test.YtkhbihnnkflfkaaGreatDrawn
import Derived.Test.YtkhbihnnkflfkaaGreatApM
import Derived.Test.YtkhbihnnkflfkaaGreatWord
import Derived.Test.YtkhbihnnkflfkaaGreatCXor
namespace Go.Proofs.YtkhbihnnkflfkaaGreat
open Go.RowKit
set_option maxHeartbeats 8000000
set_option linter.unusedVariables false
set_option linter.unusedSimpArgs false
set_option maxRecDepth 100000
attribute [local irreducible] wpList wpListIn putsR

variable {c k n : Nat} {p s xa xp xs : List Nat} {A : Option Addr}
def W64 (k : Nat) (s : List Nat) : Prop := s.length = k ∧ ∀ x ∈ s, x < 18446744073709551616
theorem W64.get (h : W64 k s) (i : Nat) : s.getD i 0 < 18446744073709551616 := by
 rw [List.getD_eq_getElem?_getD]
 cases hx : s[i]? with
 | none => simp
 | some v => exact h.2 v (List.mem_of_getElem? hx)
theorem W64.set (h : W64 k s) (i v : Nat) (hv : v < 18446744073709551616) : W64 k (s.set i v) :=
 ⟨by rw [List.length_set]; exact h.1, fun x hx => by
  rcases List.mem_or_eq_of_mem_set hx with h1 | h1
  ·exact h.2 x h1
  ·rw [h1]; exact hv⟩
def addK (a b : List Nat) : Nat → List Nat × Nat
 | 0 => (a, 0)
 | K + 1 => ((addK a b K).1.set K (((addK a b K).1.getD K 0 + b.getD K 0 + (addK a b K).2) % 18446744073709551616), ((addK a b K).1.getD K 0 + b.getD K 0 + (addK a b K).2) / 18446744073709551616)
theorem addK_ok {k : Nat} {a b : List Nat} (ha : W64 k a) (hb : W64 k b) : ∀ K, W64 k (addK a b K).1 ∧ (addK a b K).2 ≤ 1
 | 0 => ⟨ha, by simp [addK]⟩
 | K + 1 => by
  obtain ⟨h1, h2⟩ := addK_ok ha hb K
  have g1 := h1.get K
  have g2 := hb.get K
  exact ⟨h1.set _ _ (Nat.mod_lt _ (by omega)), by simp only [addK]; omega⟩
def addN (a b : List Nat) : List Nat := (addK a b 3).1
theorem addN_ok {a b : List Nat} (ha : W64 3 a) (hb : W64 3 b) : W64 3 (addN a b) := (addK_ok ha hb 3).1
theorem polyadd_any {xb : List Nat} (w : World) (ha : W64 3 xa) (hb : W64 3 xb) :
  Calls Tryz.prog 131 #[.agg (iws .u64 (xa)).toArray, .agg (iws .u64 (xb)).toArray] w fun e w' => e = .returned (.agg (iws .u64 (addN xa xb)).toArray) ∧ Below w.heap.size w w' := by
 refine x_enter 25 Tryz.func131 rfl rfl (fun a hs hd ha0 => ?_)
 have t0 := tA 0 ha0
 have t1 := tA 1 ha0
 clear ha0
 iterate 2 refine e1 ?_
 refine q_x (o_boxI rfl ev) (fun v_1 w_1 hR_1 => ?_)
 obtain ⟨g_1, rfl, hle_1, hB_1, hb_1⟩ := hR_1
 have ge_1 : w.heap.size ≤ g_1 := hle_1
 refine q_x (o_boxI rfl ev) (fun v_2 w_2 hR_2 => ?_)
 obtain ⟨g_2, rfl, hle_2, hB_2, hb_2⟩ := hR_2
 have ne_1 : g_1 ≠ g_2 := Nat.ne_of_lt (Nat.lt_of_lt_of_le hB_1.lt hle_2)
 replace hB_1 := hB_1.nx hb_2
 have HB_1 := below_from hb_1 hb_2
 refine q_x (o_alloc (zs := (iws .u64 (List.replicate 3 0)).toArray) rfl (fun _ => by kernel_rfl)) (fun v_3 w_3 hR_3 => ?_)
 obtain ⟨g_3, rfl, hle_3, hB_3, hb_3⟩ := hR_3
 have ne_2 : g_1 ≠ g_3 := Nat.ne_of_lt (Nat.lt_of_lt_of_le hB_1.lt hle_3)
 have ne_3 : g_2 ≠ g_3 := Nat.ne_of_lt (Nat.lt_of_lt_of_le hB_2.lt hle_3)
 have ge_3 : w.heap.size ≤ g_3 := Nat.le_trans HB_1.size hle_3
 obtain ⟨hB_1, hB_2⟩ := nx2 hb_3 hB_1 hB_2
 have HB_2 := below_from HB_1 hb_3
 iterate 3 refine e1 ?_
 refine q_as (.int .u64 ((0 : Nat) : Int)) rfl ?_
 iterate 4 refine e1 ?_
 refine q_v 7 (.int .i64 ((0 : Nat) : Int)) (o_move rfl rfl) ?_
 iterate 2 refine e1 ?_
 refine x_loop (fun nn aa ww => ∃ (K : Nat), nn = 3 - K ∧ aa.tmps.size = 25 ∧ aa.defers = [] ∧ aa.eval (.tmp 2) = .pointer (some ⟨g_1, 0, none⟩) ∧ aa.eval (.tmp 3) = .pointer (some ⟨g_2, 0, none⟩) ∧ aa.eval (.tmp 4) = .pointer (some ⟨g_3, 0, none⟩) ∧ aa.eval (.tmp 5) = .int .u64 (((addK xa xb K).2 : Nat) : Int) ∧ aa.eval (.tmp 7) = .int .i64 ((K : Nat) : Int) ∧ K ≤ 3 ∧ Blk ww g_1 (iws .u64 ((addK xa xb K).1)).toArray 150 ∧ Blk ww g_2 (iws .u64 (xb)).toArray 150 ∧ Blk ww g_3 (iws .u64 (List.replicate 3 0)).toArray 150 ∧ Below w.heap.size w ww) (3) ?_ ?_
 ·exact ⟨0, rfl, (psz hs), (pdf hd), ev, ev, ev, ev, ev, by omega, hB_1, hB_2, hB_3, HB_2⟩
 ·skip
  rintro nna_1 a_1 w_4 ⟨K, hm_1, hs_1, hd_1, ta_1_2, ta_1_3, ta_1_4, ta_1_5, ta_1_7, hK, BA, BB, BR, HBL⟩ K_6 hK_6
  subst hm_1
  obtain ⟨hok, hc⟩ := addK_ok ha hb K
  have hl1 := hok.1
  iterate 2 refine e1 ?_
  refine q_w (o_lss (n := 3) rfl ev rfl) ?_
  iterate 2 refine e1 ?_
  refine w2_split (pe hs_1 rfl rfl) (fun h_1 => ?_) (fun h_1 => ?_)
  ·simp only [DD9] at h_1
   iterate 9 refine e1 ?_
   refine x_drawnH 14 13 g_1 _ (iws .u64 (((addK xa xb K).1).set (K) (((((addK xa xb K).1).getD (K) 0) + (xb.getD (K) 0) + ((addK xa xb K).2)) % 18446744073709551616))).toArray _ [fun _ v => v = .int .i64 ((K : Nat) : Int), fun _ v => v = .int .i64 ((K : Nat) : Int), fun _ v => v = .pointer (some ⟨g_1, K, none⟩), fun _ v => v = .int .u64 ((((addK xa xb K).1).getD (K) 0 : Nat) : Int), fun _ v => v = .int .i64 ((K : Nat) : Int), fun _ v => v = .pointer (some ⟨g_2, K, none⟩), fun _ v => v = .int .u64 ((xb.getD (K) 0 : Nat) : Int), fun _ v => v = .int .u64 (((addK xa xb K).2 : Nat) : Int), fun _ v => v = .tuple #[.int .u64 ((((((addK xa xb K).1).getD (K) 0) + (xb.getD (K) 0) + ((addK xa xb K).2)) % 18446744073709551616 : Nat) : Int), .int .u64 ((((((addK xa xb K).1).getD (K) 0) + (xb.getD (K) 0) + ((addK xa xb K).2)) / 18446744073709551616 : Nat) : Int)], fun _ v => v = .tuple #[.int .u64 ((((((addK xa xb K).1).getD (K) 0) + (xb.getD (K) 0) + ((addK xa xb K).2)) % 18446744073709551616 : Nat) : Int), .int .u64 ((((((addK xa xb K).1).getD (K) 0) + (xb.getD (K) 0) + ((addK xa xb K).2)) / 18446744073709551616 : Nat) : Int)], fun _ v => v = .int .u64 ((((((addK xa xb K).1).getD (K) 0) + (xb.getD (K) 0) + ((addK xa xb K).2)) % 18446744073709551616 : Nat) : Int), fun _ v => v = .int .u64 ((((((addK xa xb K).1).getD (K) 0) + (xb.getD (K) 0) + ((addK xa xb K).2)) / 18446744073709551616 : Nat) : Int), fun _ v => v = .pointer (some ⟨g_1, K, none⟩), fun _ _ => True] [11, 12, 13, 14, 15, 16, 17, 18, 19, 10, 20, 21, 22] hs_1 hd_1 (by kernel_rfl) (by kernel_rfl) (by kernel_rfl) (by kernel_rfl) (by kernel_rfl) rfl (by kernel_rfl) ⟨litL, litL, litL, litL, litL, litL, litL, litL, litL, litL, litL, litL, litL, litL, trivial⟩ BA ⟨sx, sx, (stepH_val rfl rfl fun a' w' hb' hO hD hBl => oV (zero_off (o_ixA (k := 0) (i := K) (n := 3) (e := 38) rfl ed ed (by omega) (fun _ => by kernel_rfl) (fun _ => by kernel_rfl))) rfl), (stepH_val rfl rfl fun a' w' hb' hO hD hBl => oV (o_loadW rfl ed (hBl _ rfl (by kernel_rfl)) (by rw [hl1]; omega) rfl ⟨by kernel_rfl, by kernel_rfl⟩) rfl), sx, (stepH_val rfl rfl fun a' w' hb' hO hD hBl => oV (zero_off (o_ixA (k := 0) (i := K) (n := 3) (e := 38) rfl ed ed (by omega) (fun _ => by kernel_rfl) (fun _ => by kernel_rfl))) rfl), (stepH_val rfl rfl fun a' w' hb' hO hD hBl => oV (o_loadW rfl ed (hb'.blk BB (Ne.symm ne_1)) (by rw [hb.1]; omega) rfl ⟨by kernel_rfl, by kernel_rfl⟩) rfl), sx, (stepH_val rfl rfl fun a' w' hb' hO hD hBl => oV (o_ext (vs := #[.int .u64 ((((addK xa xb K).1).getD (K) 0 : Nat) : Int), .int .u64 ((xb.getD (K) 0 : Nat) : Int), .int .u64 (((addK xa xb K).2 : Nat) : Int)]) rfl rfl (args3 ed ed ed) (add64N (((addK xa xb K).1).getD (K) 0) (xb.getD (K) 0) ((addK xa xb K).2) (by omega) _)) rfl), sx, sx, sx, (stepH_val rfl rfl fun a' w' hb' hO hD hBl => oV (zero_off (o_ixA (k := 0) (i := K) (n := 3) (e := 38) rfl ed ed (by omega) (fun _ => by kernel_rfl) (fun _ => by kernel_rfl))) rfl),
(stepH_hot rfl (fun a' w' hb' hO hD c hc hBc => by
     have d_19 : a'.eval (.tmp 22) = .pointer (some ⟨g_1, K, none⟩) := hD 12 22 (by kernel_rfl) rfl
     have d_20 : a'.eval (.tmp 20) = .int .u64 ((((((addK xa xb K).1).getD (K) 0) + (xb.getD (K) 0) + ((addK xa xb K).2)) % 18446744073709551616 : Nat) : Int) := hD 10 20 (by kernel_rfl) rfl
     obtain ⟨z, hzl, hzs, rfl⟩ : ∃ z : List Nat, z.length = ((addK xa xb K).1).length ∧ z.set (K) (((((addK xa xb K).1).getD (K) 0) + (xb.getD (K) 0) + ((addK xa xb K).2)) % 18446744073709551616) = ((addK xa xb K).1).set (K) (((((addK xa xb K).1).getD (K) 0) + (xb.getD (K) 0) + ((addK xa xb K).2)) % 18446744073709551616) ∧ c = (iws .u64 z).toArray := by
      rcases hc with rfl | rfl
      ·exact ⟨_, rfl, rfl, rfl⟩
      ·exact ⟨_, by rw [List.length_set], by rw [List.set_set], rfl⟩
     rw [← hzs]
     exact o_storeW rfl d_19 d_20 hBc (by rw [hzl]; rw [hl1]; omega) ⟨by kernel_rfl, by kernel_rfl⟩)), trivial⟩ (fun a_2 w_5 hs_2 hd_2 hX_1 hB_4 hO_1 hV_1 => ?_)
   have ta_2_2 := fK 2 hO_1
   have ta_2_3 := fK 3 hO_1
   have ta_2_4 := fK 4 hO_1
   have ta_2_7 := fK 7 hO_1
   replace BB := hX_1.blk BB (Ne.symm ne_1)
   replace BR := hX_1.blk BR (Ne.symm ne_2)
   have HB_3 := hX_1.below HBL HBL.size (fun k hk => hk ▸ ge_1)
   clear BA
   have ta_2_21 := fV 21 hV_1
   simp only [List.drop_succ_cons, List.drop_zero]
   iterate 4 refine e1 ?_
   refine q_w (o_add64 (n := 1) rfl ev rfl (by omega)) ?_
   refine e1 ?_
   refine x_nil ?_
   refine hK_6 _ _ _ ⟨K + 1, rfl, (psz hs_2), (pdf hd_2), ev, ev, ev, ev, ev, (by omega), hB_4, BB, BR, HB_3⟩ ?_
   omega
  ·simp only [DD9] at h_1
   obtain rfl : K = 3 := by omega
   iterate 7 refine e1 ?_
   refine q_w (o_loadI rfl ev BA (by rw [hl1]; exact ⟨by kernel_rfl, by kernel_rfl⟩)) ?_
   refine q_d (o_storeI rfl ev ev BR (by rw [hl1]; exact ⟨by kernel_rfl, by kernel_rfl⟩) (by rw [hl1]; simp [iws])) (fun w_6 hR_4 => ?_)
   obtain ⟨hB_5, hX_2⟩ := hR_4
   replace BA := hX_2.blk BA ne_2
   replace BB := hX_2.blk BB ne_3
   have HB_4 := hX_2.below HBL HBL.size (fun k hk => hk ▸ ge_3)
   clear BR
   iterate 2 refine e1 ?_
   refine retC rfl hd_1 ((pm rfl).trans ta_1_4) (loadI hB_5 (by rw [hl1]; exact ⟨by kernel_rfl, by kernel_rfl⟩)) ?_
   exact ⟨rfl, HB_4⟩
def prodJ (o r : List Nat) (i x : Nat) : Nat → List Nat × Nat
 | 0 => (o, 0)
 | J + 1 =>
  ((prodJ o r i x J).1.set (i + J) (((x * r.getD J 0 % 18446744073709551616 + (prodJ o r i x J).1.getD (i + J) 0 + 0) % 18446744073709551616 + (prodJ o r i x J).2 + 0) % 18446744073709551616),
   ((x * r.getD J 0 / 18446744073709551616 + (x * r.getD J 0 % 18446744073709551616 + (prodJ o r i x J).1.getD (i + J) 0 + 0) / 18446744073709551616) % 18446744073709551616 +
    ((x * r.getD J 0 % 18446744073709551616 + (prodJ o r i x J).1.getD (i + J) 0 + 0) % 18446744073709551616 + (prodJ o r i x J).2 + 0) / 18446744073709551616) % 18446744073709551616)
theorem prodJ_ok {k : Nat} {o r : List Nat} (ho : W64 k o) (i x : Nat) : ∀ J, W64 k (prodJ o r i x J).1 ∧ (prodJ o r i x J).2 < 18446744073709551616
 | 0 => ⟨ho, by simp [prodJ]⟩
 | J + 1 => ⟨(prodJ_ok ho i x J).1.set _ _ (Nat.mod_lt _ (by omega)), Nat.mod_lt _ (by omega)⟩
def prodI (a r : List Nat) : Nat → List Nat
 | 0 => List.replicate 4 0
 | I + 1 => if I + 2 < 4 then (prodJ (prodI a r I) r I (a.getD I 0) 2).1.set (I + 2) (prodJ (prodI a r I) r I (a.getD I 0) 2).2 else (prodJ (prodI a r I) r I (a.getD I 0) 2).1
theorem prodI_ok (a r : List Nat) : ∀ I, W64 4 (prodI a r I)
 | 0 => ⟨by simp [prodI], by simp [prodI]⟩
 | I + 1 => by
  have h := prodJ_ok (r := r) (prodI_ok a r I) I (a.getD I 0) 2
  unfold prodI
  split
  ·exact h.1.set _ _ h.2
  ·exact h.1
def prodN (a r : List Nat) : List Nat := prodI a r 3
theorem prodN_ok (a r : List Nat) : W64 4 (prodN a r) := prodI_ok a r 3
theorem polyprod_any {xr : List Nat} (w : World) (ha : W64 3 xa) (hr : W64 2 xr) :
  Calls Tryz.prog 133 #[.agg (iws .u64 (xa)).toArray, .agg (iws .u64 (xr)).toArray] w fun e w' => e = .returned (.agg (iws .u64 (prodN xa xr)).toArray) ∧ Below w.heap.size w w' := by
 refine x_enter 70 Tryz.func133 rfl rfl (fun a hs hd ha0 => ?_)
 have t0 := tA 0 ha0
 have t1 := tA 1 ha0
 clear ha0
 iterate 2 refine e1 ?_
 refine q_x (o_boxI rfl ev) (fun v_1 w_1 hR_1 => ?_)
 obtain ⟨g_1, rfl, hle_1, hB_1, hb_1⟩ := hR_1
 refine q_x (o_boxI rfl ev) (fun v_2 w_2 hR_2 => ?_)
 obtain ⟨g_2, rfl, hle_2, hB_2, hb_2⟩ := hR_2
 replace hB_1 := hB_1.nx hb_2
 have HB_1 := below_from hb_1 hb_2
 refine q_x (o_alloc (zs := (iws .u64 (List.replicate 4 0)).toArray) rfl (fun _ => by kernel_rfl)) (fun v_3 w_3 hR_3 => ?_)
 obtain ⟨g_3, rfl, hle_3, hB_3, hb_3⟩ := hR_3
 have ne_2 : g_1 ≠ g_3 := Nat.ne_of_lt (Nat.lt_of_lt_of_le hB_1.lt hle_3)
 have ne_3 : g_2 ≠ g_3 := Nat.ne_of_lt (Nat.lt_of_lt_of_le hB_2.lt hle_3)
 have ge_3 : w.heap.size ≤ g_3 := Nat.le_trans HB_1.size hle_3
 obtain ⟨hB_1, hB_2⟩ := nx2 hb_3 hB_1 hB_2
 have HB_2 := below_from HB_1 hb_3
 iterate 3 refine e1 ?_
 refine q_x (o_alloc (zs := (iws .u64 (List.replicate 4 0)).toArray) rfl (fun _ => by kernel_rfl)) (fun v_4 w_4 hR_4 => ?_)
 obtain ⟨g_4, rfl, hle_4, hB_4, hb_4⟩ := hR_4
 have ne_4 : g_1 ≠ g_4 := Nat.ne_of_lt (Nat.lt_of_lt_of_le hB_1.lt hle_4)
 have ne_5 : g_2 ≠ g_4 := Nat.ne_of_lt (Nat.lt_of_lt_of_le hB_2.lt hle_4)
 have ne_6 : g_3 ≠ g_4 := Nat.ne_of_lt (Nat.lt_of_lt_of_le hB_3.lt hle_4)
 have ge_4 : w.heap.size ≤ g_4 := Nat.le_trans HB_2.size hle_4
 obtain ⟨hB_1, hB_2, hB_3⟩ := nx3 hb_4 hB_1 hB_2 hB_3
 have HB_3 := below_from HB_2 hb_4
 iterate 4 refine e1 ?_
 refine q_w (o_loadI rfl ev hB_1 (by rw [ha.1]; exact ⟨by kernel_rfl, by kernel_rfl⟩)) ?_
 refine q_v 15 (.int .i64 ((0 : Nat) : Int)) (o_move rfl rfl) ?_
 iterate 2 refine e1 ?_
 refine x_loop (fun nn aa ww => ∃ (I : Nat), nn = 3 - I ∧ aa.tmps.size = 70 ∧ aa.defers = [] ∧ aa.eval (.tmp 3) = .pointer (some ⟨g_2, 0, none⟩) ∧ aa.eval (.tmp 4) = .pointer (some ⟨g_3, 0, none⟩) ∧ aa.eval (.tmp 5) = .pointer (some ⟨g_4, 0, none⟩) ∧ aa.eval (.tmp 14) = .agg (iws .u64 (xa)).toArray ∧ aa.eval (.tmp 15) = .int .i64 ((I : Nat) : Int) ∧ I ≤ 3 ∧ Blk ww g_1 (iws .u64 (xa)).toArray 150 ∧ Blk ww g_2 (iws .u64 (xr)).toArray 148 ∧ Blk ww g_3 (iws .u64 (List.replicate 4 0)).toArray 152 ∧ Blk ww g_4 (iws .u64 (prodI xa xr I)).toArray 152 ∧ Below w.heap.size w ww) (3) ?_ ?_
 ·exact ⟨0, rfl, (psz hs), (pdf hd), ev, ev, ev, ev, ev, by omega, hB_1, hB_2, hB_3, hB_4, HB_3⟩
 ·skip
  rintro nna_1 a_1 w_5 ⟨I, hm_1, hs_1, hd_1, ta_1_3, ta_1_4, ta_1_5, ta_1_14, ta_1_15, hI, BA, BR, BZ, BO, HBL⟩ K_6 hK_6
  subst hm_1
  have hok := prodI_ok xa xr I
  iterate 2 refine e1 ?_
  refine q_w (o_lss (n := 3) rfl ev rfl) ?_
  iterate 2 refine e1 ?_
  refine w2_split (pe hs_1 rfl rfl) (fun h_1 => ?_) (fun h_1 => ?_)
  ·simp only [DD9] at h_1
   iterate 7 refine e1 ?_
   refine q_w (o_idx (n := 3) (e := 38) rfl ev ev (by omega) (by rw [ha.1]) rfl (fun _ => by kernel_rfl) ⟨by kernel_rfl, by kernel_rfl⟩) ?_
   iterate 5 refine e1 ?_
   refine q_as (.int .u64 ((0 : Nat) : Int)) rfl ?_
   iterate 4 refine e1 ?_
   refine q_w (o_loadI rfl ev BR (by rw [hr.1]; exact ⟨by kernel_rfl, by kernel_rfl⟩)) ?_
   refine q_v 20 (.int .i64 ((0 : Nat) : Int)) (o_move rfl rfl) ?_
   iterate 2 refine e1 ?_
   refine x_loop (fun nn aa ww => ∃ (J : Nat), nn = 2 - J ∧ aa.tmps.size = 70 ∧ aa.defers = [] ∧ aa.eval (.tmp 3) = .pointer (some ⟨g_2, 0, none⟩) ∧ aa.eval (.tmp 4) = .pointer (some ⟨g_3, 0, none⟩) ∧ aa.eval (.tmp 5) = .pointer (some ⟨g_4, 0, none⟩) ∧ aa.eval (.tmp 6) = .int .i64 ((I : Nat) : Int) ∧ aa.eval (.tmp 7) = .int .u64 ((xa.getD I 0 : Nat) : Int) ∧ aa.eval (.tmp 8) = .int .u64 (((prodJ (prodI xa xr I) xr I (xa.getD I 0) J).2 : Nat) : Int) ∧ aa.eval (.tmp 14) = .agg (iws .u64 (xa)).toArray ∧ aa.eval (.tmp 15) = .int .i64 ((I : Nat) : Int) ∧ aa.eval (.tmp 19) = .agg (iws .u64 (xr)).toArray ∧ aa.eval (.tmp 20) = .int .i64 ((J : Nat) : Int) ∧ J ≤ 2 ∧ Blk ww g_1 (iws .u64 (xa)).toArray 150 ∧ Blk ww g_2 (iws .u64 (xr)).toArray 148 ∧ Blk ww g_3 (iws .u64 (List.replicate 4 0)).toArray 152 ∧ Blk ww g_4 (iws .u64 ((prodJ (prodI xa xr I) xr I (xa.getD I 0) J).1)).toArray 152 ∧ Below w.heap.size w ww) (2) ?_ ?_
   ·exact ⟨0, rfl, (psz hs_1), (pdf hd_1), ev, ev, ev, ev, ev, ev, ev, ev, ev, ev, by omega, BA, BR, BZ, BO, HBL⟩
   ·skip
    clear ta_1_3 ta_1_4 ta_1_5 ta_1_14 ta_1_15 hd_1 BA BR BZ BO HBL
    rintro nna_2 a_2 w_6 ⟨J, hm_2, hs_2, hd_2, ta_2_3, ta_2_4, ta_2_5, ta_2_6, ta_2_7, ta_2_8, ta_2_14, ta_2_15, ta_2_19, ta_2_20, hJ, BA, BR, BZ, BO, HBL⟩ K_16 hK_16
    subst hm_2
    have hj := prodJ_ok (r := xr) hok I (xa.getD I 0) J
    iterate 2 refine e1 ?_
    refine q_w (o_lss (n := 2) rfl ev rfl) ?_
    iterate 2 refine e1 ?_
    refine w2_split (pe hs_2 rfl rfl) (fun h_2 => ?_) (fun h_2 => ?_)
    ·simp only [DD9] at h_2
     iterate 7 refine e1 ?_
     refine q_w (o_idx (n := 2) (e := 38) rfl ev ev (by omega) (by rw [hr.1]) rfl (fun _ => by kernel_rfl) ⟨by kernel_rfl, by kernel_rfl⟩) ?_
     iterate 8 refine e1 ?_
     refine q_w (o_add64 rfl ev ev (by omega)) ?_
     refine q_w (o_gtr (n := 3) rfl ev rfl) ?_
     refine e1 ?_
     refine w2_split (pe hs_2 rfl rfl) (fun h_3 => ?_) (fun h_3 => ?_)
     ·simp only [DD9] at h_3
      exact absurd h_3 (by omega)
     ·simp only [DD9] at h_3
      iterate 7 refine e1 ?_
      refine k_c Tryz.func142 (mul64N (xa.getD I 0) (xr.getD (J) 0) _ (ha.get _) (hr.get _)) ?_
      rintro e_1 w_7 ⟨rfl, rfl⟩
      refine ⟨_, rfl, ?_⟩
      iterate 8 refine e1 ?_
      refine q_as (.int .u64 ((0 : Nat) : Int)) rfl ?_
      iterate 6 refine e1 ?_
      refine q_w (o_add64 rfl ev ev (by omega)) ?_
      refine q_v _ (.pointer (some ⟨g_4, I + J, none⟩)) (zero_off (o_ixA (k := 0) (i := I + J) (n := 4) (e := 38) rfl ev ev (by omega) (fun _ => by kernel_rfl) (fun _ => by kernel_rfl))) ?_
      refine q_w (o_loadW rfl ev BO (by rw [hj.1.1]; omega) rfl ⟨by kernel_rfl, by kernel_rfl⟩) ?_
      refine q_v 41 (.tuple #[.int .u64 (((((xa.getD I 0) * (xr.getD (J) 0) % 18446744073709551616) + (((prodJ (prodI xa xr I) xr I (xa.getD I 0) J).1).getD (I + J) 0) + 0) % 18446744073709551616 : Nat) : Int), .int .u64 (((((xa.getD I 0) * (xr.getD (J) 0) % 18446744073709551616) + (((prodJ (prodI xa xr I) xr I (xa.getD I 0) J).1).getD (I + J) 0) + 0) / 18446744073709551616 : Nat) : Int)]) (o_ext (vs := #[.int .u64 (((xa.getD I 0) * (xr.getD (J) 0) % 18446744073709551616 : Nat) : Int), .int .u64 ((((prodJ (prodI xa xr I) xr I (xa.getD I 0) J).1).getD (I + J) 0 : Nat) : Int), .int .u64 ((0 : Nat) : Int)]) rfl rfl (args3 ev ev rfl) (add64N ((xa.getD I 0) * (xr.getD (J) 0) % 18446744073709551616) (((prodJ (prodI xa xr I) xr I (xa.getD I 0) J).1).getD (I + J) 0) 0 (by omega) _)) ?_
      iterate 10 refine e1 ?_
      refine q_w (o_addU ((((xa.getD I 0) * (xr.getD (J) 0) / 18446744073709551616) + ((((xa.getD I 0) * (xr.getD (J) 0) % 18446744073709551616) + (((prodJ (prodI xa xr I) xr I (xa.getD I 0) J).1).getD (I + J) 0) + 0) / 18446744073709551616)) % 18446744073709551616) rfl ev ev (by rw [IntKind.wrap_u64]; omega)) ?_
      iterate 6 refine e1 ?_
      refine q_w (o_add64 rfl ev ev (by omega)) ?_
      iterate 2 refine e1 ?_
      refine q_v 53 (.tuple #[.int .u64 (((((((xa.getD I 0) * (xr.getD (J) 0) % 18446744073709551616) + (((prodJ (prodI xa xr I) xr I (xa.getD I 0) J).1).getD (I + J) 0) + 0) % 18446744073709551616) + ((prodJ (prodI xa xr I) xr I (xa.getD I 0) J).2) + 0) % 18446744073709551616 : Nat) : Int), .int .u64 (((((((xa.getD I 0) * (xr.getD (J) 0) % 18446744073709551616) + (((prodJ (prodI xa xr I) xr I (xa.getD I 0) J).1).getD (I + J) 0) + 0) % 18446744073709551616) + ((prodJ (prodI xa xr I) xr I (xa.getD I 0) J).2) + 0) / 18446744073709551616 : Nat) : Int)]) (o_ext (vs := #[.int .u64 (((((xa.getD I 0) * (xr.getD (J) 0) % 18446744073709551616) + (((prodJ (prodI xa xr I) xr I (xa.getD I 0) J).1).getD (I + J) 0) + 0) % 18446744073709551616 : Nat) : Int), .int .u64 (((prodJ (prodI xa xr I) xr I (xa.getD I 0) J).2 : Nat) : Int), .int .u64 ((0 : Nat) : Int)]) rfl rfl (args3 ev ev rfl) (add64N ((((xa.getD I 0) * (xr.getD (J) 0) % 18446744073709551616) + (((prodJ (prodI xa xr I) xr I (xa.getD I 0) J).1).getD (I + J) 0) + 0) % 18446744073709551616) ((prodJ (prodI xa xr I) xr I (xa.getD I 0) J).2) 0 (by omega) _)) ?_
      iterate 3 refine e1 ?_
      refine q_v _ (.pointer (some ⟨g_4, I + J, none⟩)) (zero_off (o_ixA (k := 0) (i := I + J) (n := 4) (e := 38) rfl ev ev (by omega) (fun _ => by kernel_rfl) (fun _ => by kernel_rfl))) ?_
      refine q_d (o_storeW rfl ev ev BO (by rw [hj.1.1]; omega) ⟨by kernel_rfl, by kernel_rfl⟩) (fun w_8 hR_6 => ?_)
      obtain ⟨hB_5, hX_1⟩ := hR_6
      replace BA := hX_1.blk BA ne_4
      replace BR := hX_1.blk BR ne_5
      replace BZ := hX_1.blk BZ ne_6
      have HB_4 := hX_1.below HBL HBL.size (fun k hk => hk ▸ ge_4)
      iterate 5 refine e1 ?_
      refine q_w (o_addU ((((((xa.getD I 0) * (xr.getD (J) 0) / 18446744073709551616) + ((((xa.getD I 0) * (xr.getD (J) 0) % 18446744073709551616) + (((prodJ (prodI xa xr I) xr I (xa.getD I 0) J).1).getD (I + J) 0) + 0) / 18446744073709551616)) % 18446744073709551616) + ((((((xa.getD I 0) * (xr.getD (J) 0) % 18446744073709551616) + (((prodJ (prodI xa xr I) xr I (xa.getD I 0) J).1).getD (I + J) 0) + 0) % 18446744073709551616) + ((prodJ (prodI xa xr I) xr I (xa.getD I 0) J).2) + 0) / 18446744073709551616)) % 18446744073709551616) rfl ev ev (by rw [IntKind.wrap_u64]; omega)) ?_
      iterate 4 refine e1 ?_
      refine q_w (o_add64 (n := 1) rfl ev rfl (by omega)) ?_
      refine e1 ?_
      refine x_nil ?_
      refine hK_16 _ _ _ ⟨J + 1, rfl, (psz hs_2), (pdf hd_2), ev, ev, ev, ev, ev, ev, ev, ev, ev, ev, (by omega), BA, BR, BZ, hB_5, HB_4⟩ ?_
      omega
    ·simp only [DD9] at h_2
     obtain rfl : J = 2 := by omega
     iterate 8 refine e1 ?_
     refine q_w (o_add64 (n := 2) rfl ev rfl (by omega)) ?_
     refine q_w (o_lss (n := 4) rfl ev rfl) ?_
     refine e1 ?_
     refine w2_split (pe hs_2 rfl rfl) (fun h_4 => ?_) (fun h_4 => ?_)
     ·simp only [DD9] at h_4
      iterate 2 refine e1 ?_
      refine q_w (o_add64 (n := 2) rfl ev rfl (by omega)) ?_
      refine e1 ?_
      refine q_v _ (.pointer (some ⟨g_4, I + 2, none⟩)) (zero_off (o_ixA (k := 0) (i := I + 2) (n := 4) (e := 38) rfl ev ev (by omega) (fun _ => by kernel_rfl) (fun _ => by kernel_rfl))) ?_
      refine q_d (o_storeW rfl ev ev BO (by rw [hj.1.1]; omega) ⟨by kernel_rfl, by kernel_rfl⟩) (fun w_9 hR_7 => ?_)
      obtain ⟨hB_6, hX_2⟩ := hR_7
      replace BA := hX_2.blk BA ne_4
      replace BR := hX_2.blk BR ne_5
      replace BZ := hX_2.blk BZ ne_6
      have HB_5 := hX_2.below HBL HBL.size (fun k hk => hk ▸ ge_4)
      iterate 3 refine e1 ?_
      refine q_w (o_add64 (n := 1) rfl ev rfl (by omega)) ?_
      refine e1 ?_
      refine x_nil ?_
      refine hK_6 _ _ _ ⟨I + 1, rfl, (psz hs_2), (pdf hd_2), ev, ev, ev, ev, ev, (by omega), BA, BR, BZ, (by rw [prodI, if_pos (by omega)]; exact hB_6), HB_5⟩ ?_
      omega
     ·simp only [DD9] at h_4
      iterate 4 refine e1 ?_
      refine q_w (o_add64 (n := 1) rfl ev rfl (by omega)) ?_
      refine e1 ?_
      refine x_nil ?_
      refine hK_6 _ _ _ ⟨I + 1, rfl, (psz hs_2), (pdf hd_2), ev, ev, ev, ev, ev, (by omega), BA, BR, BZ, (by rw [prodI, if_neg (by omega)]; exact BO), HBL⟩ ?_
      omega
  ·simp only [DD9] at h_1
   obtain rfl : I = 3 := by omega
   iterate 7 refine e1 ?_
   refine q_w (o_loadI rfl ev BO (by rw [hok.1]; exact ⟨by kernel_rfl, by kernel_rfl⟩)) ?_
   refine q_d (o_storeI rfl ev ev BZ (by rw [hok.1]; exact ⟨by kernel_rfl, by kernel_rfl⟩) (by rw [hok.1]; simp [iws])) (fun w_10 hR_8 => ?_)
   obtain ⟨hB_7, hX_3⟩ := hR_8
   replace BA := hX_3.blk BA ne_2
   replace BR := hX_3.blk BR ne_3
   replace BO := hX_3.blk BO (Ne.symm ne_6)
   have HB_6 := hX_3.below HBL HBL.size (fun k hk => hk ▸ ge_3)
   clear BZ
   iterate 2 refine e1 ?_
   refine retC rfl hd_1 ((pm rfl).trans ta_1_4) (loadI hB_7 (by rw [hok.1]; exact ⟨by kernel_rfl, by kernel_rfl⟩)) ?_
   exact ⟨rfl, HB_6⟩
def foldN (p : List Nat) : List Nat :=
 addN (addN [p.getD 0 0, p.getD 1 0, p.getD 2 0 &&& 3] [p.getD 2 0 &&& (18446744073709551615 - 3), p.getD 3 0, 0]) [p.getD 2 0 / 2 ^ 2 ||| p.getD 3 0 * 2 ^ 62 % 18446744073709551616, p.getD 3 0 / 2 ^ 2, 0]
theorem fold_low (h : W64 4 p) : W64 3 [p.getD 0 0, p.getD 1 0, p.getD 2 0 &&& 3] := ⟨rfl, by
 intro x hx
 simp only [List.mem_cons, List.not_mem_nil, or_false] at hx
 rcases hx with rfl | rfl | rfl
 ·exact h.get 0
 ·exact h.get 1
 ·exact Nat.lt_of_le_of_lt Nat.and_le_left (h.get 2)⟩
theorem fold_four (h : W64 4 p) : W64 3 [p.getD 2 0 &&& (18446744073709551615 - 3), p.getD 3 0, 0] := ⟨rfl, by
 intro x hx
 simp only [List.mem_cons, List.not_mem_nil, or_false] at hx
 rcases hx with rfl | rfl | rfl
 ·exact Nat.lt_of_le_of_lt Nat.and_le_left (h.get 2)
 ·exact h.get 3
 ·omega⟩
theorem fold_one (h : W64 4 p) : W64 3 [p.getD 2 0 / 2 ^ 2 ||| p.getD 3 0 * 2 ^ 62 % 18446744073709551616, p.getD 3 0 / 2 ^ 2, 0] := ⟨rfl, by
 intro x hx
 have h2 := h.get 2
 have h3 := h.get 3
 simp only [List.mem_cons, List.not_mem_nil, or_false] at hx
 rcases hx with rfl | rfl | rfl
 ·exact Nat.or_lt_two_pow (n := 64) (by omega) (Nat.mod_lt _ (by omega))
 ·omega
 ·omega⟩
theorem foldN_ok (h : W64 4 p) : W64 3 (foldN p) := addN_ok (addN_ok (fold_low h) (fold_four h)) (fold_one h)
def redN (m : List Nat) : List Nat := if 0 < (addN m [5, 0, 0]).getD 2 0 / 2 ^ 2 then (addN m [5, 0, 0]).set 2 ((addN m [5, 0, 0]).getD 2 0 &&& 3) else m
theorem five_ok : W64 3 [5, 0, 0] := ⟨rfl, by intro x hx; simp at hx; omega⟩
theorem redN_ok {m : List Nat} (h : W64 3 m) : W64 3 (redN m) := by
 unfold redN
 split
 ·exact (addN_ok h five_ok).set _ _ (Nat.lt_of_le_of_lt Nat.and_le_left ((addN_ok h five_ok).get 2))
 ·exact h
theorem folded_any (w : World) (hp : W64 4 xp) :
  Calls Tryz.prog 130 #[.agg (iws .u64 (xp)).toArray] w fun e w' => e = .returned (.agg (iws .u64 (foldN xp)).toArray) ∧ Below w.heap.size w w' := by
 refine x_enter 36 Tryz.func130 rfl rfl (fun a hs hd ha0 => ?_)
 have t0 := tA 0 ha0
 clear ha0
 iterate 2 refine e1 ?_
 refine q_x (o_boxI rfl ev) (fun v_1 w_1 hR_1 => ?_)
 obtain ⟨g_1, rfl, hle_1, hB_1, hb_1⟩ := hR_1
 refine q_x (o_alloc (zs := (iws .u64 (List.replicate 3 0)).toArray) rfl (fun _ => by kernel_rfl)) (fun v_2 w_2 hR_2 => ?_)
 obtain ⟨g_2, rfl, hle_2, hB_2, hb_2⟩ := hR_2
 have ge_2 : w.heap.size ≤ g_2 := Nat.le_trans hb_1.size hle_2
 replace hB_1 := hB_1.nx hb_2
 have HB_1 := below_from hb_1 hb_2
 iterate 3 refine e1 ?_
 refine q_v _ (.pointer (some ⟨g_1, 0, none⟩)) (zero_off (o_ixA (k := 0) (i := 0) (n := 4) (e := 38) rfl ev rfl (by omega) (fun _ => by kernel_rfl) (fun _ => by kernel_rfl))) ?_
 refine q_w (o_loadW rfl ev hB_1 (by rw [hp.1]; omega) rfl ⟨by kernel_rfl, by kernel_rfl⟩) ?_
 refine q_v _ (.pointer (some ⟨g_1, 1, none⟩)) (zero_off (o_ixA (k := 0) (i := 1) (n := 4) (e := 38) rfl ev rfl (by omega) (fun _ => by kernel_rfl) (fun _ => by kernel_rfl))) ?_
 refine q_w (o_loadW rfl ev hB_1 (by rw [hp.1]; omega) rfl ⟨by kernel_rfl, by kernel_rfl⟩) ?_
 refine q_v _ (.pointer (some ⟨g_1, 2, none⟩)) (zero_off (o_ixA (k := 0) (i := 2) (n := 4) (e := 38) rfl ev rfl (by omega) (fun _ => by kernel_rfl) (fun _ => by kernel_rfl))) ?_
 refine q_w (o_loadW rfl ev hB_1 (by rw [hp.1]; omega) rfl ⟨by kernel_rfl, by kernel_rfl⟩) ?_
 refine q_w (o_bits (n := 3) ((xp.getD (2) 0) &&& 3) rfl ev rfl (by decide) (u64_and_nat _ _ (hp.get 2) (by omega))) ?_
 refine q_v _ (.agg (iws .u64 ([xp.getD (0) 0, xp.getD (1) 0, (xp.getD (2) 0) &&& 3])).toArray) (o_bld rfl (bld3 ev ev ev) (fun _ => by kernel_rfl)) ?_
 refine q_x (o_alloc (zs := (iws .u64 (List.replicate 3 0)).toArray) rfl (fun _ => by kernel_rfl)) (fun v_3 w_3 hR_3 => ?_)
 obtain ⟨g_3, rfl, hle_3, hB_3, hb_3⟩ := hR_3
 have ne_2 : g_1 ≠ g_3 := Nat.ne_of_lt (Nat.lt_of_lt_of_le hB_1.lt hle_3)
 have ne_3 : g_2 ≠ g_3 := Nat.ne_of_lt (Nat.lt_of_lt_of_le hB_2.lt hle_3)
 have ge_3 : w.heap.size ≤ g_3 := Nat.le_trans HB_1.size hle_3
 obtain ⟨hB_1, hB_2⟩ := nx2 hb_3 hB_1 hB_2
 have HB_2 := below_from HB_1 hb_3
 refine q_d (o_storeI rfl ev ev hB_3 ⟨by kernel_rfl, by kernel_rfl⟩ (by simp [iws])) (fun w_4 hR_4 => ?_)
 obtain ⟨hB_4, hX_1⟩ := hR_4
 replace hB_1 := hX_1.blk hB_1 ne_2
 replace hB_2 := hX_1.blk hB_2 ne_3
 have HB_3 := hX_1.below HB_2 HB_2.size (fun k hk => hk ▸ ge_3)
 replace hB_4 : Blk w_4 g_3 (iws .u64 ([xp.getD (0) 0, xp.getD (1) 0, (xp.getD (2) 0) &&& 3])).toArray _ := hB_4
 iterate 3 refine e1 ?_
 refine q_v _ (.pointer (some ⟨g_1, 2, none⟩)) (zero_off (o_ixA (k := 0) (i := 2) (n := 4) (e := 38) rfl ev rfl (by omega) (fun _ => by kernel_rfl) (fun _ => by kernel_rfl))) ?_
 refine q_w (o_loadW rfl ev hB_1 (by rw [hp.1]; omega) rfl ⟨by kernel_rfl, by kernel_rfl⟩) ?_
 refine q_w (o_bits (n := 3) ((xp.getD (2) 0) &&& (18446744073709551615 - 3)) rfl ev rfl (by decide) (u64_andNot_nat _ _ (hp.get 2) (by omega))) ?_
 refine q_v _ (.pointer (some ⟨g_1, 3, none⟩)) (zero_off (o_ixA (k := 0) (i := 3) (n := 4) (e := 38) rfl ev rfl (by omega) (fun _ => by kernel_rfl) (fun _ => by kernel_rfl))) ?_
 refine q_w (o_loadW rfl ev hB_1 (by rw [hp.1]; omega) rfl ⟨by kernel_rfl, by kernel_rfl⟩) ?_
 refine q_v _ (.agg (iws .u64 ([(xp.getD (2) 0) &&& (18446744073709551615 - 3), xp.getD (3) 0, 0])).toArray) (o_bld rfl (bld2 ev ev) (fun _ => by kernel_rfl)) ?_
 refine q_x (o_alloc (zs := (iws .u64 (List.replicate 3 0)).toArray) rfl (fun _ => by kernel_rfl)) (fun v_4 w_5 hR_5 => ?_)
 obtain ⟨g_4, rfl, hle_4, hB_5, hb_4⟩ := hR_5
 have ne_4 : g_1 ≠ g_4 := Nat.ne_of_lt (Nat.lt_of_lt_of_le hB_1.lt hle_4)
 have ne_5 : g_2 ≠ g_4 := Nat.ne_of_lt (Nat.lt_of_lt_of_le hB_2.lt hle_4)
 have ne_6 : g_3 ≠ g_4 := Nat.ne_of_lt (Nat.lt_of_lt_of_le hB_4.lt hle_4)
 have ge_4 : w.heap.size ≤ g_4 := Nat.le_trans HB_3.size hle_4
 obtain ⟨hB_1, hB_2, hB_4⟩ := nx3 hb_4 hB_1 hB_2 hB_4
 have HB_4 := below_from HB_3 hb_4
 refine q_d (o_storeI rfl ev ev hB_5 ⟨by kernel_rfl, by kernel_rfl⟩ (by simp [iws])) (fun w_6 hR_6 => ?_)
 obtain ⟨hB_6, hX_2⟩ := hR_6
 replace hB_1 := hX_2.blk hB_1 ne_4
 replace hB_2 := hX_2.blk hB_2 ne_5
 replace hB_4 := hX_2.blk hB_4 ne_6
 have HB_5 := hX_2.below HB_4 HB_4.size (fun k hk => hk ▸ ge_4)
 replace hB_6 : Blk w_6 g_4 (iws .u64 ([(xp.getD (2) 0) &&& (18446744073709551615 - 3), xp.getD (3) 0, 0])).toArray _ := hB_6
 iterate 3 refine e1 ?_
 refine q_v _ (.pointer (some ⟨g_1, 2, none⟩)) (zero_off (o_ixA (k := 0) (i := 2) (n := 4) (e := 38) rfl ev rfl (by omega) (fun _ => by kernel_rfl) (fun _ => by kernel_rfl))) ?_
 refine q_w (o_loadW rfl ev hB_1 (by rw [hp.1]; omega) rfl ⟨by kernel_rfl, by kernel_rfl⟩) ?_
 refine q_w (o_shr (n := 2) rfl ev rfl (by decide)) ?_
 refine q_v _ (.pointer (some ⟨g_1, 3, none⟩)) (zero_off (o_ixA (k := 0) (i := 3) (n := 4) (e := 38) rfl ev rfl (by omega) (fun _ => by kernel_rfl) (fun _ => by kernel_rfl))) ?_
 refine q_w (o_loadW rfl ev hB_1 (by rw [hp.1]; omega) rfl ⟨by kernel_rfl, by kernel_rfl⟩) ?_
 refine q_w (o_shl (n := 62) ((xp.getD (3) 0) * 2 ^ 62 % 18446744073709551616) rfl ev rfl (by decide) (by rw [IntKind.wrap_u64]; simp)) ?_
 refine q_w (o_bits (((xp.getD (2) 0) / 2 ^ 2) ||| ((xp.getD (3) 0) * 2 ^ 62 % 18446744073709551616)) rfl ev ev (by decide) (u64_or_nat _ _ (by have := hp.get 2; omega) (Nat.mod_lt _ (by omega)))) ?_
 refine q_v _ (.pointer (some ⟨g_1, 3, none⟩)) (zero_off (o_ixA (k := 0) (i := 3) (n := 4) (e := 38) rfl ev rfl (by omega) (fun _ => by kernel_rfl) (fun _ => by kernel_rfl))) ?_
 refine q_w (o_loadW rfl ev hB_1 (by rw [hp.1]; omega) rfl ⟨by kernel_rfl, by kernel_rfl⟩) ?_
 refine q_w (o_shr (n := 2) rfl ev rfl (by decide)) ?_
 refine q_v _ (.agg (iws .u64 ([((xp.getD (2) 0) / 2 ^ 2) ||| ((xp.getD (3) 0) * 2 ^ 62 % 18446744073709551616), (xp.getD (3) 0) / 2 ^ 2, 0])).toArray) (o_bld rfl (bld2 ev ev) (fun _ => by kernel_rfl)) ?_
 refine q_x (o_alloc (zs := (iws .u64 (List.replicate 3 0)).toArray) rfl (fun _ => by kernel_rfl)) (fun v_5 w_7 hR_7 => ?_)
 obtain ⟨g_5, rfl, hle_5, hB_7, hb_5⟩ := hR_7
 have ne_8 : g_2 ≠ g_5 := Nat.ne_of_lt (Nat.lt_of_lt_of_le hB_2.lt hle_5)
 have ne_9 : g_3 ≠ g_5 := Nat.ne_of_lt (Nat.lt_of_lt_of_le hB_4.lt hle_5)
 have ne_10 : g_4 ≠ g_5 := Nat.ne_of_lt (Nat.lt_of_lt_of_le hB_6.lt hle_5)
 have ge_5 : w.heap.size ≤ g_5 := Nat.le_trans HB_5.size hle_5
 obtain ⟨hB_2, hB_4, hB_6⟩ := nx3 hb_5 hB_2 hB_4 hB_6
 have HB_6 := below_from HB_5 hb_5
 refine q_d (o_storeI rfl ev ev hB_7 ⟨by kernel_rfl, by kernel_rfl⟩ (by simp [iws])) (fun w_8 hR_8 => ?_)
 obtain ⟨hB_8, hX_3⟩ := hR_8
 replace hB_2 := hX_3.blk hB_2 ne_8
 replace hB_4 := hX_3.blk hB_4 ne_9
 replace hB_6 := hX_3.blk hB_6 ne_10
 have HB_7 := hX_3.below HB_6 HB_6.size (fun k hk => hk ▸ ge_5)
 replace hB_8 : Blk w_8 g_5 (iws .u64 ([((xp.getD (2) 0) / 2 ^ 2) ||| ((xp.getD (3) 0) * 2 ^ 62 % 18446744073709551616), (xp.getD (3) 0) / 2 ^ 2, 0])).toArray _ := hB_8
 iterate 2 refine e1 ?_
 refine y_drawn 4 [iV (.agg (iws .u64 ([xp.getD (0) 0, xp.getD (1) 0, (xp.getD (2) 0) &&& 3])).toArray), iV (.agg (iws .u64 ([(xp.getD (2) 0) &&& (18446744073709551615 - 3), xp.getD (3) 0, 0])).toArray), fun w v => v = .agg (iws .u64 (addN ([xp.getD (0) 0, xp.getD (1) 0, (xp.getD (2) 0) &&& 3]) ([(xp.getD (2) 0) &&& (18446744073709551615 - 3), xp.getD (3) 0, 0]))).toArray, iV (.agg (iws .u64 ([((xp.getD (2) 0) / 2 ^ 2) ||| ((xp.getD (3) 0) * 2 ^ 62 % 18446744073709551616), (xp.getD (3) 0) / 2 ^ 2, 0])).toArray)] [31, 32, 33, 34] hs hd ⟨(step_ok rfl fun a' w' hb' hO hD => oV (o_loadI rfl ed (hB_4.nx hb') ⟨by kernel_rfl, by kernel_rfl⟩) rfl), (step_ok rfl fun a' w' hb' hO hD => oV (o_loadI rfl ed (hB_6.nx hb') ⟨by kernel_rfl, by kernel_rfl⟩) rfl), (step_ok rfl fun a' w' hb' hO hD => oC (vs := #[.agg (iws .u64 ([xp.getD (0) 0, xp.getD (1) 0, (xp.getD (2) 0) &&& 3])).toArray, .agg (iws .u64 ([(xp.getD (2) 0) &&& (18446744073709551615 - 3), xp.getD (3) 0, 0])).toArray]) Tryz.func131 rfl (args2 ed ed) (Calls.mono (polyadd_any _ (fold_low hp) (fold_four hp)) (fun e w'' hR => by obtain ⟨rfl, hb_6⟩ := hR; exact ⟨_, rfl, rfl, hb_6⟩))), (step_ok rfl fun a' w' hb' hO hD => oV (o_loadI rfl ed (hB_8.nx hb') ⟨by kernel_rfl, by kernel_rfl⟩) rfl), trivial⟩ (fun a_1 w_9 hs_1 hd_1 hb_7 hO_1 hV_1 => ?_)
 have ta_1_2 := fK 2 hO_1
 replace hB_2 := hB_2.nx hb_7
 have HB_8 := below_from HB_7 hb_7
 have ta_1_33 := fV 33 hV_1
 have ta_1_34 := fV 34 hV_1
 simp only [List.drop_succ_cons, List.drop_zero]
 refine e1 ?_
 refine k_c Tryz.func131 (polyadd_any _ (addN_ok (fold_low hp) (fold_four hp)) (fold_one hp)) ?_
 rintro e_1 w_10 ⟨rfl, hb_9⟩
 replace hB_2 := hB_2.nx hb_9
 have HB_9 := below_from HB_8 hb_9
 refine ⟨_, rfl, ?_⟩
 refine q_d (o_storeI rfl ev ev hB_2 (by rw [(addN_ok (addN_ok (fold_low hp) (fold_four hp)) (fold_one hp)).1]; exact ⟨by kernel_rfl, by kernel_rfl⟩) (by rw [(addN_ok (addN_ok (fold_low hp) (fold_four hp)) (fold_one hp)).1]; simp [iws])) (fun w_11 hR_10 => ?_)
 obtain ⟨hB_9, hX_4⟩ := hR_10
 have HB_10 := hX_4.below HB_9 HB_9.size (fun k hk => hk ▸ ge_2)
 iterate 2 refine e1 ?_
 refine retC rfl hd_1 ((pm rfl).trans ta_1_2) (loadI hB_9 (by rw [(addN_ok (addN_ok (fold_low hp) (fold_four hp)) (fold_one hp)).1]; exact ⟨by kernel_rfl, by kernel_rfl⟩)) ?_
 exact ⟨rfl, HB_10⟩
theorem reduced_any (w : World) (hp : W64 3 xp) :
  Calls Tryz.prog 134 #[.agg (iws .u64 (xp)).toArray] w fun e w' => e = .returned (.agg (iws .u64 (redN xp)).toArray) ∧ Below w.heap.size w w' := by
 refine x_enter 17 Tryz.func134 rfl rfl (fun a hs hd ha0 => ?_)
 have t0 := tA 0 ha0
 clear ha0
 iterate 2 refine e1 ?_
 refine q_x (o_boxI rfl ev) (fun v_1 w_1 hR_1 => ?_)
 obtain ⟨g_1, rfl, hle_1, hB_1, hb_1⟩ := hR_1
 refine q_x (o_alloc (zs := (iws .u64 (List.replicate 3 0)).toArray) rfl (fun _ => by kernel_rfl)) (fun v_2 w_2 hR_2 => ?_)
 obtain ⟨g_2, rfl, hle_2, hB_2, hb_2⟩ := hR_2
 have ne_1 : g_1 ≠ g_2 := Nat.ne_of_lt (Nat.lt_of_lt_of_le hB_1.lt hle_2)
 have ge_2 : w.heap.size ≤ g_2 := Nat.le_trans hb_1.size hle_2
 replace hB_1 := hB_1.nx hb_2
 have HB_1 := below_from hb_1 hb_2
 iterate 3 refine e1 ?_
 refine q_w (o_loadI rfl ev hB_1 (by rw [hp.1]; exact ⟨by kernel_rfl, by kernel_rfl⟩)) ?_
 refine q_v 5 (.agg (iws .u64 ([5, 0, 0])).toArray) (o_bld (vs := #[(0, .int .u64 ((5 : Nat) : Int))]) rfl (bld1 rfl) (fun _ => by kernel_rfl)) ?_
 refine e1 ?_
 refine k_c Tryz.func131 (polyadd_any _ hp five_ok) ?_
 rintro e_1 w_3 ⟨rfl, hb_4⟩
 obtain ⟨hB_1, hB_2⟩ := nx2 hb_4 hB_1 hB_2
 have HB_2 := below_from HB_1 hb_4
 refine ⟨_, rfl, ?_⟩
 refine q_x (o_alloc (zs := (iws .u64 (List.replicate 3 0)).toArray) rfl (fun _ => by kernel_rfl)) (fun v_3 w_4 hR_4 => ?_)
 obtain ⟨g_3, rfl, hle_3, hB_3, hb_5⟩ := hR_4
 have ne_2 : g_1 ≠ g_3 := Nat.ne_of_lt (Nat.lt_of_lt_of_le hB_1.lt hle_3)
 have ne_3 : g_2 ≠ g_3 := Nat.ne_of_lt (Nat.lt_of_lt_of_le hB_2.lt hle_3)
 have ge_3 : w.heap.size ≤ g_3 := Nat.le_trans HB_2.size hle_3
 obtain ⟨hB_1, hB_2⟩ := nx2 hb_5 hB_1 hB_2
 have HB_3 := below_from HB_2 hb_5
 refine q_d (o_storeI rfl ev ev hB_3 (by rw [(addN_ok hp five_ok).1]; exact ⟨by kernel_rfl, by kernel_rfl⟩) (by rw [(addN_ok hp five_ok).1]; simp [iws])) (fun w_5 hR_5 => ?_)
 obtain ⟨hB_4, hX_1⟩ := hR_5
 replace hB_1 := hX_1.blk hB_1 ne_2
 replace hB_2 := hX_1.blk hB_2 ne_3
 have HB_4 := hX_1.below HB_3 HB_3.size (fun k hk => hk ▸ ge_3)
 iterate 4 refine e1 ?_
 refine q_v _ (.pointer (some ⟨g_3, 2, none⟩)) (zero_off (o_ixA (k := 0) (i := 2) (n := 3) (e := 38) rfl ev rfl (by omega) (fun _ => by kernel_rfl) (fun _ => by kernel_rfl))) ?_
 refine q_w (o_loadW rfl ev hB_4 (by rw [(addN_ok hp five_ok).1]; omega) rfl ⟨by kernel_rfl, by kernel_rfl⟩) ?_
 refine q_w (o_shr (n := 2) rfl ev rfl (by decide)) ?_
 refine q_w (o_gtr (n := 0) rfl ev rfl) ?_
 refine e1 ?_
 refine w2_split (pe hs rfl rfl) (fun h_1 => ?_) (fun h_1 => ?_)
 ·simp only [DD9] at h_1
  have hr : redN xp = (addN xp [5, 0, 0]).set 2 ((addN xp [5, 0, 0]).getD 2 0 &&& 3) := if_pos h_1
  iterate 2 refine e1 ?_
  refine q_v _ (.pointer (some ⟨g_3, 2, none⟩)) (zero_off (o_ixA (k := 0) (i := 2) (n := 3) (e := 38) rfl ev rfl (by omega) (fun _ => by kernel_rfl) (fun _ => by kernel_rfl))) ?_
  refine q_w (o_loadW rfl ev hB_4 (by rw [(addN_ok hp five_ok).1]; omega) rfl ⟨by kernel_rfl, by kernel_rfl⟩) ?_
  refine q_w (o_bits (n := 3) (((addN xp ([5, 0, 0])).getD (2) 0) &&& 3) rfl ev rfl (by decide) (u64_and_nat _ _ ((addN_ok hp five_ok).get 2) (by omega))) ?_
  refine q_v _ (.pointer (some ⟨g_3, 2, none⟩)) (zero_off (o_ixA (k := 0) (i := 2) (n := 3) (e := 38) rfl ev rfl (by omega) (fun _ => by kernel_rfl) (fun _ => by kernel_rfl))) ?_
  refine q_d (o_storeW rfl ev ev hB_4 (by rw [(addN_ok hp five_ok).1]; omega) ⟨by kernel_rfl, by kernel_rfl⟩) (fun w_6 hR_6 => ?_)
  obtain ⟨hB_5, hX_2⟩ := hR_6
  replace hB_1 := hX_2.blk hB_1 ne_2
  replace hB_2 := hX_2.blk hB_2 ne_3
  have HB_5 := hX_2.below HB_4 HB_4.size (fun k hk => hk ▸ ge_3)
  iterate 3 refine e1 ?_
  refine q_w (o_loadI rfl ev hB_5 (by simp only [List.length_set, (addN_ok hp five_ok).1]; exact ⟨by kernel_rfl, by kernel_rfl⟩)) ?_
  refine q_d (o_storeI rfl ev ev hB_2 (by simp only [List.length_set, (addN_ok hp five_ok).1]; exact ⟨by kernel_rfl, by kernel_rfl⟩) (by simp only [List.length_set, (addN_ok hp five_ok).1]; simp [iws])) (fun w_7 hR_7 => ?_)
  obtain ⟨hB_6, hX_3⟩ := hR_7
  replace hB_1 := hX_3.blk hB_1 ne_1
  have HB_6 := hX_3.below HB_5 HB_5.size (fun k hk => hk ▸ ge_2)
  iterate 3 refine e1 ?_
  refine retC rfl hd (pe hs rfl rfl) (loadI hB_6 (by simp only [List.length_set, (addN_ok hp five_ok).1]; exact ⟨by kernel_rfl, by kernel_rfl⟩)) ?_
  exact ⟨by rw [hr], HB_6⟩
 ·simp only [DD9] at h_1
  have hr : redN xp = xp := if_neg (Nat.not_lt.2 h_1)
  iterate 4 refine e1 ?_
  refine q_w (o_loadI rfl ev hB_1 (by rw [hp.1]; exact ⟨by kernel_rfl, by kernel_rfl⟩)) ?_
  refine q_d (o_storeI rfl ev ev hB_2 (by rw [hp.1]; exact ⟨by kernel_rfl, by kernel_rfl⟩) (by rw [hp.1]; simp [iws])) (fun w_8 hR_8 => ?_)
  obtain ⟨hB_7, hX_4⟩ := hR_8
  have HB_7 := hX_4.below HB_4 HB_4.size (fun k hk => hk ▸ ge_2)
  iterate 2 refine e1 ?_
  refine retC rfl hd (pe hs rfl rfl) (loadI hB_7 (by rw [hp.1]; exact ⟨by kernel_rfl, by kernel_rfl⟩)) ?_
  exact ⟨by rw [hr], HB_7⟩
theorem Low64_n (w : World) (ha : Bs w A c xs) (hn : xs.length = n) (i : Nat) (hi : i < 4611686018427387904) :
  Calls Tryz.prog 119 #[.slice A n c, .int .i64 (i : Int)] w fun e w' => e = .returned (.int .u64 ((lowN xs i 8 : Nat) : Int)) ∧ w = w' := by
 subst hn
 exact Low64_any w ha i hi
theorem Clone_any (w : World) (hb : Bs w A c xs) (hn : xs.length = n) (hl : n ≤ 140737488355328) :
  Calls Tryz.prog 32 #[.slice A n c] w fun e w' => ∃ A' c', e = .returned (.slice A' n c') ∧ Own w' w.heap.size A' c' xs ∧ Below w.heap.size w w' := by
 cases A with
 | some a => exact Clone_some w hb hn hl
 | none =>
  have h0 : xs = [] := by
   rcases hb.cells with h | ⟨b, off, h, _⟩
   ·exact h
   ·cases h
  subst h0
  obtain rfl : n = 0 := by simpa using hn.symm
  refine (Clone_nil c w).mono ?_
  rintro e w' ⟨rfl, rfl⟩
  exact ⟨none, 0, rfl, Own.nil _ _, Below.refl _ _⟩
def ofN (xs : List Nat) : List Nat := [lowN (xs ++ [1]) 0 8, lowN (xs ++ [1]) 8 8, lowN (xs ++ [1]) 16 8]
theorem ofN_ok (h : ∀ x ∈ xs, x < 256) : W64 3 (ofN xs) := ⟨rfl, by
 have h1 : ∀ x ∈ xs ++ [1], x < 256 := fun x hx => by
  rcases List.mem_append.1 hx with h2 | h2
  ·exact h x h2
  ·rw [List.mem_singleton.1 h2]; omega
 intro x hx
 simp only [ofN, List.mem_cons, List.not_mem_nil, or_false] at hx
 rcases hx with rfl | rfl | rfl <;> exact lowN_lt h1 _ 8⟩
theorem of_any (w : World) (ha : Bs w A c xs) (hn : xs.length = n) (hl : n ≤ 70368744177664) :
  Calls Tryz.prog 132 #[.slice A (n) (c)] w fun e w' => e = .returned (.agg (iws .u64 (ofN xs)).toArray) ∧ Below w.heap.size w w' := by
 refine x_enter 14 Tryz.func132 rfl rfl (fun a hs hd ha0 => ?_)
 have t0 := tA 0 ha0
 clear ha0
 iterate 2 refine e1 ?_
 refine q_x (o_alloc (zs := (iws .u64 (List.replicate 3 0)).toArray) rfl (fun _ => by kernel_rfl)) (fun v_1 w_1 hR_1 => ?_)
 obtain ⟨g_1, rfl, hle_1, hB_1, hb_1⟩ := hR_1
 have ge_1 : w.heap.size ≤ g_1 := hle_1
 iterate 5 refine e1 ?_
 refine k_c Tryz.func32 (Clone_any _ (ha.below hb_1) hn (by omega)) ?_
 rintro e_1 w_2 ⟨A_1, c_1, rfl, ho_1, hb_2⟩
 replace ho_1 := ho_1.mono hb_1.size
 replace hB_1 := hB_1.nx hb_2
 have HB_1 := below_from hb_1 hb_2
 refine ⟨_, rfl, ?_⟩
 refine q_x (o_build1 (m := 1) rfl rfl (by omega)) (fun v_2 w_3 hR_3 => ?_)
 obtain ⟨g_2, rfl, ho_2, hb_3⟩ := hR_3
 obtain ⟨hB_1, ho_1⟩ := nx2 hb_3 hB_1 ho_1
 have HB_2 := below_from HB_1 hb_3
 refine q_x (o_append rfl ev ev ho_1 (ho_2).bs (by rw [hn]) (by simp only [List.length_cons, List.length_nil]) (by omega) HB_2.size) (fun v_3 w_4 hR_4 => ?_)
 obtain ⟨A_2, c_2, rfl, ho_3, hb_4, hg_1, hat_1⟩ := hR_4
 replace hB_1 := hB_1.grown ho_1 hg_1 (by decide)
 have HB_3 : Below w.heap.size w w_4 := (HB_2).trans hb_4
 clear hg_1 hat_1 ho_1
 iterate 6 refine e1 ?_
 refine k_c Tryz.func119 (Low64_n _ (ho_3).bs (by simp [hn]) 0 (by omega)) ?_
 rintro e_2 w_5 ⟨rfl, rfl⟩
 refine ⟨_, rfl, ?_⟩
 iterate 2 refine e1 ?_
 refine k_c Tryz.func119 (Low64_n _ (ho_3).bs (by simp [hn]) 8 (by omega)) ?_
 rintro e_3 w_6 ⟨rfl, rfl⟩
 refine ⟨_, rfl, ?_⟩
 iterate 2 refine e1 ?_
 refine k_c Tryz.func119 (Low64_n _ (ho_3).bs (by simp [hn]) 16 (by omega)) ?_
 rintro e_4 w_7 ⟨rfl, rfl⟩
 refine ⟨_, rfl, ?_⟩
 refine q_v _ (.agg (iws .u64 ([lowN (xs ++ ([1])) 0 8, lowN (xs ++ ([1])) 8 8, lowN (xs ++ ([1])) 16 8])).toArray) (o_bld rfl (bld3 ev ev ev) (fun _ => by kernel_rfl)) ?_
 refine q_d (o_storeI rfl ev ev hB_1 ⟨by kernel_rfl, by kernel_rfl⟩ (by simp [iws])) (fun w_8 hR_8 => ?_)
 obtain ⟨hB_2, hX_1⟩ := hR_8
 have HB_4 := hX_1.below HB_3 HB_3.size (fun k hk => hk ▸ ge_1)
 replace hB_2 : Blk w_8 g_1 (iws .u64 ([lowN (xs ++ ([1])) 0 8, lowN (xs ++ ([1])) 8 8, lowN (xs ++ ([1])) 16 8])).toArray _ := hB_2
 iterate 2 refine e1 ?_
 refine retC rfl hd (pe hs rfl rfl) (loadI hB_2 ⟨by kernel_rfl, by kernel_rfl⟩) ?_
 exact ⟨rfl, HB_4⟩
end Go.Proofs.YtkhbihnnkflfkaaGreat
