/-
 WALKS: poly.Tag.
-/
import Derived.Test.YtkhbihnnkflfkaaGreatEz
import Derived.Test.YtkhbihnnkflfkaaGreatPoly
namespace Go.Proofs.YtkhbihnnkflfkaaGreat
open Go.RowKit
set_option maxHeartbeats 8000000
set_option linter.unusedVariables false
set_option linter.unusedSimpArgs false
set_option maxRecDepth 100000
attribute [local irreducible] wpList wpListIn putsR

variable {bs ks : List Nat}
def tagSt (rs bs : List Nat) (pre : List Nat) : List Nat := pre.foldl (fun h x => foldN (prodN (addN h (ofN (chunkL bs 16 x))) rs)) (List.replicate 3 0)
theorem tagSt_snoc (rs bs pre : List Nat) (x : Nat) : tagSt rs bs (pre ++ [x]) = foldN (prodN (addN (tagSt rs bs pre) (ofN (chunkL bs 16 x))) rs) := by simp [tagSt]
theorem chunkL_lt (h : ∀ x ∈ bs, x < 256) (m k : Nat) : ∀ x ∈ chunkL bs m k, x < 256 := fun x hx => h x (List.mem_of_mem_drop (List.mem_of_mem_take hx))
theorem tagSt_ok (rs : List Nat) (h : ∀ x ∈ bs, x < 256) (pre : List Nat) : W64 3 (tagSt rs bs pre) := by
 have key : ∀ r : List Nat, W64 3 (tagSt rs bs r.reverse) := by
  intro r
  induction r with
  | nil => exact ⟨by simp [tagSt], by simp [tagSt]⟩
  | cons x r ih => rw [List.reverse_cons, tagSt_snoc]; exact foldN_ok (prodN_ok _ _)
 simpa using key pre.reverse
def keyR (ks : List Nat) : List Nat := [lowN ks 0 8 &&& 1152921487695413247, lowN ks 8 8 &&& 1152921487695413244]
theorem keyR_ok (h : ∀ x ∈ ks, x < 256) : W64 2 (keyR ks) := ⟨rfl, by
 intro x hx
 simp only [keyR, List.mem_cons, List.not_mem_nil, or_false] at hx
 rcases hx with rfl | rfl <;> exact Nat.lt_of_le_of_lt Nat.and_le_left (lowN_lt h _ 8)⟩
theorem keyS_ok (h : ∀ x ∈ ks, x < 256) : W64 3 [lowN ks 16 8, lowN ks 24 8, 0] := ⟨rfl, by
 intro x hx
 simp only [List.mem_cons, List.not_mem_nil, or_false] at hx
 rcases hx with rfl | rfl | rfl
 ·exact lowN_lt h _ 8
 ·exact lowN_lt h _ 8
 ·omega⟩
def tagN (ks bs : List Nat) : List Nat := addN (redN (redN (tagSt (keyR ks) bs (List.range ((bs.length + 16 - 1) / 16))))) [lowN ks 16 8, lowN ks 24 8, 0]
theorem tagN_ok (hk : ∀ x ∈ ks, x < 256) (h : ∀ x ∈ bs, x < 256) : W64 3 (tagN ks bs) := addN_ok (redN_ok (redN_ok (tagSt_ok _ h _))) (keyS_ok hk)
def tagL (ks bs : List Nat) : List Nat := putL ((tagN ks bs).getD 0 0) 8 ++ putL ((tagN ks bs).getD 1 0) 8
theorem tagL_length (ks bs : List Nat) : (tagL ks bs).length = 16 := by simp [tagL, putL_length]
theorem tagL_lt (ks bs : List Nat) : ∀ x ∈ tagL ks bs, x < 256 := by
 intro x hx
 rcases List.mem_append.1 hx with h | h <;> exact putL_lt _ _ x h
theorem Tag_full {A B : Option Addr} {c d m k : Nat} (w : World) (ha : Bs w A c ks) (hb : Bs w B d bs) (hm : ks.length = m) (hk : bs.length = k) (hm32 : m = 32) (hl : k ≤ 70368744177664) :
  Calls Tryz.prog 102 #[.slice A (m) (c), .slice B (k) (d)] w fun e w' => ∃ A c, e = .returned (.tuple #[.slice A 16 c, .int .i64 0]) ∧ Own w' w.heap.size A c (tagL ks bs) ∧ Below w.heap.size w w' := by
 refine x_enterM 45 Tryz.func102 rfl rfl (fun a hs hd ha0 => ?_)
 have t0 := tA 0 ha0
 have t1 := tA 1 ha0
 clear ha0
 iterate 3 refine e1 ?_
 refine q_as (.int .i64 ((0 : Nat) : Int)) rfl ?_
 iterate 5 refine e1 ?_
 refine q_w (o_len rfl ev) ?_
 refine q_v 11 (.bool (false)) (o_eq (o_neq (m := m) (n := 32) rfl ev rfl) (by rw [hm32]; rfl)) ?_
 iterate 8 refine e1 ?_
 refine k_c Tryz.func119 (Low64_n _ ha hm 0 (by omega)) ?_
 rintro e_1 w_1 ⟨rfl, rfl⟩
 refine ⟨_, rfl, ?_⟩
 refine q_w (o_bits (n := 1152921487695413247) ((lowN ks 0 8) &&& 1152921487695413247) rfl ev rfl (by decide) (u64_and_nat _ _ (lowN_lt ha.b8 _ 8) (by omega))) ?_
 iterate 2 refine e1 ?_
 refine k_c Tryz.func119 (Low64_n _ ha hm 8 (by omega)) ?_
 rintro e_2 w_2 ⟨rfl, rfl⟩
 refine ⟨_, rfl, ?_⟩
 refine q_w (o_bits (n := 1152921487695413244) ((lowN ks 8 8) &&& 1152921487695413244) rfl ev rfl (by decide) (u64_and_nat _ _ (lowN_lt ha.b8 _ 8) (by omega))) ?_
 refine q_v _ (.agg (iws .u64 ([(lowN ks 0 8) &&& 1152921487695413247, (lowN ks 8 8) &&& 1152921487695413244])).toArray) (o_bld rfl (bld2 ev ev) (fun _ => by kernel_rfl)) ?_
 refine q_x (o_alloc (zs := (iws .u64 (List.replicate 2 0)).toArray) rfl (fun _ => by kernel_rfl)) (fun v_1 w_3 hR_3 => ?_)
 obtain ⟨g_1, rfl, hle_1, hB_1, hb_3⟩ := hR_3
 have ge_1 : w.heap.size ≤ g_1 := hle_1
 refine q_d (o_storeI rfl ev ev hB_1 ⟨by kernel_rfl, by kernel_rfl⟩ (by simp [iws])) (fun w_4 hR_4 => ?_)
 obtain ⟨hB_2, hX_1⟩ := hR_4
 have HB_1 := hX_1.below hb_3 hb_3.size (fun k hk => hk ▸ ge_1)
 replace hB_2 : Blk w_4 g_1 (iws .u64 ([(lowN ks 0 8) &&& 1152921487695413247, (lowN ks 8 8) &&& 1152921487695413244])).toArray _ := hB_2
 iterate 3 refine e1 ?_
 refine q_x (o_alloc (zs := (iws .u64 (List.replicate 3 0)).toArray) rfl (fun _ => by kernel_rfl)) (fun v_2 w_5 hR_5 => ?_)
 obtain ⟨g_2, rfl, hle_2, hB_3, hb_4⟩ := hR_5
 have ne_1 : g_1 ≠ g_2 := Nat.ne_of_lt (Nat.lt_of_lt_of_le hB_2.lt hle_2)
 have ge_2 : w.heap.size ≤ g_2 := Nat.le_trans HB_1.size hle_2
 replace hB_2 := hB_2.nx hb_4
 have HB_2 := below_from HB_1 hb_4
 iterate 6 refine e1 ?_
 refine k_c Tryz.func97 (Chunk_any 16 _ (by omega)) ?_
 rintro e_3 w_6 ⟨g1, g2, rfl, hle1, hle2, hne12, B1, B2, hb_5⟩
 have ne_4 : g_2 ≠ g1 := Nat.ne_of_lt (Nat.lt_of_lt_of_le hB_3.lt hle1)
 have ne_5 : g_2 ≠ g2 := Nat.ne_of_lt (Nat.lt_of_lt_of_le hB_3.lt hle2)
 obtain ⟨hB_2, hB_3⟩ := nx2 hb_5 hB_2 hB_3
 have HB_3 := below_from HB_2 hb_5
 refine ⟨_, rfl, ?_⟩
 iterate 2 refine e1 ?_
 refine x_range (α := Nat) (encs := fun x => #[.slice ((atA B (16 * x))) (min 16 (k - 16 * x)) (min 16 (k - 16 * x))]) (pe hs rfl rfl) Tryz.func126 (by kernel_rfl) (by kernel_rfl) (chunk_seq (by omega) (by omega) (hb.below HB_3) hk (by omega) B1 B2) keepB_t keepB_b (fun _ => rfl) (fun pre W => (Blk W g_1 (iws .u64 (keyR ks)).toArray 148) ∧ (Blk W g_2 (iws .u64 (tagSt (keyR ks) bs pre)).toArray 150) ∧ Below w.heap.size w W) (fun _ _ _ => False) (fun pre A A' row ⟨BR, BH, HBI⟩ hg hr => ⟨BR.nc hg hr, BH.nc hg hr, below_nc HBI hg hr HB_3.size HBI.size⟩) (fun _ _ _ _ _ h _ _ => h) ?_ (fun x aa W => aa.tmps.size = 45 ∧ aa.defers = [] ∧ aa.eval (.tmp 6) = .pointer (some ⟨g_1, 0, none⟩) ∧ aa.eval (.tmp 7) = .pointer (some ⟨g_2, 0, none⟩) ∧ aa.eval (.tmp 8) = .slice ((atA B (16 * x))) (min 16 (k - 16 * x)) (min 16 (k - 16 * x))) (fun _ _ _ _ _ _ h _ _ => h) ?_ ?_ ?_ (fun _ _ _ _ _ _ h _ => h.elim)
 ·exact ⟨hB_2, hB_3, HB_3⟩
 ·intro pre x W K hI hK
  rw [fold1 _ _ _ _ (fun _ _ => rfl)]
  have hs_1 : (putsR a [(20, .func (.func 126) #[] #[.pointer (some ⟨g1, 0, none⟩), .pointer (some ⟨g2, 0, none⟩)]), (19, .slice B (k) (d)), (7, .pointer (some ⟨g_2, 0, none⟩)), (6, .pointer (some ⟨g_1, 0, none⟩)), (18, .agg (iws .u64 ([(lowN ks 0 8) &&& 1152921487695413247, (lowN ks 8 8) &&& 1152921487695413244])).toArray), (17, .int .u64 (((lowN ks 8 8) &&& 1152921487695413244 : Nat) : Int)), (16, .int .u64 ((lowN ks 8 8 : Nat) : Int)), (15, .slice A (m) (c)), (14, .int .u64 (((lowN ks 0 8) &&& 1152921487695413247 : Nat) : Int)), (13, .int .u64 ((lowN ks 0 8 : Nat) : Int)), (12, .slice A (m) (c)), (11, .bool (false)), (10, .int .i64 ((m : Nat) : Int)), (9, .slice A (m) (c)), (5, .int .i64 ((0 : Nat) : Int)), (4, .slice none (0) (0))]).tmps.size = 45 := by rw [putsR_size]; exact hs
  have u_1 : ({ tmps := (putsR a [(20, .func (.func 126) #[] #[.pointer (some ⟨g1, 0, none⟩), .pointer (some ⟨g2, 0, none⟩)]), (19, .slice B (k) (d)), (7, .pointer (some ⟨g_2, 0, none⟩)), (6, .pointer (some ⟨g_1, 0, none⟩)), (18, .agg (iws .u64 ([(lowN ks 0 8) &&& 1152921487695413247, (lowN ks 8 8) &&& 1152921487695413244])).toArray), (17, .int .u64 (((lowN ks 8 8) &&& 1152921487695413244 : Nat) : Int)), (16, .int .u64 ((lowN ks 8 8 : Nat) : Int)), (15, .slice A (m) (c)), (14, .int .u64 (((lowN ks 0 8) &&& 1152921487695413247 : Nat) : Int)), (13, .int .u64 ((lowN ks 0 8 : Nat) : Int)), (12, .slice A (m) (c)), (11, .bool (false)), (10, .int .i64 ((m : Nat) : Int)), (9, .slice A (m) (c)), (5, .int .i64 ((0 : Nat) : Int)), (4, .slice none (0) (0))]).tmps, defers := [] } : Act).eval (.tmp 6) = .pointer (some ⟨g_1, 0, none⟩) := (pe hs rfl rfl)
  have u_2 : ({ tmps := (putsR a [(20, .func (.func 126) #[] #[.pointer (some ⟨g1, 0, none⟩), .pointer (some ⟨g2, 0, none⟩)]), (19, .slice B (k) (d)), (7, .pointer (some ⟨g_2, 0, none⟩)), (6, .pointer (some ⟨g_1, 0, none⟩)), (18, .agg (iws .u64 ([(lowN ks 0 8) &&& 1152921487695413247, (lowN ks 8 8) &&& 1152921487695413244])).toArray), (17, .int .u64 (((lowN ks 8 8) &&& 1152921487695413244 : Nat) : Int)), (16, .int .u64 ((lowN ks 8 8 : Nat) : Int)), (15, .slice A (m) (c)), (14, .int .u64 (((lowN ks 0 8) &&& 1152921487695413247 : Nat) : Int)), (13, .int .u64 ((lowN ks 0 8 : Nat) : Int)), (12, .slice A (m) (c)), (11, .bool (false)), (10, .int .i64 ((m : Nat) : Int)), (9, .slice A (m) (c)), (5, .int .i64 ((0 : Nat) : Int)), (4, .slice none (0) (0))]).tmps, defers := [] } : Act).eval (.tmp 7) = .pointer (some ⟨g_2, 0, none⟩) := (pe hs rfl rfl)
  obtain ⟨a9, ha9⟩ : ∃ a9 : Act, a9 = { tmps := (putsR a [(20, .func (.func 126) #[] #[.pointer (some ⟨g1, 0, none⟩), .pointer (some ⟨g2, 0, none⟩)]), (19, .slice B (k) (d)), (7, .pointer (some ⟨g_2, 0, none⟩)), (6, .pointer (some ⟨g_1, 0, none⟩)), (18, .agg (iws .u64 ([(lowN ks 0 8) &&& 1152921487695413247, (lowN ks 8 8) &&& 1152921487695413244])).toArray), (17, .int .u64 (((lowN ks 8 8) &&& 1152921487695413244 : Nat) : Int)), (16, .int .u64 ((lowN ks 8 8 : Nat) : Int)), (15, .slice A (m) (c)), (14, .int .u64 (((lowN ks 0 8) &&& 1152921487695413247 : Nat) : Int)), (13, .int .u64 ((lowN ks 0 8 : Nat) : Int)), (12, .slice A (m) (c)), (11, .bool (false)), (10, .int .i64 ((m : Nat) : Int)), (9, .slice A (m) (c)), (5, .int .i64 ((0 : Nat) : Int)), (4, .slice none (0) (0))]).tmps, defers := [] } := ⟨_, rfl⟩
  have hs9 : a9.tmps.size = 45 := by rw [ha9]; exact hs_1
  have hd9 : a9.defers = [] := by rw [ha9]
  rw [← ha9] at u_1 u_2 ⊢
  iterate 2 refine e1 ?_
  refine x_nil ?_
  exact hK _ _ (KeepsFrom.refl _ _) (KeepB.refl _ _) hI ⟨(psz hs9), (pdf hd9), ((pm rfl).trans u_1), ((pm rfl).trans u_2), ev⟩
 ·clear t0 t1 hB_2 hB_3
  rintro pre x a_1 W ⟨BR, BH, HBI⟩ ⟨hs_2, hd_1, ta_1_6, ta_1_7, ta_1_8⟩ hlt
  have KF_1 := KeepsFrom.refl (w_6.heap.size) W
  have KB_1 := KeepB.refl [g1, g2] W
  refine x_bare ?_
  have hcl : (chunkL bs 16 x).length = min 16 (k - 16 * x) := by rw [chunkL_length, hk]
  have hcb := fun (W' : World) (hb' : Below w.heap.size w W') => (hb.below hb').chunk hk 16 x
  have hc8 := chunkL_lt hb.b8 16 x
  refine e1 ?_
  refine y_drawn 5 [iV (.agg (iws .u64 (tagSt (keyR ks) bs pre)).toArray), iV (.slice ((atA B (16 * x))) (min 16 (k - 16 * x)) (min 16 (k - 16 * x))), iV (.agg (iws .u64 (ofN (chunkL bs 16 x))).toArray), iV (.agg (iws .u64 (addN (tagSt (keyR ks) bs pre) (ofN (chunkL bs 16 x)))).toArray), iV (.agg (iws .u64 (keyR ks)).toArray)] [22, 23, 24, 25, 26] hs_2 hd_1 ⟨(step_ok rfl fun a' w' hb' hO hD => oV (o_loadI rfl ed (BH.nx hb') (by rw [(tagSt_ok (keyR ks) hb.b8 pre).1]; exact ⟨by kernel_rfl, by kernel_rfl⟩)) rfl), sx, (step_ok rfl fun a' w' hb' hO hD => oC (vs := #[.slice ((atA B (16 * x))) (min 16 (k - 16 * x)) (min 16 (k - 16 * x))]) Tryz.func132 rfl (args1 ed) (Calls.mono (of_any _ (hcb _ (below_from HBI hb')) hcl (by omega)) (fun e w'' hR => by obtain ⟨rfl, hb_6⟩ := hR; exact ⟨_, rfl, rfl, hb_6⟩))), (step_ok rfl fun a' w' hb' hO hD => oC (vs := #[.agg (iws .u64 (tagSt (keyR ks) bs pre)).toArray, .agg (iws .u64 (ofN (chunkL bs 16 x))).toArray]) Tryz.func131 rfl (args2 ed ed) (Calls.mono (polyadd_any _ (tagSt_ok (keyR ks) hb.b8 pre) (ofN_ok hc8)) (fun e w'' hR => by obtain ⟨rfl, hb_7⟩ := hR; exact ⟨_, rfl, rfl, hb_7⟩))), (step_ok rfl fun a' w' hb' hO hD => oV (o_loadI rfl ed (BR.nx hb') (by rw [(keyR_ok ha.b8).1]; exact ⟨by kernel_rfl, by kernel_rfl⟩)) rfl), trivial⟩ (fun a_2 w_7 hs_3 hd_2 hb_8 hO_1 hV_1 => ?_)
  have ta_2_7 := fK 7 hO_1
  obtain ⟨BR, BH⟩ := nx2 hb_8 BR BH
  have HB_4 := below_from HBI hb_8
  replace KF_1 := kf_grow KF_1 hb_8
  replace KB_1 := KeepB.grow KB_1 hb_8
  have ta_2_25 := fV 25 hV_1
  have ta_2_26 := fV 26 hV_1
  simp only [List.drop_succ_cons, List.drop_zero]
  refine e1 ?_
  refine k_c Tryz.func133 (polyprod_any _ (addN_ok (tagSt_ok (keyR ks) hb.b8 pre) (ofN_ok hc8)) (keyR_ok ha.b8)) ?_
  rintro e_4 w_8 ⟨rfl, hb_10⟩
  obtain ⟨BR, BH⟩ := nx2 hb_10 BR BH
  have HB_5 := below_from HB_4 hb_10
  replace KF_1 := kf_grow KF_1 hb_10
  replace KB_1 := KeepB.grow KB_1 hb_10
  refine ⟨_, rfl, ?_⟩
  refine e1 ?_
  refine k_c Tryz.func130 (folded_any _ (prodN_ok (addN (tagSt (keyR ks) bs pre) (ofN (chunkL bs 16 x))) (keyR ks))) ?_
  rintro e_5 w_9 ⟨rfl, hb_12⟩
  obtain ⟨BR, BH⟩ := nx2 hb_12 BR BH
  have HB_6 := below_from HB_5 hb_12
  replace KF_1 := kf_grow KF_1 hb_12
  replace KB_1 := KeepB.grow KB_1 hb_12
  refine ⟨_, rfl, ?_⟩
  refine q_d (o_storeI rfl ev ev BH (by rw [(foldN_ok (prodN_ok (addN (tagSt (keyR ks) bs pre) (ofN (chunkL bs 16 x))) (keyR ks))).1]; exact ⟨by kernel_rfl, by kernel_rfl⟩) (by rw [iws_length, (tagSt_ok (keyR ks) hb.b8 pre).1]; rw [(foldN_ok (prodN_ok (addN (tagSt (keyR ks) bs pre) (ofN (chunkL bs 16 x))) (keyR ks))).1])) (fun w_10 hR_9 => ?_)
  obtain ⟨hB_4, hX_2⟩ := hR_9
  replace BR := hX_2.blk BR ne_1
  replace KF_1 := kf_store KF_1 BH hX_2
  replace KB_1 := KeepB.store KB_1 hX_2 (by simp only [List.mem_cons, List.not_mem_nil, or_false, not_or]; exact ⟨ne_4, ne_5⟩)
  have HB_7 := hX_2.below HB_6 HB_6.size (fun k hk => hk ▸ ge_2)
  clear BH
  refine e1 ?_
  exact ⟨KF_1, KB_1, BR, (by rw [tagSt_snoc]; exact hB_4), HB_7⟩
 ·clear hB_2 hB_3
  rintro D_1 xs w_11 hle_1 rfl ⟨BR, BH, HBI⟩ hD_1
  replace hD_1 : MarkD w_11 D_1 := hD_1
  iterate 2 refine e1 ?_
  refine x_genD hs hd (fun a_3 hs_4 hd_3 he_1 => ?_)
  have ta_3_0 : a_3.eval (.tmp 0) = .slice A (m) (c) := (he_1 0).trans ((pm rfl).trans t0)
  have ta_3_1 : a_3.eval (.tmp 1) = .slice B (k) (d) := (he_1 1).trans ((pm rfl).trans t1)
  have ta_3_4 : a_3.eval (.tmp 4) = .slice none (0) (0) := (he_1 4).trans (pe hs rfl rfl)
  have ta_3_5 : a_3.eval (.tmp 5) = .int .i64 ((0 : Nat) : Int) := (he_1 5).trans (pe hs rfl rfl)
  have ta_3_9 : a_3.eval (.tmp 9) = .slice A (m) (c) := (he_1 9).trans (pe hs rfl rfl)
  have ta_3_10 : a_3.eval (.tmp 10) = .int .i64 ((m : Nat) : Int) := (he_1 10).trans (pe hs rfl rfl)
  have ta_3_11 : a_3.eval (.tmp 11) = .bool (false) := (he_1 11).trans (pe hs rfl rfl)
  have ta_3_12 : a_3.eval (.tmp 12) = .slice A (m) (c) := (he_1 12).trans (pe hs rfl rfl)
  have ta_3_13 : a_3.eval (.tmp 13) = .int .u64 ((lowN ks 0 8 : Nat) : Int) := (he_1 13).trans (pe hs rfl rfl)
  have ta_3_14 : a_3.eval (.tmp 14) = .int .u64 (((lowN ks 0 8) &&& 1152921487695413247 : Nat) : Int) := (he_1 14).trans (pe hs rfl rfl)
  have ta_3_15 : a_3.eval (.tmp 15) = .slice A (m) (c) := (he_1 15).trans (pe hs rfl rfl)
  have ta_3_16 : a_3.eval (.tmp 16) = .int .u64 ((lowN ks 8 8 : Nat) : Int) := (he_1 16).trans (pe hs rfl rfl)
  have ta_3_17 : a_3.eval (.tmp 17) = .int .u64 (((lowN ks 8 8) &&& 1152921487695413244 : Nat) : Int) := (he_1 17).trans (pe hs rfl rfl)
  have ta_3_18 : a_3.eval (.tmp 18) = .agg (iws .u64 ([(lowN ks 0 8) &&& 1152921487695413247, (lowN ks 8 8) &&& 1152921487695413244])).toArray := (he_1 18).trans (pe hs rfl rfl)
  have ta_3_6 : a_3.eval (.tmp 6) = .pointer (some ⟨g_1, 0, none⟩) := (he_1 6).trans (pe hs rfl rfl)
  have ta_3_7 : a_3.eval (.tmp 7) = .pointer (some ⟨g_2, 0, none⟩) := (he_1 7).trans (pe hs rfl rfl)
  have ta_3_19 : a_3.eval (.tmp 19) = .slice B (k) (d) := (he_1 19).trans (pe hs rfl rfl)
  have ta_3_20 : a_3.eval (.tmp 20) = .func (.func 126) #[] #[.pointer (some ⟨g1, 0, none⟩), .pointer (some ⟨g2, 0, none⟩)] := (he_1 20).trans (pe hs rfl rfl)
  clear he_1
  iterate 2 refine e1 ?_
  refine q_w (o_loadI rfl ev BH (by rw [(tagSt_ok (keyR ks) hb.b8 (List.range ((k + 16 - 1) / 16))).1]; exact ⟨by kernel_rfl, by kernel_rfl⟩)) ?_
  refine e1 ?_
  refine k_c Tryz.func134 (reduced_any _ (tagSt_ok (keyR ks) hb.b8 (List.range ((k + 16 - 1) / 16)))) ?_
  rintro e_6 w_12 ⟨rfl, hb_14⟩
  obtain ⟨BR, BH, hD_1⟩ := nx3 hb_14 BR BH hD_1
  have HB_8 := below_from HBI hb_14
  refine ⟨_, rfl, ?_⟩
  refine e1 ?_
  refine k_c Tryz.func134 (reduced_any _ (redN_ok (tagSt_ok (keyR ks) hb.b8 (List.range ((k + 16 - 1) / 16))))) ?_
  rintro e_7 w_13 ⟨rfl, hb_16⟩
  obtain ⟨BR, BH, hD_1⟩ := nx3 hb_16 BR BH hD_1
  have HB_9 := below_from HB_8 hb_16
  refine ⟨_, rfl, ?_⟩
  iterate 2 refine e1 ?_
  refine k_c Tryz.func119 (Low64_n _ (ha.below HB_9) hm 16 (by omega)) ?_
  rintro e_8 w_14 ⟨rfl, rfl⟩
  refine ⟨_, rfl, ?_⟩
  iterate 2 refine e1 ?_
  refine k_c Tryz.func119 (Low64_n _ (ha.below HB_9) hm 24 (by omega)) ?_
  rintro e_9 w_15 ⟨rfl, rfl⟩
  refine ⟨_, rfl, ?_⟩
  refine q_v _ (.agg (iws .u64 ([lowN ks 16 8, lowN ks 24 8, 0])).toArray) (o_bld rfl (bld2 ev ev) (fun _ => by kernel_rfl)) ?_
  refine e1 ?_
  refine k_c Tryz.func131 (polyadd_any _ (redN_ok (redN_ok (tagSt_ok (keyR ks) hb.b8 (List.range ((k + 16 - 1) / 16))))) (keyS_ok ha.b8)) ?_
  rintro e_10 w_16 ⟨rfl, hb_20⟩
  obtain ⟨BR, BH, hD_1⟩ := nx3 hb_20 BR BH hD_1
  have HB_10 := below_from HB_9 hb_20
  refine ⟨_, rfl, ?_⟩
  refine q_d (o_storeI rfl ev ev BH (by rw [(addN_ok (redN_ok (redN_ok (tagSt_ok (keyR ks) hb.b8 (List.range ((k + 16 - 1) / 16))))) (keyS_ok ha.b8)).1]; exact ⟨by kernel_rfl, by kernel_rfl⟩) (by rw [iws_length, (tagSt_ok (keyR ks) hb.b8 (List.range ((k + 16 - 1) / 16))).1]; rw [(addN_ok (redN_ok (redN_ok (tagSt_ok (keyR ks) hb.b8 (List.range ((k + 16 - 1) / 16))))) (keyS_ok ha.b8)).1])) (fun w_17 hR_15 => ?_)
  obtain ⟨hB_5, hX_3⟩ := hR_15
  replace BR := hX_3.blk BR ne_1
  replace hD_1 := hD_1.keepX BH hX_3
  have HB_11 := hX_3.below HB_10 HB_10.size (fun k hk => hk ▸ ge_2)
  clear BH
  iterate 2 refine e1 ?_
  refine y_drawn 5 [iP g_2 0, iV (.int .u64 (((addN (redN (redN (tagSt (keyR ks) bs (List.range ((k + 16 - 1) / 16))))) ([lowN ks 16 8, lowN ks 24 8, 0])).getD (0) 0 : Nat) : Int)), fun ww vv => OwnN w_17.heap.size (8) (putL ((addN (redN (redN (tagSt (keyR ks) bs (List.range ((k + 16 - 1) / 16))))) ([lowN ks 16 8, lowN ks 24 8, 0])).getD (0) 0) 8) ww vv, iP g_2 1, iV (.int .u64 (((addN (redN (redN (tagSt (keyR ks) bs (List.range ((k + 16 - 1) / 16))))) ([lowN ks 16 8, lowN ks 24 8, 0])).getD (1) 0 : Nat) : Int))] [38, 39, 40, 41, 42] hs_4 hd_3 ⟨(step_ok rfl fun a' w' hb' hO hD => oV (zero_off (o_ixA (k := 0) (i := 0) (n := 3) (e := 38) rfl ed rfl (by omega) (fun _ => by kernel_rfl) (fun _ => by kernel_rfl))) rfl), (step_ok rfl fun a' w' hb' hO hD => oV (o_loadW rfl ed (hB_5.nx hb') (by rw [(addN_ok (redN_ok (redN_ok (tagSt_ok (keyR ks) hb.b8 (List.range ((k + 16 - 1) / 16))))) (keyS_ok ha.b8)).1]; omega) rfl ⟨by kernel_rfl, by kernel_rfl⟩) rfl), (step_ok rfl fun a' w' hb' hO hD => oC (vs := #[.int .u64 (((addN (redN (redN (tagSt (keyR ks) bs (List.range ((k + 16 - 1) / 16))))) ([lowN ks 16 8, lowN ks 24 8, 0])).getD (0) 0 : Nat) : Int)]) Tryz.func62 rfl (args1 ed) (Calls.mono (PutLow64_any ((addN (redN (redN (tagSt (keyR ks) bs (List.range ((k + 16 - 1) / 16))))) ([lowN ks 16 8, lowN ks 24 8, 0])).getD (0) 0) _ (W64.get (addN_ok (redN_ok (redN_ok (tagSt_ok (keyR ks) hb.b8 (List.range ((k + 16 - 1) / 16))))) (keyS_ok ha.b8)) _)) (fun e w'' hR => by obtain ⟨A_1, c_1, rfl, ho_1, hb_21⟩ := hR; exact ⟨_, rfl, ⟨_, _, rfl, ho_1.mono hb'.size⟩, hb_21⟩))), (step_ok rfl fun a' w' hb' hO hD => oV (zero_off (o_ixA (k := 0) (i := 1) (n := 3) (e := 38) rfl ed rfl (by omega) (fun _ => by kernel_rfl) (fun _ => by kernel_rfl))) rfl), (step_ok rfl fun a' w' hb' hO hD => oV (o_loadW rfl ed (hB_5.nx hb') (by rw [(addN_ok (redN_ok (redN_ok (tagSt_ok (keyR ks) hb.b8 (List.range ((k + 16 - 1) / 16))))) (keyS_ok ha.b8)).1]; omega) rfl ⟨by kernel_rfl, by kernel_rfl⟩) rfl), trivial⟩ (fun a_4 w_18 hs_5 hd_4 hb_22 hO_2 hV_2 => ?_)
  obtain ⟨BR, hD_1⟩ := nx2 hb_22 BR hD_1
  have HB_12 := below_from HB_11 hb_22
  have x_1 := hV_2 2 40 rfl rfl
  obtain ⟨A_2, c_2, hv_1, hO_3⟩ := x_1
  replace hO_3 := hO_3.mono HB_11.size
  have ta_4_42 := fV 42 hV_2
  simp only [List.drop_succ_cons, List.drop_zero]
  refine e1 ?_
  refine k_c Tryz.func62 (PutLow64_any ((addN (redN (redN (tagSt (keyR ks) bs (List.range ((k + 16 - 1) / 16))))) ([lowN ks 16 8, lowN ks 24 8, 0])).getD (1) 0) _ (W64.get (addN_ok (redN_ok (redN_ok (tagSt_ok (keyR ks) hb.b8 (List.range ((k + 16 - 1) / 16))))) (keyS_ok ha.b8)) _)) ?_
  rintro e_11 w_19 ⟨A_3, c_3, rfl, ho_2, hb_23⟩
  replace ho_2 := ho_2.mono HB_12.size
  obtain ⟨BR, hD_1, hO_3⟩ := nx3 hb_23 BR hD_1 hO_3
  have HB_13 := below_from HB_12 hb_23
  refine ⟨_, rfl, ?_⟩
  refine q_x (o_append rfl ((pm rfl).trans hv_1) ev hO_3 (ho_2).bs (by rw [putL_length]) (by simp only [putL_length]) (by omega) HB_13.size) (fun v_3 w_20 hR_17 => ?_)
  obtain ⟨A_4, c_4, rfl, ho_3, hb_24, hg_1, hat_1⟩ := hR_17
  replace BR := BR.grown hO_3 hg_1 (by decide)
  replace hD_1 := hD_1.grown hO_3 hg_1
  have HB_14 : Below w.heap.size w w_20 := (HB_13).trans hb_24
  refine e1 ?_
  refine q_as (.int .i64 ((0 : Nat) : Int)) rfl ?_
  iterate 2 refine e1 ?_
  refine retM2 rfl hd_4 hD_1 (pe hs_5 rfl rfl) (pe hs_5 rfl rfl) ?_
  have hg := grownBy_putObj' w_20 D_1 (.deferred none)
  have hr := hD_1.row (B := w.heap.size) (Nat.le_trans (by have := HB_3.size; omega) hle_1)
  refine ⟨A_4, c_4, rfl, ?_, below_nc HB_14 hg hr (Nat.le_refl _) HB_14.size⟩
  have h9 := ho_3.nc hg hr
  unfold tagL tagN
  rw [hk]
  exact h9
end Go.Proofs.YtkhbihnnkflfkaaGreat
