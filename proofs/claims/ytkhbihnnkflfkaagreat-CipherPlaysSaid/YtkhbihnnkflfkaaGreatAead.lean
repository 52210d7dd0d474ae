/-
 WALKS: package aead.
-/
import Derived.Test.YtkhbihnnkflfkaaGreatEz
import Derived.Test.YtkhbihnnkflfkaaGreatConcat
import Derived.Test.YtkhbihnnkflfkaaGreatTag
import Derived.Test.YtkhbihnnkflfkaaGreatApM
namespace Go.Proofs.YtkhbihnnkflfkaaGreat
open Go.RowKit
set_option maxHeartbeats 8000000
set_option linter.unusedVariables false
set_option linter.unusedSimpArgs false
set_option maxRecDepth 100000
attribute [local irreducible] wpList wpListIn putsR

variable {A B C E : Option Addr} {c d f g k m p q : Nat} {bs ks ns zs : List Nat}
def nonceL (n : Nat) : List Nat := List.replicate 4 0 ++ putL n 8
theorem nonceL_length (n : Nat) : (nonceL n).length = 12 := by simp [nonceL, putL_length]
def fillL (xs : List Nat) : List Nat := xs ++ List.replicate ((16 - xs.length % 16) % 16) 0
theorem fillL_length (xs : List Nat) : (fillL xs).length = xs.length + (16 - xs.length % 16) % 16 := by simp [fillL]
def macIn (ad sd : List Nat) : List Nat := fillL ad ++ fillL sd ++ putL ad.length 8 ++ putL sd.length 8
def macL (ks ns ad sd : List Nat) : List Nat := tagL ((blockL ks ns 0).take 32) (macIn ad sd)
theorem macL_length (ks ns ad sd : List Nat) : (macL ks ns ad sd).length = 16 := tagL_length _ _
def sealL (ks ns ad bs : List Nat) : List Nat := xorS ks ns 1 bs ++ macL ks ns ad (xorS ks ns 1 bs)
theorem sealL_length (ks ns ad bs : List Nat) : (sealL ks ns ad bs).length = bs.length + 16 := by rw [sealL, List.length_append, xorS_length, macL_length]
def openL (ks ns ad bs : List Nat) : List Nat × Nat :=
 if bs.length < 16 then ([], 2) else if macL ks ns ad (bs.take (bs.length - 16)) = bs.drop (bs.length - 16) then (xorS ks ns 1 (bs.take (bs.length - 16)), 0) else ([], 4)
theorem Nonce_any (n : Nat) (w : World) (hn : n < 18446744073709551616) :
  Calls Tryz.prog 35 #[.int .u64 ((n : Nat) : Int)] w fun e w' => ∃ A c, e = .returned (.slice A 12 c) ∧ Own w' w.heap.size A c (nonceL n) ∧ Below w.heap.size w w' := by
 refine x_enter 7 Tryz.func35 rfl rfl (fun a hs hd ha0 => ?_)
 have t0 := tA 0 ha0
 clear ha0
 iterate 5 refine e1 ?_
 refine y_drawn 3 [fun ww vv => OwnN w.heap.size (4) (List.replicate 4 0) ww vv, iI .u64 n, fun ww vv => OwnN w.heap.size (8) (putL n 8) ww vv] [3, 4, 5] hs hd ⟨(step_ok rfl (fun a' w' hb' hO hD => by
   exact out_new (o_make (n := 4) rfl rfl rfl (fun _ => by kernel_rfl) (by omega)) (fun v w_1 hR => by obtain ⟨g_1, rfl, ho_1, hb_1⟩ := hR; exact ⟨⟨_, _, rfl, ho_1.mono hb'.size⟩, hb_1⟩))), sx, (step_ok rfl fun a' w' hb' hO hD => oC (vs := #[.int .u64 ((n : Nat) : Int)]) Tryz.func62 rfl (args1 ed) (Calls.mono (PutLow64_any n _ (by omega)) (fun e w'' hR => by obtain ⟨A_1, c_1, rfl, ho_2, hb_2⟩ := hR; exact ⟨_, rfl, ⟨_, _, rfl, ho_2.mono hb'.size⟩, hb_2⟩))), trivial⟩ (fun a_1 w_2 hs_1 hd_1 hb_3 hO_1 hV_1 => ?_)
 have x_1 := hV_1 0 3 rfl rfl
 obtain ⟨A_2, c_2, hv_1, hO_2⟩ := x_1
 have x_2 := hV_1 2 5 rfl rfl
 obtain ⟨A_3, c_3, hv_2, hO_3⟩ := x_2
 simp only [List.drop_succ_cons, List.drop_zero]
 refine q_x (o_append rfl ((pm rfl).trans hv_1) ((pm rfl).trans hv_2) hO_2 (hO_3).bs (by rw [List.length_replicate]) (by simp only [putL_length]) (by omega) hb_3.size) (fun v_1 w_3 hR_1 => ?_)
 obtain ⟨A_4, c_4, rfl, ho_3, hb_4, hg_1, hat_1⟩ := hR_1
 have HB_1 : Below w.heap.size w w_3 := (hb_3).trans hb_4
 iterate 4 refine e1 ?_
 exact ⟨_, _, rfl, ho_3, HB_1⟩
theorem filled_any {n : Nat} {xs : List Nat} (w : World) (ha : Bs w A c xs) (hn : xs.length = n) (hl : n ≤ 70368744177664) :
  Calls Tryz.prog 101 #[.slice A (n) (c)] w fun e w' => ∃ A c, e = .returned (.slice A (fillL xs).length c) ∧ Own w' w.heap.size A c (fillL xs) ∧ Below w.heap.size w w' := by
 refine x_enter 11 Tryz.func101 rfl rfl (fun a hs hd ha0 => ?_)
 have t0 := tA 0 ha0
 clear ha0
 iterate 8 refine e1 ?_
 refine k_c Tryz.func32 (Clone_any _ ha hn (by omega)) ?_
 rintro e_1 w_1 ⟨A_1, c_1, rfl, ho_1, hb_1⟩
 refine ⟨_, rfl, ?_⟩
 refine e1 ?_
 refine q_w (o_len rfl ev) ?_
 refine q_w (o_rem (n := 16) rfl ev rfl (by omega) (IntWalk.i64_in _ (by omega))) ?_
 refine q_w (o_sub64 (m := 16) rfl rfl ev (by omega) (by omega)) ?_
 refine q_w (o_rem (n := 16) rfl ev rfl (by omega) (IntWalk.i64_in _ (by omega))) ?_
 refine q_x (o_appendZ (m := (16 - (n % 16)) % 16) rfl ev ev ho_1 (by rw [hn]) (by omega) hb_1.size) (fun v_1 w_2 hR_2 => ?_)
 obtain ⟨A_2, c_2, rfl, ho_2, hb_2, hg_1, hat_1⟩ := hR_2
 have HB_1 : Below w.heap.size w w_2 := (hb_1).trans hb_2
 clear hg_1 hat_1 ho_1
 iterate 4 refine e1 ?_
 exact ⟨_, _, by rw [fillL_length, hn], (by unfold fillL; rw [hn]; exact ho_2), HB_1⟩
theorem tag_any (w : World) (ha : Bs w A c ks) (hb : Bs w B d ns) (hc : Bs w C f zs) (he : Bs w E g bs) (hm : ks.length = m) (hk : ns.length = k) (hp : zs.length = p) (hq : bs.length = q) (hm32 : m = 32) (hk12 : k = 12) (hpl : p ≤ 17592186044416) (hql : q ≤ 17592186044416) :
  Calls Tryz.prog 61 #[.slice A (m) (c), .slice B (k) (d), .slice C (p) (f), .slice E (q) (g)] w fun e w' => ∃ A c, e = .returned (.tuple #[.slice A 16 c, .int .i64 0]) ∧ Own w' w.heap.size A c (macL ks ns zs bs) ∧ Below w.heap.size w w' := by
 refine x_enter 42 Tryz.func61 rfl rfl (fun a hs hd ha0 => ?_)
 have t0 := tA 0 ha0
 have t1 := tA 1 ha0
 have t2 := tA 2 ha0
 have t3 := tA 3 ha0
 clear ha0
 iterate 3 refine e1 ?_
 refine q_as (.int .i64 ((0 : Nat) : Int)) rfl ?_
 iterate 6 refine e1 ?_
 refine k_c Tryz.func100 (Block_full 0 _ ha hb hm hk (by omega) hm32 hk12) ?_
 rintro e_1 w_1 ⟨A_1, c_1, rfl, ho_1, hb_1⟩
 refine ⟨_, rfl, ?_⟩
 iterate 10 refine e1 ?_
 refine q_v 20 (.bool (false)) (o_eq (o_neq (m := 0) (n := 0) rfl ev rfl) rfl) ?_
 iterate 5 refine e1 ?_
 have hfa := fillL_length zs
 have hfb := fillL_length bs
 iterate 3 refine e1 ?_
 refine k_c Tryz.func101 (filled_any _ (hc.below hb_1) hp (by omega)) ?_
 rintro e_2 w_2 ⟨A_2, c_2, rfl, ho_2, hb_2⟩
 replace ho_2 := ho_2.mono hb_1.size
 replace ho_1 := ho_1.nx hb_2
 have HB_1 := below_from hb_1 hb_2
 refine ⟨_, rfl, ?_⟩
 iterate 2 refine e1 ?_
 refine k_c Tryz.func101 (filled_any _ (he.below HB_1) hq (by omega)) ?_
 rintro e_3 w_3 ⟨A_3, c_3, rfl, ho_3, hb_3⟩
 replace ho_3 := ho_3.mono HB_1.size
 obtain ⟨ho_1, ho_2⟩ := nx2 hb_3 ho_1 ho_2
 have HB_2 := below_from HB_1 hb_3
 refine ⟨_, rfl, ?_⟩
 refine e1 ?_
 refine q_w (o_len rfl ev) ?_
 refine q_w (o_conv (r := p) rfl ev ⟨.int .i64, fun _ => by kernel_rfl⟩ (fun _ => by kernel_rfl) (by rw [IntKind.wrap_u64]; omega)) ?_
 refine e1 ?_
 refine k_c Tryz.func62 (PutLow64_any p _ (by omega)) ?_
 rintro e_4 w_4 ⟨A_4, c_4, rfl, ho_4, hb_4⟩
 replace ho_4 := ho_4.mono HB_2.size
 obtain ⟨ho_1, ho_2, ho_3⟩ := nx3 hb_4 ho_1 ho_2 ho_3
 have HB_3 := below_from HB_2 hb_4
 refine ⟨_, rfl, ?_⟩
 refine e1 ?_
 refine q_w (o_len rfl ev) ?_
 refine q_w (o_conv (r := q) rfl ev ⟨.int .i64, fun _ => by kernel_rfl⟩ (fun _ => by kernel_rfl) (by rw [IntKind.wrap_u64]; omega)) ?_
 refine e1 ?_
 refine k_c Tryz.func62 (PutLow64_any q _ (by omega)) ?_
 rintro e_5 w_5 ⟨A_5, c_5, rfl, ho_5, hb_5⟩
 replace ho_5 := ho_5.mono HB_3.size
 obtain ⟨ho_1, ho_2, ho_3, ho_4⟩ := nx4 hb_5 ho_1 ho_2 ho_3 ho_4
 have HB_4 := below_from HB_3 hb_5
 refine ⟨_, rfl, ?_⟩
 refine q_x (o_bldS (cs := #[.slice A_2 ((fillL zs).length) (c_2), .slice A_3 ((fillL bs).length) (c_3), .slice A_4 (8) (c_4), .slice A_5 (8) (c_5)]) (e := 22) rfl (bld4 ev ev ev ev) (fun _ => by kernel_rfl)) (fun v_1 w_6 hR_6 => ?_)
 obtain ⟨g_1, rfl, hle_1, hB_1, hb_6⟩ := hR_6
 obtain ⟨ho_1, ho_2, ho_3, ho_4, ho_5⟩ := nx5 hb_6 ho_1 ho_2 ho_3 ho_4 ho_5
 have HB_5 := below_from HB_4 hb_6
 refine e1 ?_
 refine k_c Tryz.func50 (Concat4 _ hB_1 (ho_2).bs rfl (ho_3).bs rfl (ho_4).bs (by simp only [putL_length]) (ho_5).bs (by simp only [putL_length]) (by omega)) ?_
 rintro e_6 w_7 ⟨A_6, c_6, rfl, ho_6, hb_7⟩
 replace ho_6 := ho_6.mono HB_5.size
 replace ho_1 := ho_1.nx hb_7
 have HB_6 := below_from HB_5 hb_7
 refine ⟨_, rfl, ?_⟩
 iterate 5 refine e1 ?_
 have hS_1 := Bs.sub ho_1.bs (l := 0) (q := 32) (m := c_1) (by omega) (by have := ho_1.bs.le; rw [blockL_length] at this; omega) (Nat.le_refl _)
 rw [subA_zero, List.drop_zero, Nat.sub_zero, Nat.sub_zero] at hS_1
 refine q_v 37 (.slice A_1 (32) (c_1)) (o_eq (o_sliceH (h := 32) rfl ev rfl (by have := ho_1.bs.le; rw [blockL_length] at this; omega)) (by rw [subA_zero])) ?_
 iterate 2 refine e1 ?_
 refine k_c Tryz.func102 (Tag_full _ hS_1 (ho_6).bs (by rw [List.length_take, blockL_length]; rfl) (by simp only [List.length_append, putL_length]) rfl (by omega)) ?_
 rintro e_7 w_8 ⟨A_7, c_7, rfl, ho_7, hb_8⟩
 replace ho_7 := ho_7.mono HB_6.size
 replace hS_1 := hS_1.nx hb_8
 have HB_7 := below_from HB_6 hb_8
 refine ⟨_, rfl, ?_⟩
 iterate 7 refine e1 ?_
 exact ⟨_, _, rfl, (by unfold macL macIn; rw [hp, hq]; exact ho_7), HB_7⟩
theorem Seal_full (w : World) (ha : Bs w A c ks) (hb : Bs w B d ns) (hc : Bs w C f zs) (he : Bs w E g bs) (hm : ks.length = m) (hk : ns.length = k) (hp : zs.length = p) (hq : bs.length = q) (hm32 : m = 32) (hk12 : k = 12) (hpl : p ≤ 17592186044416) (hql : q ≤ 17592186044416) :
  Calls Tryz.prog 34 #[.slice A (m) (c), .slice B (k) (d), .slice C (p) (f), .slice E (q) (g)] w fun e w' => ∃ A c, e = .returned (.tuple #[.slice A (q + 16) c, .int .i64 0]) ∧ Own w' w.heap.size A c (sealL ks ns zs bs) ∧ Below w.heap.size w w' := by
 refine x_enter 35 Tryz.func34 rfl rfl (fun a hs hd ha0 => ?_)
 have t0 := tA 0 ha0
 have t1 := tA 1 ha0
 have t2 := tA 2 ha0
 have t3 := tA 3 ha0
 clear ha0
 iterate 3 refine e1 ?_
 refine q_as (.int .i64 ((0 : Nat) : Int)) rfl ?_
 iterate 7 refine e1 ?_
 refine k_c Tryz.func60 (Xor_full 1 _ ha hb he hm hk hq (by omega) hm32 hk12 (by omega)) ?_
 rintro e_1 w_1 ⟨A_1, c_1, rfl, ho_1, hb_1⟩
 refine ⟨_, rfl, ?_⟩
 iterate 10 refine e1 ?_
 refine q_v 21 (.bool (false)) (o_eq (o_neq (m := 0) (n := 0) rfl ev rfl) rfl) ?_
 iterate 11 refine e1 ?_
 refine k_c Tryz.func61 (tag_any _ (ha.below hb_1) (hb.below hb_1) (hc.below hb_1) (ho_1).bs hm hk hp (by simp only [xorS_length, hq]) hm32 hk12 (by omega) (by omega)) ?_
 rintro e_2 w_2 ⟨A_2, c_2, rfl, ho_2, hb_2⟩
 replace ho_2 := ho_2.mono hb_1.size
 replace ho_1 := ho_1.nx hb_2
 have HB_1 := below_from hb_1 hb_2
 refine ⟨_, rfl, ?_⟩
 iterate 10 refine e1 ?_
 refine q_x (o_append rfl ev ev ho_1 (ho_2).bs (by rw [xorS_length, hq]) (by simp only [macL_length]) (by omega) HB_1.size) (fun v_1 w_3 hR_3 => ?_)
 obtain ⟨A_3, c_3, rfl, ho_3, hb_3, hg_1, hat_1⟩ := hR_3
 have HB_2 : Below w.heap.size w w_3 := (HB_1).trans hb_3
 clear hg_1 hat_1 ho_1
 iterate 6 refine e1 ?_
 exact ⟨_, _, rfl, ho_3, HB_2⟩
theorem Open_full (w : World) (ha : Bs w A c ks) (hb : Bs w B d ns) (hc : Bs w C f zs) (he : Bs w E g bs) (hm : ks.length = m) (hk : ns.length = k) (hp : zs.length = p) (hq : bs.length = q) (hm32 : m = 32) (hk12 : k = 12) (hpl : p ≤ 17592186044416) (hql : q ≤ 17592186044416) :
  Calls Tryz.prog 39 #[.slice A (m) (c), .slice B (k) (d), .slice C (p) (f), .slice E (q) (g)] w fun e w' => ∃ A c, e = .returned (.tuple #[.slice A (openL ks ns zs bs).1.length c, .int .i64 (((openL ks ns zs bs).2 : Nat) : Int)]) ∧ Own w' w.heap.size A c (openL ks ns zs bs).1 ∧ Below w.heap.size w w' := by
 have hle := he.le
 have hbn : Bs w (subA E 0 g) g (bs.take (q - 16)) := by
  have h := he.sub (l := 0) (q := q - 16) (m := g) (by omega) (by omega) (Nat.le_refl _)
  simpa using h
 have hbt : Bs w (subA E (q - 16) g) (g - (q - 16)) (bs.drop (q - 16)) := by
  have h := he.sub (l := q - 16) (q := q) (m := g) (by omega) (by omega) (Nat.le_refl _)
  rwa [show (bs.drop (q - 16)).take (q - (q - 16)) = bs.drop (q - 16) from List.take_of_length_le (by rw [List.length_drop]; omega)] at h
 have hnl : (bs.take (q - 16)).length = q - 16 := by rw [List.length_take]; omega
 have htl : (bs.drop (q - 16)).length = q - (q - 16) := by rw [List.length_drop, hq]
 refine x_enter 50 Tryz.func39 rfl rfl (fun a hs hd ha0 => ?_)
 have t0 := tA 0 ha0
 have t1 := tA 1 ha0
 have t2 := tA 2 ha0
 have t3 := tA 3 ha0
 clear ha0
 iterate 3 refine e1 ?_
 refine q_as (.int .i64 ((0 : Nat) : Int)) rfl ?_
 iterate 4 refine e1 ?_
 refine q_w (o_len rfl ev) ?_
 refine q_v 15 (.int .i64 (((q : Nat) : Int) - ((16 : Nat) : Int))) (o_subZ (m := q) (n := 16) rfl ev rfl (by omega) (by omega)) ?_
 refine q_v 16 (.int .i64 ((q - 16 : Nat) : Int)) (o_max0 (m := q) (n := 16) rfl rfl ev) ?_
 iterate 9 refine e1 ?_
 refine q_w (o_sliceH rfl ev ev (by omega)) ?_
 refine e1 ?_
 refine k_c Tryz.func61 (tag_any _ ha hb hc hbn hm hk hp hnl hm32 hk12 (by omega) (by omega)) ?_
 rintro e_1 w_1 ⟨A_1, c_1, rfl, ho_1, hb_1⟩
 refine ⟨_, rfl, ?_⟩
 iterate 11 refine e1 ?_
 refine q_v 29 (.bool (false)) (o_eq (o_neq (m := 0) (n := 0) rfl ev rfl) rfl) ?_
 iterate 6 refine e1 ?_
 refine q_w (o_len rfl ev) ?_
 refine q_w (o_lss (n := 16) rfl ev rfl) ?_
 iterate 2 refine e1 ?_
 refine w2_split (pe hs rfl rfl) (fun h_1 => ?_) (fun h_1 => ?_)
 ·simp only [DD9] at h_1
  have ho : openL ks ns zs bs = ([], 2) := if_pos (by omega)
  iterate 3 refine e1 ?_
  refine q_as (.int .i64 ((2 : Nat) : Int)) rfl ?_
  iterate 5 refine e1 ?_
  exact ⟨none, 0, by rw [ho]; rfl, by rw [ho]; exact Own.nil _ _, hb_1⟩
 ·simp only [DD9] at h_1
  iterate 5 refine e1 ?_
  refine q_w (o_sliceL rfl ev ev (by omega)) ?_
  refine e1 ?_
  refine k_c Tryz.func68 (WEqual_any _ (ho_1).bs (hbt.below hb_1) (by simp only [macL_length]) htl) ?_
  rintro e_2 w_2 ⟨rfl, hb_3⟩
  have HB_1 := below_from hb_1 hb_3
  refine ⟨_, rfl, ?_⟩
  refine q_v 41 (.bool (!(decide (macL ks ns zs (bs.take (q - 16)) = bs.drop (q - 16))))) (o_not (b := decide (macL ks ns zs (bs.take (q - 16)) = bs.drop (q - 16))) rfl ev) ?_
  iterate 2 refine e1 ?_
  refine w2_split (pe hs rfl rfl) (fun h_2 => ?_) (fun h_2 => ?_)
  ·simp only [DD9] at h_2
   have ho : openL ks ns zs bs = ([], 4) := by
    unfold openL; rw [if_neg (by omega), if_neg (by rw [hq]; exact h_2)]
   iterate 3 refine e1 ?_
   refine q_as (.int .i64 ((4 : Nat) : Int)) rfl ?_
   iterate 5 refine e1 ?_
   exact ⟨none, 0, by rw [ho]; rfl, by rw [ho]; exact Own.nil _ _, HB_1⟩
  ·simp only [DD9] at h_2
   have ho : openL ks ns zs bs = (xorS ks ns 1 (bs.take (q - 16)), 0) := by
    unfold openL; rw [if_neg (by omega), hq, if_pos h_2]
   iterate 9 refine e1 ?_
   refine q_w (o_sliceH rfl ev ev (by omega)) ?_
   refine e1 ?_
   refine k_c Tryz.func60 (Xor_full 1 _ (ha.below HB_1) (hb.below HB_1) (hbn.below HB_1) hm hk hnl (by omega) hm32 hk12 (by omega)) ?_
   rintro e_3 w_3 ⟨A_2, c_2, rfl, ho_2, hb_4⟩
   replace ho_2 := ho_2.mono HB_1.size
   have HB_2 := below_from HB_1 hb_4
   refine ⟨_, rfl, ?_⟩
   iterate 7 refine e1 ?_
   exact ⟨_, _, by rw [ho, xorS_length, List.length_take, hq, Nat.min_eq_left (by omega)] <;> rfl, by rw [ho]; exact ho_2, HB_2⟩
end Go.Proofs.YtkhbihnnkflfkaaGreat
