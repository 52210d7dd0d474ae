/-
 WALKS: package aead.
-/
import Derived.Test.YtodhdajelnfhpaaGreatConcat
import Derived.Test.YtodhdajelnfhpaaGreatTag
import Derived.Test.YtodhdajelnfhpaaGreatEqualW
namespace Go.Proofs.YtodhdajelnfhpaaGreat
open Go.RowKit
set_option linter.unusedVariables false
set_option linter.unusedSimpArgs false
set_option maxRecDepth 100000
attribute [local irreducible] wpList wpListIn putsR

def nonceL (n : Nat) : List Nat := List.replicate 4 0 ++ putL n 8
theorem nonceL_length (n : Nat) : (nonceL n).length = 12 := by simp [nonceL, putL_length]
/-- Bytes, filled up. -/
def fillL (xs : List Nat) : List Nat := xs ++ List.replicate ((16 - xs.length % 16) % 16) 0
theorem fillL_length (xs : List Nat) : (fillL xs).length = xs.length + (16 - xs.length % 16) % 16 := by simp [fillL]
/-- What the tag is of. -/
def macIn (ad sd : List Nat) : List Nat := fillL ad ++ fillL sd ++ putL ad.length 8 ++ putL sd.length 8
def macL (ks ns ad sd : List Nat) : List Nat := tagL ((blockL ks ns 0).take 32) (macIn ad sd)
theorem macL_length (ks ns ad sd : List Nat) : (macL ks ns ad sd).length = 16 := tagL_length _ _
/-- Bytes, sealed. -/
def sealL (ks ns ad bs : List Nat) : List Nat := xorS ks ns 1 bs ++ macL ks ns ad (xorS ks ns 1 bs)
theorem sealL_length (ks ns ad bs : List Nat) : (sealL ks ns ad bs).length = bs.length + 16 := by rw [sealL, List.length_append, xorS_length, macL_length]
theorem Nonce_any (n : Nat) (w : World) (hn : n < 18446744073709551616) :
  Calls Tryz.prog 131 #[.int .u64 ((n : Nat) : Int)] w fun e w' => ∃ A c, e = .returned (.slice A 12 c) ∧ Own w' w.heap.size A c (nonceL n) ∧ Below w.heap.size w w' := by
 refine x_enter 7 Tryz.func131 rfl rfl (fun a hs hd ha0 => ?_)
 have t0 : a.eval (.tmp 0) = .int .u64 ((n : Nat) : Int) := ha0 0 _ rfl
 clear ha0
 refine w2_sr (fun K_1 hK_1 => ?_)
 refine q_as (.slice none (0) (0)) rfl ?_
 refine x_nil (hK_1 _ _ ?_)
 refine w2_seq (fun K_2 hK_2 => ?_)
 refine x_drawn 3 [fun ww vv => OwnN w.heap.size (4) (List.replicate 4 0) ww vv, fun _ v => v = .int .u64 ((n : Nat) : Int), fun ww vv => OwnN w.heap.size (8) (putL n 8) ww vv] [3, 4, 5] hs hd (by kernel_rfl) (by kernel_rfl) (by kernel_rfl) (by kernel_rfl) (by kernel_rfl) ⟨stOwn, stLit, stOwn, trivial⟩ ⟨(step_ok rfl (fun a' w' hb' hO hD => by
   exact out_new (o_make (n := 4) rfl rfl rfl (fun _ => by kernel_rfl) (by omega)) (fun v w_1 hR => by obtain ⟨g_1, rfl, ho_1, hb_1⟩ := hR; exact ⟨⟨_, _, rfl, ho_1.mono hb'.size⟩, hb_1⟩))),
(step_ok rfl (fun a' w' hb' hO hD => by
   have d_1 := (hO 0 (by decide)).trans ((pm rfl).trans t0)
   exact .inl ⟨_, _, (o_move rfl d_1), rfl, Below.refl _ _⟩)),
(step_ok rfl (fun a' w' hb' hO hD => by
   have d_2 : a'.eval (.tmp 4) = .int .u64 ((n : Nat) : Int) := hD 1 4 (by kernel_rfl) rfl
   exact .inr ⟨_, #[.int .u64 ((n : Nat) : Int)], (exec_call Tryz.func125 (by kernel_rfl) (by kernel_rfl) _ rfl _ _ (args1 d_2)), Calls.mono (PutLow64_any n _ (by omega)) (fun e w'' hR => by obtain ⟨A_1, c_1, rfl, ho_2, hb_2⟩ := hR; exact ⟨_, rfl, ⟨_, _, rfl, ho_2.mono hb'.size⟩, hb_2⟩)⟩)), trivial⟩ (fun a_1 w_2 hs_1 hd_1 hb_3 hO_1 hV_1 => ?_)
 clear t0 hd
 have x_1 := hV_1 0 3 rfl rfl
 obtain ⟨A_2, c_2, hv_1, hO_2⟩ := x_1
 have x_2 := hV_1 2 5 rfl rfl
 obtain ⟨A_3, c_3, hv_2, hO_3⟩ := x_2
 clear hV_1 hO_1
 simp only [List.drop_succ_cons, List.drop_zero]
 refine op_ex (d := 6) rfl rfl (o_append rfl ((pm rfl).trans hv_1) ((pm rfl).trans hv_2) hO_2 (hO_3).bs (by rw [List.length_replicate]) (by simp only [putL_length]) (by omega) hb_3.size) (fun v_1 w_3 hR_1 => ?_)
 obtain ⟨A_4, c_4, rfl, ho_3, hb_4, hg_1, hat_1⟩ := hR_1
 have HB_1 : Below w.heap.size w w_3 := (hb_3).trans hb_4
 clear hg_1 hat_1 hO_2
 refine q_at (pe hs_1 rfl rfl) ?_
 refine x_nil (hK_2 _ _ ?_)
 refine w2_ret ?_
 refine ret1 rfl hd_1 (pe hs_1 rfl rfl) ?_
 exact ⟨_, _, rfl, ho_3, HB_1⟩
theorem filled_any {A : Option Addr} {c n : Nat} {xs : List Nat} (w : World) (ha : Bs w A c xs) (hn : xs.length = n) (hl : n ≤ 70368744177664) :
  Calls Tryz.prog 193 #[.slice A (n) (c)] w fun e w' => ∃ A c, e = .returned (.slice A (fillL xs).length c) ∧ Own w' w.heap.size A c (fillL xs) ∧ Below w.heap.size w w' := by
 refine x_enter 11 Tryz.func193 rfl rfl (fun a hs hd ha0 => ?_)
 have t0 : a.eval (.tmp 0) = .slice A (n) (c) := ha0 0 _ rfl
 clear ha0
 refine w2_sr (fun K_1 hK_1 => ?_)
 refine q_as (.slice none (0) (0)) rfl ?_
 refine x_nil (hK_1 _ _ ?_)
 refine w2_sr (fun K_2 hK_2 => ?_)
 refine q_mv ((pm rfl).trans t0) ?_
 refine q_ca (vs := #[.slice A (n) (c)]) Tryz.func42 (args1 (pe hs rfl rfl)) (Clone_any _ ha hn (by omega)) (fun e_1 w_1 hR_1 => ?_)
 obtain ⟨A_1, c_1, rfl, ho_1, hb_1⟩ := hR_1
 refine ⟨_, rfl, ?_⟩
 refine q_mv ((pm rfl).trans t0) ?_
 refine q_v 6 (.int .i64 ((n : Nat) : Int)) (o_len rfl (pe hs rfl rfl)) ?_
 refine q_v 7 (.int .i64 ((n % 16 : Nat) : Int)) (o_rem (m := n) (n := 16) rfl (pe hs rfl rfl) rfl (by omega) (IntWalk.i64_in _ (by omega))) ?_
 refine q_v 8 (.int .i64 ((16 - (n % 16) : Nat) : Int)) (o_sub64 (m := 16) (n := (n % 16)) rfl rfl (pe hs rfl rfl) (by omega) (by omega)) ?_
 refine q_v 9 (.int .i64 (((16 - (n % 16)) % 16 : Nat) : Int)) (o_rem (m := (16 - (n % 16))) (n := 16) rfl (pe hs rfl rfl) rfl (by omega) (IntWalk.i64_in _ (by omega))) ?_
 refine op_ex (d := 10) rfl rfl (o_appendZ (m := (16 - (n % 16)) % 16) rfl (pe hs rfl rfl) (pe hs rfl rfl) ho_1 (by rw [hn]) (by omega) hb_1.size) (fun v_1 w_2 hR_2 => ?_)
 obtain ⟨A_2, c_2, rfl, ho_2, hb_2, hg_1, hat_1⟩ := hR_2
 have HB_1 : Below w.heap.size w w_2 := (hb_1).trans hb_2
 clear hg_1 hat_1 ho_1
 refine q_at (pe hs rfl rfl) ?_
 refine x_nil (hK_2 _ _ ?_)
 refine w2_ret ?_
 refine ret1 rfl hd (pe hs rfl rfl) ?_
 exact ⟨_, _, by rw [fillL_length, hn], (by unfold fillL; rw [hn]; exact ho_2), HB_1⟩
set_option maxHeartbeats 1000000 in
theorem tag_any {A B C E : Option Addr} {c d f g m k p q : Nat} {ks ns zs bs : List Nat} (w : World) (ha : Bs w A c ks) (hb : Bs w B d ns) (hc : Bs w C f zs) (he : Bs w E g bs) (hm : ks.length = m) (hk : ns.length = k) (hp : zs.length = p) (hq : bs.length = q) (hm32 : m = 32) (hk12 : k = 12) (hpl : p ≤ 17592186044416) (hql : q ≤ 17592186044416) :
  Calls Tryz.prog 167 #[.slice A (m) (c), .slice B (k) (d), .slice C (p) (f), .slice E (q) (g)] w fun e w' => ∃ A c, e = .returned (.tuple #[.slice A 16 c, .int .i64 0]) ∧ Own w' w.heap.size A c (macL ks ns zs bs) ∧ Below w.heap.size w w' := by
 refine x_enter 42 Tryz.func167 rfl rfl (fun a hs hd ha0 => ?_)
 have t0 : a.eval (.tmp 0) = .slice A (m) (c) := ha0 0 _ rfl
 have t1 : a.eval (.tmp 1) = .slice B (k) (d) := ha0 1 _ rfl
 have t2 : a.eval (.tmp 2) = .slice C (p) (f) := ha0 2 _ rfl
 have t3 : a.eval (.tmp 3) = .slice E (q) (g) := ha0 3 _ rfl
 clear ha0
 refine w2_sr (fun K_1 hK_1 => ?_)
 refine q_as (.slice none (0) (0)) rfl ?_
 refine q_as (.int .i64 ((0 : Nat) : Int)) rfl ?_
 refine x_nil (hK_1 _ _ ?_)
 refine w2_sr (fun K_2 hK_2 => ?_)
 refine q_mv ((pm rfl).trans t0) ?_
 refine q_mv ((pm rfl).trans t1) ?_
 refine q_ca (vs := #[.slice A (m) (c), .slice B (k) (d), .int .u32 ((0 : Nat) : Int)]) Tryz.func192 (args3 (pe hs rfl rfl) (pe hs rfl rfl) rfl) (Block_full 0 _ ha hb hm hk (by omega) hm32 hk12) (fun e_1 w_1 hR_1 => ?_)
 obtain ⟨A_1, c_1, rfl, ho_1, hb_1⟩ := hR_1
 refine ⟨_, rfl, ?_⟩
 refine q_mv (pe hs rfl rfl) ?_
 refine q_ex (v := .slice A_1 (64) (c_1)) (pe hs rfl rfl) rfl ?_
 refine q_ex (v := .int .i64 ((0 : Nat) : Int)) (pe hs rfl rfl) rfl ?_
 refine q_at (pe hs rfl rfl) ?_
 refine q_at (v := .int .i64 ((0 : Nat) : Int)) (pe hs rfl rfl) ?_
 refine x_nil (hK_2 _ _ ?_)
 refine w2_seq (fun K_3 hK_3 => ?_)
 refine w2_sr (fun K_4 hK_4 => ?_)
 refine q_mv (v := .int .i64 ((0 : Nat) : Int)) (pe hs rfl rfl) ?_
 refine q_v 20 (.bool (false)) (o_eq (o_neq (m := 0) (n := 0) rfl (pe hs rfl rfl) rfl) rfl) ?_
 refine x_nil (hK_4 _ _ ?_)
 refine w2_condF (pe hs rfl rfl) ?_
 refine w2_skip ?_
 refine hK_3 _ _ ?_
 refine w2_seq (fun K_5 hK_5 => ?_)
 have hfa := fillL_length zs
 have hfb := fillL_length bs
 refine x_region (by kernel_rfl) ?_
 refine q_mv ((pm rfl).trans t2) ?_
 refine q_ca (vs := #[.slice C (p) (f)]) Tryz.func193 (args1 (pe hs rfl rfl)) (filled_any _ (hc.below hb_1) hp (by omega)) (fun e_2 w_2 hR_2 => ?_)
 obtain ⟨A_2, c_2, rfl, ho_2, hb_2⟩ := hR_2
 replace ho_2 := ho_2.mono hb_1.size
 replace ho_1 := ho_1.nx hb_2
 have HB_1 := below_from hb_1 hb_2
 refine ⟨_, rfl, ?_⟩
 refine q_mv ((pm rfl).trans t3) ?_
 refine q_ca (vs := #[.slice E (q) (g)]) Tryz.func193 (args1 (pe hs rfl rfl)) (filled_any _ (he.below HB_1) hq (by omega)) (fun e_3 w_3 hR_3 => ?_)
 obtain ⟨A_3, c_3, rfl, ho_3, hb_3⟩ := hR_3
 replace ho_3 := ho_3.mono HB_1.size
 replace ho_1 := ho_1.nx hb_3
 replace ho_2 := ho_2.nx hb_3
 have HB_2 := below_from HB_1 hb_3
 refine ⟨_, rfl, ?_⟩
 refine q_mv ((pm rfl).trans t2) ?_
 refine q_v 27 (.int .i64 ((p : Nat) : Int)) (o_len rfl (pe hs rfl rfl)) ?_
 refine q_v 28 (.int .u64 ((p : Nat) : Int)) (o_conv (m := p) (r := p) rfl (pe hs rfl rfl) ⟨.int .i64, fun _ => by kernel_rfl⟩ (fun _ => by kernel_rfl) (by rw [IntKind.wrap_u64]; omega)) ?_
 refine q_ca (vs := #[.int .u64 ((p : Nat) : Int)]) Tryz.func125 (args1 (pe hs rfl rfl)) (PutLow64_any p _ (by omega)) (fun e_4 w_4 hR_4 => ?_)
 obtain ⟨A_4, c_4, rfl, ho_4, hb_4⟩ := hR_4
 replace ho_4 := ho_4.mono HB_2.size
 replace ho_1 := ho_1.nx hb_4
 replace ho_2 := ho_2.nx hb_4
 replace ho_3 := ho_3.nx hb_4
 have HB_3 := below_from HB_2 hb_4
 refine ⟨_, rfl, ?_⟩
 refine q_mv ((pm rfl).trans t3) ?_
 refine q_v 31 (.int .i64 ((q : Nat) : Int)) (o_len rfl (pe hs rfl rfl)) ?_
 refine q_v 32 (.int .u64 ((q : Nat) : Int)) (o_conv (m := q) (r := q) rfl (pe hs rfl rfl) ⟨.int .i64, fun _ => by kernel_rfl⟩ (fun _ => by kernel_rfl) (by rw [IntKind.wrap_u64]; omega)) ?_
 refine q_ca (vs := #[.int .u64 ((q : Nat) : Int)]) Tryz.func125 (args1 (pe hs rfl rfl)) (PutLow64_any q _ (by omega)) (fun e_5 w_5 hR_5 => ?_)
 obtain ⟨A_5, c_5, rfl, ho_5, hb_5⟩ := hR_5
 replace ho_5 := ho_5.mono HB_3.size
 replace ho_1 := ho_1.nx hb_5
 replace ho_2 := ho_2.nx hb_5
 replace ho_3 := ho_3.nx hb_5
 replace ho_4 := ho_4.nx hb_5
 have HB_4 := below_from HB_3 hb_5
 refine ⟨_, rfl, ?_⟩
 refine op_ex (d := 34) rfl rfl (o_bldS (vs := #[(0, .slice A_2 ((fillL zs).length) (c_2)), (1, .slice A_3 ((fillL bs).length) (c_3)), (2, .slice A_4 (8) (c_4)), (3, .slice A_5 (8) (c_5))]) (cs := #[.slice A_2 ((fillL zs).length) (c_2), .slice A_3 ((fillL bs).length) (c_3), .slice A_4 (8) (c_4), .slice A_5 (8) (c_5)]) (e := 22) rfl (bld4 (pe hs rfl rfl) (pe hs rfl rfl) (pe hs rfl rfl) (pe hs rfl rfl)) (fun _ => by kernel_rfl)) (fun v_1 w_6 hR_6 => ?_)
 obtain ⟨g_1, rfl, hle_1, hB_1, hb_6⟩ := hR_6
 replace ho_1 := ho_1.nx hb_6
 replace ho_2 := ho_2.nx hb_6
 replace ho_3 := ho_3.nx hb_6
 replace ho_4 := ho_4.nx hb_6
 replace ho_5 := ho_5.nx hb_6
 have HB_5 := below_from HB_4 hb_6
 refine q_ca (vs := #[.slice ((some ⟨g_1, 0, none⟩)) (4) (4)]) Tryz.func27 (args1 (pe hs rfl rfl)) (Concat4 _ hB_1 (ho_2).bs rfl (ho_3).bs rfl (ho_4).bs (by simp only [putL_length]) (ho_5).bs (by simp only [putL_length]) (by omega)) (fun e_6 w_7 hR_7 => ?_)
 obtain ⟨A_6, c_6, rfl, ho_6, hb_7⟩ := hR_7
 replace ho_6 := ho_6.mono HB_5.size
 replace ho_1 := ho_1.nx hb_7
 have HB_6 := below_from HB_5 hb_7
 refine ⟨_, rfl, ?_⟩
 refine q_at (pe hs rfl rfl) ?_
 refine x_nil (hK_5 _ _ ?_)
 refine w2_sr (fun K_6 hK_6 => ?_)
 refine q_mv (pe hs rfl rfl) ?_
 have hS_1 := Bs.sub ho_1.bs (l := 0) (q := 32) (m := c_1) (by omega) (by have := ho_1.bs.le; rw [blockL_length] at this; omega) (Nat.le_refl _)
 rw [subA_zero, List.drop_zero, Nat.sub_zero, Nat.sub_zero] at hS_1
 refine q_v 37 (.slice A_1 (32) (c_1)) (o_eq (o_sliceH (h := 32) rfl (pe hs rfl rfl) rfl (by have := ho_1.bs.le; rw [blockL_length] at this; omega)) (by rw [subA_zero])) ?_
 refine q_mv (pe hs rfl rfl) ?_
 refine q_ca (vs := #[.slice A_1 (32) (c_1), .slice A_6 (((fillL zs).length) + ((fillL bs).length) + 8 + 8) (c_6)]) Tryz.func194 (args2 (pe hs rfl rfl) (pe hs rfl rfl)) (Tag_full _ hS_1 (ho_6).bs (by rw [List.length_take, blockL_length]; rfl) (by simp only [List.length_append, putL_length]) rfl (by omega)) (fun e_7 w_8 hR_8 => ?_)
 obtain ⟨A_7, c_7, rfl, ho_7, hb_8⟩ := hR_8
 replace ho_7 := ho_7.mono HB_6.size
 replace hS_1 := hS_1.nx hb_8
 have HB_7 := below_from HB_6 hb_8
 refine ⟨_, rfl, ?_⟩
 refine q_ex (v := .slice A_7 (16) (c_7)) (pe hs rfl rfl) rfl ?_
 refine q_ex (v := .int .i64 ((0 : Nat) : Int)) (pe hs rfl rfl) rfl ?_
 refine q_at (pe hs rfl rfl) ?_
 refine q_at (v := .int .i64 ((0 : Nat) : Int)) (pe hs rfl rfl) ?_
 refine x_nil (hK_6 _ _ ?_)
 refine w2_ret ?_
 refine ret2 rfl hd (pe hs rfl rfl) (pe hs rfl rfl) ?_
 exact ⟨_, _, rfl, (by unfold macL macIn; rw [hp, hq]; exact ho_7), HB_7⟩
set_option maxHeartbeats 1000000 in
theorem Seal_full {A B C E : Option Addr} {c d f g m k p q : Nat} {ks ns zs bs : List Nat} (w : World) (ha : Bs w A c ks) (hb : Bs w B d ns) (hc : Bs w C f zs) (he : Bs w E g bs) (hm : ks.length = m) (hk : ns.length = k) (hp : zs.length = p) (hq : bs.length = q) (hm32 : m = 32) (hk12 : k = 12) (hpl : p ≤ 17592186044416) (hql : q ≤ 17592186044416) :
  Calls Tryz.prog 130 #[.slice A (m) (c), .slice B (k) (d), .slice C (p) (f), .slice E (q) (g)] w fun e w' => ∃ A c, e = .returned (.tuple #[.slice A (q + 16) c, .int .i64 0]) ∧ Own w' w.heap.size A c (sealL ks ns zs bs) ∧ Below w.heap.size w w' := by
 refine x_enter 35 Tryz.func130 rfl rfl (fun a hs hd ha0 => ?_)
 have t0 : a.eval (.tmp 0) = .slice A (m) (c) := ha0 0 _ rfl
 have t1 : a.eval (.tmp 1) = .slice B (k) (d) := ha0 1 _ rfl
 have t2 : a.eval (.tmp 2) = .slice C (p) (f) := ha0 2 _ rfl
 have t3 : a.eval (.tmp 3) = .slice E (q) (g) := ha0 3 _ rfl
 clear ha0
 refine w2_sr (fun K_1 hK_1 => ?_)
 refine q_as (.slice none (0) (0)) rfl ?_
 refine q_as (.int .i64 ((0 : Nat) : Int)) rfl ?_
 refine x_nil (hK_1 _ _ ?_)
 refine w2_sr (fun K_2 hK_2 => ?_)
 refine q_mv ((pm rfl).trans t0) ?_
 refine q_mv ((pm rfl).trans t1) ?_
 refine q_mv ((pm rfl).trans t3) ?_
 refine q_ca (vs := #[.slice A (m) (c), .slice B (k) (d), .int .u32 ((1 : Nat) : Int), .slice E (q) (g)]) Tryz.func166 (args4 (pe hs rfl rfl) (pe hs rfl rfl) rfl (pe hs rfl rfl)) (Xor_full 1 _ ha hb he hm hk hq (by omega) hm32 hk12 (by omega)) (fun e_1 w_1 hR_1 => ?_)
 obtain ⟨A_1, c_1, rfl, ho_1, hb_1⟩ := hR_1
 refine ⟨_, rfl, ?_⟩
 refine q_mv (pe hs rfl rfl) ?_
 refine q_ex (v := .slice A_1 (q) (c_1)) (pe hs rfl rfl) rfl ?_
 refine q_ex (v := .int .i64 ((0 : Nat) : Int)) (pe hs rfl rfl) rfl ?_
 refine q_at (pe hs rfl rfl) ?_
 refine q_at (v := .int .i64 ((0 : Nat) : Int)) (pe hs rfl rfl) ?_
 refine x_nil (hK_2 _ _ ?_)
 refine w2_seq (fun K_3 hK_3 => ?_)
 refine w2_sr (fun K_4 hK_4 => ?_)
 refine q_mv (v := .int .i64 ((0 : Nat) : Int)) (pe hs rfl rfl) ?_
 refine q_v 21 (.bool (false)) (o_eq (o_neq (m := 0) (n := 0) rfl (pe hs rfl rfl) rfl) rfl) ?_
 refine x_nil (hK_4 _ _ ?_)
 refine w2_condF (pe hs rfl rfl) ?_
 refine w2_skip ?_
 refine hK_3 _ _ ?_
 refine w2_sr (fun K_5 hK_5 => ?_)
 refine q_mv ((pm rfl).trans t0) ?_
 refine q_mv ((pm rfl).trans t1) ?_
 refine q_mv ((pm rfl).trans t2) ?_
 refine q_mv (pe hs rfl rfl) ?_
 refine q_ca (vs := #[.slice A (m) (c), .slice B (k) (d), .slice C (p) (f), .slice A_1 (q) (c_1)]) Tryz.func167 (args4 (pe hs rfl rfl) (pe hs rfl rfl) (pe hs rfl rfl) (pe hs rfl rfl)) (tag_any _ (ha.below hb_1) (hb.below hb_1) (hc.below hb_1) (ho_1).bs hm hk hp (by simp only [xorS_length, hq]) hm32 hk12 (by omega) (by omega)) (fun e_2 w_2 hR_2 => ?_)
 obtain ⟨A_2, c_2, rfl, ho_2, hb_2⟩ := hR_2
 replace ho_2 := ho_2.mono hb_1.size
 replace ho_1 := ho_1.nx hb_2
 have HB_1 := below_from hb_1 hb_2
 refine ⟨_, rfl, ?_⟩
 refine q_mv (pe hs rfl rfl) ?_
 refine q_ex (v := .slice A_2 (16) (c_2)) (pe hs rfl rfl) rfl ?_
 refine q_ex (v := .int .i64 ((0 : Nat) : Int)) (pe hs rfl rfl) rfl ?_
 refine q_at (pe hs rfl rfl) ?_
 refine q_at (v := .int .i64 ((0 : Nat) : Int)) (pe hs rfl rfl) ?_
 refine x_nil (hK_5 _ _ ?_)
 refine w2_sr (fun K_6 hK_6 => ?_)
 refine q_mv (pe hs rfl rfl) ?_
 refine q_mv (pe hs rfl rfl) ?_
 refine op_ex (d := 33) rfl rfl (o_append rfl (pe hs rfl rfl) (pe hs rfl rfl) ho_1 (ho_2).bs (by rw [xorS_length, hq]) (by simp only [macL_length]) (by omega) HB_1.size) (fun v_1 w_3 hR_3 => ?_)
 obtain ⟨A_3, c_3, rfl, ho_3, hb_3, hg_1, hat_1⟩ := hR_3
 have HB_2 : Below w.heap.size w w_3 := (HB_1).trans hb_3
 clear hg_1 hat_1 ho_1
 refine q_mv (v := .int .i64 ((0 : Nat) : Int)) (pe hs rfl rfl) ?_
 refine q_at (pe hs rfl rfl) ?_
 refine q_at (v := .int .i64 ((0 : Nat) : Int)) (pe hs rfl rfl) ?_
 refine x_nil (hK_6 _ _ ?_)
 refine w2_ret ?_
 refine ret2 rfl hd (pe hs rfl rfl) (pe hs rfl rfl) ?_
 exact ⟨_, _, rfl, ho_3, HB_2⟩
end Go.Proofs.YtodhdajelnfhpaaGreat
