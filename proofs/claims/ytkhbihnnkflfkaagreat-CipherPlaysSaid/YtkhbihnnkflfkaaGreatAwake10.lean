/-
 WALKS: noise.Cipher's Seal, Open (its set stays); sapperlaw10.Key, awake.
-/
import Derived.Test.YtkhbihnnkflfkaaGreatEz
import Derived.Test.YtkhbihnnkflfkaaGreatHand
import Derived.Test.YtkhbihnnkflfkaaGreatHaM
namespace Go.Proofs.YtkhbihnnkflfkaaGreat
open Go.RowKit
set_option maxHeartbeats 8000000
set_option linter.unusedVariables false
set_option linter.unusedSimpArgs false
set_option maxRecDepth 100000
attribute [local irreducible] wpList wpListIn putsR

variable {bs : List Nat} {w0 : World} {st : HS} {A B : Option Addr} {c d p q : Nat}
theorem dhL_comm (a b : List Nat) : dhL a (secN b) = dhL b (secN a) := by unfold dhL; rw [Nat.mul_comm]
theorem openL_outS (S : Sy) (xs : List Nat) : openL S.k (nonceL 0) S.h (outS S xs) = (xs, 0) := openL_sealL ..
theorem key_good (h : ∀ x ∈ bs, x < 256) : ¬ ell ∣ secN (padTo 32 bs) := by
 refine sec_good _ (padTo_length _ _) (fun x hx => ?_)
 unfold padTo at hx
 rcases List.mem_append.1 hx with h1 | h1
 ·exact h x (List.mem_of_mem_take h1)
 ·rw [List.eq_of_mem_replicate h1]
  decide
def TupH (w0 : World) (st : HS) (w : World) (v : Value) : Prop := ∃ (M : Nat → Prop) (g : Nat), v = .tuple #[.pointer (some ⟨g, 0, none⟩), .int .i64 ((0 : Nat) : Int)] ∧ HandAt w M g st ∧ Ge w0 M
theorem stTupH : StP (TupH w0 st) := fun _ _ _ ⟨M, g, hv, h, hg⟩ hb => ⟨M, g, hv, h.nx hb, hg⟩
def PtrH (w0 : World) (st : HS) (w : World) (v : Value) : Prop := ∃ (M : Nat → Prop) (g : Nat), v = .pointer (some ⟨g, 0, none⟩) ∧ HandAt w M g st ∧ Ge w0 M
theorem stPtrH : StP (PtrH w0 st) := fun _ _ _ ⟨M, g, hv, h, hg⟩ hb => ⟨M, g, hv, h.nx hb, hg⟩
theorem Bs.first {w : World} {n : Nat} {xs : List Nat} (h : Bs w A c xs) (hn : n ≤ xs.length) : Bs w (subA A 0 c) c (xs.take n) := by
 have h1 := Bs.sub h (l := 0) (q := n) (m := c) (by omega) (by have := h.le; omega) (Nat.le_refl _)
 rwa [List.drop_zero, Nat.sub_zero, Nat.sub_zero] at h1
theorem Key_any {A0 : Option Addr} {c0 : Nat} (w : World) (h0 : Bs w A0 c0 bs) (hq : bs.length = q) :
  Calls Tryz.prog 8 #[.slice A0 (q) (c0)] w fun e w' => ∃ A c, e = .returned (.slice A 32 c) ∧ Own w' w.heap.size A c (padTo 32 bs) ∧ Below w.heap.size w w' := by
 refine x_enter 9 Tryz.func8 rfl rfl (fun a hs hd ha0 => ?_)
 have t0 := tA 0 ha0
 clear ha0
 iterate 6 refine e1 ?_
 refine q_x (o_make (n := 32) rfl rfl rfl (fun _ => by kernel_rfl) (by omega)) (fun v_1 w_1 hR_1 => ?_)
 obtain ⟨g_1, rfl, ho_1, hb_1⟩ := hR_1
 iterate 6 refine e1 ?_
 refine q_x (o_copy rfl ev ev ho_1 (h0.below hb_1) hq (by omega) (by omega)) (fun v_2 w_2 hR_2 => ?_)
 obtain ⟨r_1, rfl, ho_2, hb_2⟩ := hR_2
 have HB_1 := hb_1.trans hb_2
 iterate 8 refine e1 ?_
 exact ⟨_, _, rfl, ho_2, HB_1⟩
theorem awake10_any (w : World) :
  Calls Tryz.prog 5 #[] w fun e w' => e = .returned (.bool true) ∧ Below w.heap.size w w' := by
 refine x_enter 79 Tryz.func5 rfl rfl (fun a hs hd ha0 => ?_)
 clear ha0
 iterate 6 refine e1 ?_
 refine q_x (o_build1 (m := 7) rfl rfl (by omega)) (fun v_1 w_1 hR_1 => ?_)
 obtain ⟨g_1, rfl, ho_1, hb_1⟩ := hR_1
 refine e1 ?_
 refine k_c Tryz.func8 (Key_any _ (ho_1).bs (by simp only [List.length_cons, List.length_nil])) ?_
 rintro e_1 w_2 ⟨A_1, c_1, rfl, ho_2, hb_2⟩
 replace ho_2 := ho_2.mono hb_1.size
 have HB_1 := below_from hb_1 hb_2
 refine ⟨_, rfl, ?_⟩
 refine e1 ?_
 refine k_c Tryz.func31 (Base_own _ (ho_2).bs (by simp only [padTo_length])) ?_
 rintro e_2 w_3 ⟨A_2, c_2, rfl, ho_3, hb_3⟩
 replace ho_3 := ho_3.mono HB_1.size
 have HB_2 := below_from HB_1 hb_3
 refine ⟨_, rfl, ?_⟩
 iterate 8 refine e1 ?_
 refine q_x (o_build1 (m := 1) rfl rfl (by omega)) (fun v_2 w_4 hR_4 => ?_)
 obtain ⟨g_2, rfl, ho_4, hb_4⟩ := hR_4
 replace ho_4 := ho_4.mono HB_2.size
 replace ho_3 := ho_3.nx hb_4
 have HB_3 := below_from HB_2 hb_4
 refine e1 ?_
 refine k_c Tryz.func8 (Key_any _ (ho_4).bs (by simp only [List.length_cons, List.length_nil])) ?_
 rintro e_3 w_5 ⟨A_3, c_3, rfl, ho_5, hb_5⟩
 replace ho_5 := ho_5.mono HB_3.size
 replace ho_3 := ho_3.nx hb_5
 have HB_4 := below_from HB_3 hb_5
 refine ⟨_, rfl, ?_⟩
 refine e1 ?_
 refine q_x (o_build1 (m := 2) rfl rfl (by omega)) (fun v_3 w_6 hR_6 => ?_)
 obtain ⟨g_3, rfl, ho_6, hb_6⟩ := hR_6
 replace ho_6 := ho_6.mono HB_4.size
 obtain ⟨ho_3, ho_5⟩ := nx2 hb_6 ho_3 ho_5
 have HB_5 := below_from HB_4 hb_6
 refine e1 ?_
 refine k_c Tryz.func8 (Key_any _ (ho_6).bs (by simp only [List.length_cons, List.length_nil])) ?_
 rintro e_4 w_7 ⟨A_4, c_4, rfl, ho_7, hb_7⟩
 replace ho_7 := ho_7.mono HB_5.size
 obtain ⟨ho_3, ho_5⟩ := nx2 hb_7 ho_3 ho_5
 have HB_6 := below_from HB_5 hb_7
 refine ⟨_, rfl, ?_⟩
 refine e1 ?_
 refine k_c Tryz.func18 (Ask_any 1 _ (ho_5).bs (by simp only [padTo_length]) (ho_3).bs (pubL_length _) (ho_7).bs (by simp only [padTo_length]) (by omega)) ?_
 rintro e_5 w_8 ⟨M_1, g_4, rfl, hH_1, hge_1, hb_8⟩
 have gg_1 := hge_1.down HB_6.size
 have HB_7 := below_from HB_6 hb_8
 refine ⟨_, rfl, ?_⟩
 iterate 8 refine e1 ?_
 refine q_x (o_build1 (m := 1) rfl rfl (by omega)) (fun v_4 w_9 hR_9 => ?_)
 obtain ⟨g_5, rfl, ho_8, hb_9⟩ := hR_9
 replace ho_8 := ho_8.mono HB_7.size
 replace hH_1 := hH_1.nx hb_9
 have HB_8 := below_from HB_7 hb_9
 refine e1 ?_
 refine k_c Tryz.func8 (Key_any _ (ho_8).bs (by simp only [List.length_cons, List.length_nil])) ?_
 rintro e_6 w_10 ⟨A_5, c_5, rfl, ho_9, hb_10⟩
 replace ho_9 := ho_9.mono HB_8.size
 replace hH_1 := hH_1.nx hb_10
 have HB_9 := below_from HB_8 hb_10
 refine ⟨_, rfl, ?_⟩
 refine q_x (o_build1 (m := 7) rfl rfl (by omega)) (fun v_5 w_11 hR_11 => ?_)
 obtain ⟨g_6, rfl, ho_10, hb_11⟩ := hR_11
 replace ho_10 := ho_10.mono HB_9.size
 obtain ⟨hH_1, ho_9⟩ := nx2 hb_11 hH_1 ho_9
 have HB_10 := below_from HB_9 hb_11
 refine e1 ?_
 refine k_c Tryz.func8 (Key_any _ (ho_10).bs (by simp only [List.length_cons, List.length_nil])) ?_
 rintro e_7 w_12 ⟨A_6, c_6, rfl, ho_11, hb_12⟩
 replace ho_11 := ho_11.mono HB_10.size
 obtain ⟨hH_1, ho_9⟩ := nx2 hb_12 hH_1 ho_9
 have HB_11 := below_from HB_10 hb_12
 refine ⟨_, rfl, ?_⟩
 refine q_x (o_build1 (m := 3) rfl rfl (by omega)) (fun v_6 w_13 hR_13 => ?_)
 obtain ⟨g_7, rfl, ho_12, hb_13⟩ := hR_13
 replace ho_12 := ho_12.mono HB_11.size
 obtain ⟨hH_1, ho_9, ho_11⟩ := nx3 hb_13 hH_1 ho_9 ho_11
 have HB_12 := below_from HB_11 hb_13
 refine e1 ?_
 refine k_c Tryz.func8 (Key_any _ (ho_12).bs (by simp only [List.length_cons, List.length_nil])) ?_
 rintro e_8 w_14 ⟨A_7, c_7, rfl, ho_13, hb_14⟩
 replace ho_13 := ho_13.mono HB_12.size
 obtain ⟨hH_1, ho_9, ho_11⟩ := nx3 hb_14 hH_1 ho_9 ho_11
 have HB_13 := below_from HB_12 hb_14
 refine ⟨_, rfl, ?_⟩
 refine e1 ?_
 refine k_c Tryz.func20 (Answer_any 1 _ (ho_9).bs (by simp only [padTo_length]) (ho_11).bs (by simp only [padTo_length]) (ho_13).bs (by simp only [padTo_length]) (by omega)) ?_
 rintro e_9 w_15 ⟨M_2, g_8, rfl, hH_2, hge_2, hb_15⟩
 have sp_15 : Sep M_1 M_2 := Sep.new hH_1.lt hge_2
 have gg_2 := hge_2.down HB_13.size
 replace hH_1 := hH_1.nx hb_15
 have HB_14 := below_from HB_13 hb_15
 refine ⟨_, rfl, ?_⟩
 iterate 10 refine e1 ?_
 refine q_v 37 (.bool (false)) (o_eq (o_neq (m := 0) (n := 0) rfl ev rfl) rfl) ?_
 refine e1 ?_
 refine q_g 38 (.int .i64 ((0 : Nat) : Int)) (o_move rfl ev) ?_
 refine q_g 38 (.bool (false)) (o_eq (o_neq (m := 0) (n := 0) rfl ev rfl) rfl) ?_
 refine q_w (o_pickF rfl ev ev) ?_
 refine e1 ?_
 refine q_g 42 (.pointer (some ⟨g_4, 0, none⟩)) (o_move rfl ev) ?_
 refine q_g 42 (.bool (false)) (o_nil (b := false) rfl ev rfl rfl ⟨72, fun _ => by kernel_rfl⟩) ?_
 refine q_w (o_pickF rfl ev ev) ?_
 refine e1 ?_
 refine q_g 46 (.pointer (some ⟨g_8, 0, none⟩)) (o_move rfl ev) ?_
 refine q_g 46 (.bool (false)) (o_nil (b := false) rfl ev rfl rfl ⟨72, fun _ => by kernel_rfl⟩) ?_
 refine q_w (o_pickF rfl ev ev) ?_
 iterate 7 refine e1 ?_
 refine q_x (o_litC (xs := [104, 101, 108, 108, 111]) (vs := #[(0, .int .u8 ((104 : Nat) : Int)), (1, .int .u8 ((101 : Nat) : Int)), (2, .int .u8 ((108 : Nat) : Int)), (3, .int .u8 ((108 : Nat) : Int)), (4, .int .u8 ((111 : Nat) : Int))]) rfl (bldc (fun _ => rfl) _ _ rfl) (fun _ => by kernel_rfl)) (fun v_7 w_16 hR_16 => ?_)
 obtain ⟨rfl, rfl⟩ := hR_16
 refine q_x (o_mark (n := 5) (xs := [104, 101, 108, 108, 111]) rfl ev rfl (by decide) (by omega)) (fun v_8 w_17 hR_17 => ?_)
 obtain ⟨A_8, rfl, hx_7, hb_16⟩ := hR_17
 obtain ⟨hH_1, hH_2⟩ := nx2 hb_16 hH_1 hH_2
 have HB_15 := below_from HB_14 hb_16
 refine e1 ?_
 refine k_c Tryz.func23 (Write_first _ hH_1 hx_7 (by simp only [List.length_cons, List.length_nil]) (by omega) (key_good (by decide)) (pubL_num _)) ?_
 rintro e_10 w_18 ⟨A_9, c_8, rfl, ho_14, ⟨M_3, hH_3, hN_1, hs_1⟩, hX_1⟩
 obtain ⟨S1, hS1⟩ : ∃ q : Sy, q = (firstS (shaL nameS) (shaL (shaL (shaL nameS ++ [1 / 256 % 256, 1 % 256]) ++ (pubL (padTo 32 ([7]))))) (padTo 32 ([1])) (pubL (padTo 32 ([2]))) (dhL (padTo 32 ([2])) ((secN (padTo 32 [7]))))) := ⟨_, rfl⟩
 rw [← hS1] at ho_14 hH_3
 have hl_1 : (pubL (padTo 32 ([2])) ++ outS S1 ([104, 101, 108, 108, 111])).length = 32 + (5 + 16) := by rw [List.length_append, outS_length, pubL_length]; have h9 : ([104, 101, 108, 108, 111] : List Nat).length = 5 := (by simp only [List.length_cons, List.length_nil]); omega
 have sp_36 : Sep M_2 M_3 := hN_1.sep (sp_15.symm) hH_2.lt
 replace hH_2 := hH_2.keepM hX_1 (sp_15.symm)
 replace ho_14 := ho_14.mono HB_15.size
 have HB_16 := hX_1.below HB_15 HB_15.size gg_1
 refine ⟨_, rfl, ?_⟩
 iterate 11 refine e1 ?_
 refine k_c Tryz.func25 (Read_first _ hH_2 (ho_14).bs hl_1 (by omega) (by omega) (pubL_length _) (key_good (by decide)) (pubL_num _) (by rw [dhL_comm (padTo 32 [7]) (padTo 32 [2]), ← hS1]; exact openL_outS S1 _)) ?_
 rintro e_11 w_19 ⟨A_10, c_9, rfl, ho_15, ⟨M_4, hH_4, hN_2, hs_2⟩, hX_2⟩
 rw [dhL_comm (padTo 32 [7]) (padTo 32 [2]), ← hS1] at hH_4
 replace hH_3 := hH_3.keepM hX_2 (sp_36.symm)
 replace ho_15 := ho_15.mono HB_16.size
 have HB_17 := hX_2.below HB_16 HB_16.size gg_2
 refine ⟨_, rfl, ?_⟩
 iterate 9 refine e1 ?_
 refine q_v 64 (.bool (true)) (o_eq (o_eql (m := 0) (n := 0) rfl ev rfl) rfl) ?_
 refine e1 ?_
 refine q_g 65 (.int .i64 ((0 : Nat) : Int)) (o_move rfl ev) ?_
 refine q_g 65 (.bool (true)) (o_eq (o_eql (m := 0) (n := 0) rfl ev rfl) rfl) ?_
 refine q_w (o_pickT rfl ev ev) ?_
 refine e1 ?_
 refine q_g 69 (.slice A_9 (32 + (5 + 16)) (c_8)) (o_move rfl ev) ?_
 refine q_g 69 (.int .i64 ((32 + (5 + 16) : Nat) : Int)) (o_len rfl ev) ?_
 refine q_g 69 (.bool (true)) (o_eq (o_eql (m := (32 + (5 + 16))) (n := 53) rfl ev rfl) (congrArg Value.bool (by decide))) ?_
 refine q_w (o_pickT rfl ev ev) ?_
 refine e1 ?_
 refine q_g 74 (.slice A_10 (([104, 101, 108, 108, 111]).length) (c_9)) (o_move rfl ev) ?_
 refine q_g 74 (.string (strB ([104, 101, 108, 108, 111]))) (o_str rfl ev (ho_15).bs rfl) ?_
 refine q_g 74 (.bool (true)) (o_eqS rfl ev rfl (by decide)) ?_
 refine q_w (o_pickT rfl ev ev) ?_
 iterate 4 refine e1 ?_
 exact ⟨rfl, HB_17⟩
end Go.Proofs.YtkhbihnnkflfkaaGreat
