/-
 WALKS: noise.Hand: Write, Read, Split, Hash.
-/
import Derived.Test.YtkhbihnnkflfkaaGreatEz
import Derived.Test.YtkhbihnnkflfkaaGreatKeys
namespace Go.Proofs.YtkhbihnnkflfkaaGreat
open Go.RowKit
set_option maxHeartbeats 8000000
set_option linter.unusedVariables false
set_option linter.unusedSimpArgs false
set_option maxRecDepth 100000
attribute [local irreducible] wpList wpListIn putsR

variable {w w' : World} {c c0 g gc gw n q : Nat} {A A0 : Option Addr} {bs ck hh k ks ot psk pu rest st xs ys : List Nat} {cur : Array Value} {T : TypeId} {M N : Nat → Prop} {asks sent : Bool} {s : HS}
theorem Own.keep2 {B : Nat} (h : Own w B A c xs) (hB : Blk w gw cur T) (hT : T ≠ 5) (hC : CipherAt w N gc k n) (hb : BelowX (fun j => j = gw ∨ j = gc) w w') : Own w' B A c xs := by
 obtain ⟨cu, hc⟩ := hC.blk
 exact h.keepM hb (fun j hj e => e.elim (fun e => h.sepB hB hT (e ▸ hj)) (fun e => h.sepB hc (by decide) (e ▸ hj)))
theorem Wt.keep2 (h : Wt w A c xs) (hB : Blk w gw cur T) (hT : T ≠ 5) (hC : CipherAt w N gc k n) (hb : BelowX (fun j => j = gw ∨ j = gc) w w') : Wt w' A c xs := by
 obtain ⟨cu, hc⟩ := hC.blk
 exact h.keep (hb.kept h.lt (fun j hj e => e.elim (fun e => h.sepB hB hT (e ▸ hj)) (fun e => h.sepB hc (by decide) (e ▸ hj))))
def outS (S : Sy) (xs : List Nat) : List Nat := sealL S.k (nonceL 0) S.h xs
theorem outS_length (S : Sy) (xs : List Nat) : (outS S xs).length = xs.length + 16 := sealL_length ..
theorem Write_first (w : World) (hH : HandAt w M g ⟨ck, hh, psk, ks, pu, st, ot, true, false, 0⟩) (h0 : Bs w A0 c0 bs) (hq : bs.length = q) (hl : q ≤ 4096) (hn9 : ¬ ell ∣ n) (hu9 : numL st = plN n) :
  Calls Tryz.prog 23 #[.pointer (some ⟨g, 0, none⟩), .slice A0 (q) (c0)] w fun e w' => ∃ A c, e = .returned (.tuple #[.slice A (32 + (q + 16)) c, .int .i64 0]) ∧ Own w' w.heap.size A c (pu ++ outS (firstS ck hh psk pu (dhL ks n)) bs) ∧ (∃ M', HandAt w' M' g ⟨(firstS ck hh psk pu (dhL ks n)).ck, shaL ((firstS ck hh psk pu (dhL ks n)).h ++ outS (firstS ck hh psk pu (dhL ks n)) bs), psk, ks, pu, st, ot, true, true, 1⟩ ∧ NextM w M M' ∧ Sep (blkA A) M') ∧ BelowX M w w' := by
 obtain ⟨hlt9, ⟨l_ck, l_h, l_psk, l_own, l_pub, l_stc⟩, A_c, c_c, A_h, c_h, v_2, A_p, c_p, A_o, c_o, A_u, c_u, A_z, c_z, A_t, c_t, hB9, hMg9, ⟨w_c, m_c⟩, ⟨w_h, m_h⟩, ⟨w_p, m_p⟩, ⟨w_o, m_o⟩, ⟨w_u, m_u⟩, ⟨w_z, m_z⟩, ⟨w_t, m_t⟩⟩ := hH
 dsimp only at l_ck l_h l_psk l_own l_pub l_stc hB9 w_c w_h w_p w_o w_u w_z w_t
 have hSck : (firstS ck hh psk pu (dhL ks n)).ck.length = 32 := chT_length _ _
 have hSh : (firstS ck hh psk pu (dhL ks n)).h.length = 32 := shaL_length _
 refine x_enter 44 Tryz.func23 rfl rfl (fun a hs hd ha0 => ?_)
 have t0 := tA 0 ha0
 have t1 := tA 1 ha0
 clear ha0
 have HB0 : BelowX (fun k => k = g) w w := BelowX.refl _ _
 iterate 3 refine e1 ?_
 refine q_as (.int .i64 ((0 : Nat) : Int)) rfl ?_
 iterate 6 refine e1 ?_
 refine k_c Tryz.func46 (ready_ok _ hB9 (by decide)) ?_
 rintro e_1 w_1 ⟨rfl, rfl⟩
 refine ⟨_, rfl, ?_⟩
 iterate 5 refine e1 ?_
 refine q_v 12 (.bool (false)) (o_eq (o_neq (m := 0) (n := 0) rfl ev rfl) rfl) ?_
 iterate 8 refine e1 ?_
 refine q_w (o_len rfl ev) ?_
 refine q_v 16 (.bool (false)) (o_eq (o_gtr (m := q) (n := 4096) rfl ev rfl) (by rw [decide_eq_false (by omega)])) ?_
 iterate 13 refine e1 ?_
 refine q_fb 8 ?_
 refine q_ld (v := .slice A_u (32) (c_u)) (pe hs rfl rfl) hB9 rfl ?_
 refine e1 ?_
 refine k_c Tryz.func47 (keys_a _ hB9 w_c (by simp only [l_ck]) w_h (by simp only [l_h]) w_p (by simp only [l_psk]) w_o (by simp only [l_own]) w_z (by simp only [l_stc]) w_u (by simp only [l_pub]) hn9 hu9) ?_
 rintro e_2 w_2 ⟨A_1, c_1, A_2, c_2, N_1, gc_1, rfl, hB_1, ho_1, ho_2, hC_1, hge_1, hX_1⟩
 have hn_1 : ¬ N_1 g := fun h => absurd hB9.lt (Nat.not_lt.2 (hge_1 _ h))
 have gg_1 := hge_1.down HB0.size
 replace ho_1 := ho_1.mono HB0.size
 replace ho_2 := ho_2.mono HB0.size
 obtain ⟨w_p, w_o, w_u, w_z, w_t⟩ := kx5 hX_1 w_p w_o w_u w_z w_t
 replace h0 := h0.keepH hB9 (by intro z; simp) hX_1
 have HB_1 := HB0.step hX_1 (fun k hk (hY : k = g) => hY)
 refine ⟨_, rfl, ?_⟩
 iterate 6 refine e1 ?_
 refine q_v 24 (.bool (true)) (o_eq (o_eql (m := 0) (n := 0) rfl ev rfl) rfl) ?_
 iterate 6 refine e1 ?_
 refine k_c Tryz.func48 (seal_any _ hB_1 (ho_2).wt hSh hC_1 hn_1 h0 hq (by omega)) ?_
 rintro e_3 w_3 ⟨A_3, c_3, A_4, c_4, rfl, hB_2, ho_3, ho_4, hX_2⟩
 have hl_1 : (sealL ((firstS ck hh psk pu (dhL ks n)).k) (nonceL 0) ((firstS ck hh psk pu (dhL ks n)).h) bs).length = q + 16 := by rw [sealL_length]; have h9 : (bs).length = q := hq; omega
 replace ho_3 := ho_3.mono HB_1.size
 replace ho_4 := ho_4.mono HB_1.size
 replace w_p := w_p.keep2 hB_1 (by decide) hC_1 hX_2
 replace w_o := w_o.keep2 hB_1 (by decide) hC_1 hX_2
 replace w_u := w_u.keep2 hB_1 (by decide) hC_1 hX_2
 replace w_z := w_z.keep2 hB_1 (by decide) hC_1 hX_2
 replace w_t := w_t.keep2 hB_1 (by decide) hC_1 hX_2
 replace ho_1 := ho_1.keep2 hB_1 (by decide) hC_1 hX_2
 have HB_2 := HB_1.step hX_2 (fun k hk hY => hY.elim id (fun hY => absurd hk (Nat.not_lt.2 (by rw [hY]; exact gg_1 _ hC_1.mem))))
 refine ⟨_, rfl, ?_⟩
 iterate 11 refine e1 ?_
 refine k_c Tryz.func49 (done_first (en := 0) _ hB_2) ?_
 rintro e_4 w_4 ⟨rfl, hB_3, hX_3⟩
 obtain ⟨w_p, w_o, w_u, w_z, w_t, ho_1, ho_3, ho_4⟩ := kx8 hX_3 w_p w_o w_u w_z w_t ho_1 ho_3 ho_4
 have HB_3 := HB_2.step hX_3 (fun k hk (hY : k = g) => hY)
 refine ⟨_, rfl, ?_⟩
 iterate 5 refine e1 ?_
 refine q_v 35 (.bool (false)) (o_eq (o_neq (m := 0) (n := 0) rfl ev rfl) rfl) ?_
 iterate 8 refine e1 ?_
 refine q_fb 8 ?_
 refine q_ld (v := .slice A_u (32) (c_u)) (pe hs rfl rfl) hB_3 rfl ?_
 refine e1 ?_
 refine q_x (o_bldS (cs := #[.slice A_u (32) (c_u), .slice A_3 (q + 16) (c_3)]) (e := 22) rfl (bld2 ev ev) (fun _ => by kernel_rfl)) (fun v_1 w_5 hR_5 => ?_)
 obtain ⟨g_1, rfl, hle_1, hB_4, hb_2⟩ := hR_5
 obtain ⟨w_p, w_o, w_u, w_z, w_t⟩ := nx5 hb_2 w_p w_o w_u w_z w_t
 obtain ⟨ho_1, ho_3, ho_4, hB_3⟩ := nx4 hb_2 ho_1 ho_3 ho_4 hB_3
 have HB_4 := HB_3.then hb_2
 refine e1 ?_
 refine k_c Tryz.func50 (Concat2 _ hB_4 (w_u).bs (by simp only [l_pub]) (ho_3).bs hl_1 (by omega)) (fun e_5 w_6 hR_6 => ?_)
 have lt_1 := ho_1.lt
 have lt_4 := ho_4.lt
 obtain ⟨A_5, c_5, rfl, ho_5, hb_3⟩ := hR_6
 have gz_1 := ho_5.ge'
 replace ho_5 := ho_5.mono HB_4.size
 obtain ⟨w_p, w_o, w_u, w_z, w_t, ho_1, ho_4, hB_3⟩ := nx8 hb_3 w_p w_o w_u w_z w_t ho_1 ho_4 hB_3
 have HB_5 := HB_4.then hb_3
 have sp_1 : Sep (blkA A_5) (blkA A_1) := (Sep.new lt_1 gz_1).symm
 have sp_4 : Sep (blkA A_5) (blkA A_4) := (Sep.new lt_4 gz_1).symm
 refine ⟨_, rfl, ?_⟩
 refine e1 ?_
 refine q_as (.int .i64 ((0 : Nat) : Int)) rfl ?_
 iterate 3 refine e1 ?_
 exact ⟨_, _, rfl, ho_5, ⟨fun j => M j ∨ blkA A_1 j ∨ blkA A_4 j, ⟨fun j hj => hj.elim (fun h => Nat.lt_of_lt_of_le (hlt9 j h) HB_5.size) (fun h => h.elim (ho_1.lt j) (ho_4.lt j)), ⟨hSck, (shaL_length _), (by simp only [l_psk]), (by simp only [l_own]), (by simp only [l_pub]), (by simp only [l_stc])⟩, A_1, c_1, A_4, c_4, (some ⟨gc_1, 0, none⟩), A_p, c_p, A_o, c_o, A_u, c_u, A_z, c_z, A_t, c_t, hB_3, .inl hMg9, ⟨ho_1.wt, fun j hj => .inr (.inl hj)⟩, ⟨ho_4.wt, fun j hj => .inr (.inr hj)⟩, ⟨w_p, fun j hj => .inl (m_p j hj)⟩, ⟨w_o, fun j hj => .inl (m_o j hj)⟩, ⟨w_u, fun j hj => .inl (m_u j hj)⟩, ⟨w_z, fun j hj => .inl (m_z j hj)⟩, ⟨w_t, fun j hj => .inl (m_t j hj)⟩⟩, fun j hj => hj.imp id (fun h => h.elim (ho_1.ge' j) (ho_4.ge' j)), fun j hj hm => hm.elim (fun h => absurd (hlt9 j h) (Nat.not_lt.2 (ho_5.ge' j hj))) (fun h => h.elim (sp_1 j hj) (sp_4 j hj))⟩, HB_5.mono (fun k _ hk => by rw [hk]; exact hMg9)⟩
theorem Bs.firstH (h : Bs w A c (xs ++ rest)) (hn : xs.length = 32) : Bs w (subA A 0 c) c xs := by
 have h1 := Bs.sub h (l := 0) (q := 32) (m := c) (by omega) (by have := h.le; rw [List.length_append] at this; omega) (Nat.le_refl _)
 rw [List.drop_zero, Nat.sub_zero, Nat.sub_zero, List.take_left' hn] at h1
 exact h1
theorem Bs.restH (h : Bs w A c (xs ++ rest)) (hn : xs.length = 32) (hq : (xs ++ rest).length = q) : Bs w (subA A 32 c) (c - 32) rest := by
 have hl := h.le
 have h1 := Bs.sub h (l := 32) (q := q) (m := c) (by rw [List.length_append] at hq; omega) (by omega) (Nat.le_refl _)
 rw [List.drop_left' hn, List.take_of_length_le (by rw [List.length_append] at hq; omega)] at h1
 exact h1
theorem Read_first (w : World) (hH : HandAt w M g ⟨ck, hh, psk, ks, pu, st, ot, false, false, 1⟩) (h0 : Bs w A0 c0 (xs ++ rest)) (hq : (xs ++ rest).length = q) (hl0 : 48 ≤ q) (hl : q ≤ 4144) (hxl : xs.length = 32) (hn9 : ¬ ell ∣ n) (hu9 : numL xs = plN n) (hr9 : openL (firstS ck hh psk xs (dhL st n)).k (nonceL 0) (firstS ck hh psk xs (dhL st n)).h rest = (ys, 0)) :
  Calls Tryz.prog 25 #[.pointer (some ⟨g, 0, none⟩), .slice A0 (q) (c0)] w fun e w' => ∃ A c, e = .returned (.tuple #[.slice A ys.length c, .int .i64 0]) ∧ Own w' w.heap.size A c ys ∧ (∃ M', HandAt w' M' g ⟨(firstS ck hh psk xs (dhL st n)).ck, shaL ((firstS ck hh psk xs (dhL st n)).h ++ rest), psk, ks, pu, st, xs, false, true, 0⟩ ∧ NextM w M M' ∧ Sep (blkA A) M') ∧ BelowX M w w' := by
 obtain ⟨hlt9, ⟨l_ck, l_h, l_psk, l_own, l_pub, l_stc⟩, A_c, c_c, A_h, c_h, v_2, A_p, c_p, A_o, c_o, A_u, c_u, A_z, c_z, A_t, c_t, hB9, hMg9, ⟨w_c, m_c⟩, ⟨w_h, m_h⟩, ⟨w_p, m_p⟩, ⟨w_o, m_o⟩, ⟨w_u, m_u⟩, ⟨w_z, m_z⟩, ⟨w_t, m_t⟩⟩ := hH
 dsimp only at l_ck l_h l_psk l_own l_pub l_stc hB9 w_c w_h w_p w_o w_u w_z w_t
 have hSck : (firstS ck hh psk xs (dhL st n)).ck.length = 32 := chT_length _ _
 have hSh : (firstS ck hh psk xs (dhL st n)).h.length = 32 := shaL_length _
 have hS1 := h0.firstH hxl
 have hS2 := h0.restH hxl hq
 have hcl := h0.le
 have hrl : rest.length = q - 32 := by rw [List.length_append] at hq; omega
 refine x_enter 48 Tryz.func25 rfl rfl (fun a hs hd ha0 => ?_)
 have t0 := tA 0 ha0
 have t1 := tA 1 ha0
 clear ha0
 have HB0 : BelowX (fun k => k = g) w w := BelowX.refl _ _
 iterate 3 refine e1 ?_
 refine q_as (.int .i64 ((0 : Nat) : Int)) rfl ?_
 iterate 6 refine e1 ?_
 refine k_c Tryz.func46 (ready_ok _ hB9 (by decide)) ?_
 rintro e_1 w_1 ⟨rfl, rfl⟩
 refine ⟨_, rfl, ?_⟩
 iterate 5 refine e1 ?_
 refine q_v 12 (.bool (false)) (o_eq (o_neq (m := 0) (n := 0) rfl ev rfl) rfl) ?_
 iterate 9 refine e1 ?_
 refine q_w (o_len rfl ev) ?_
 refine q_v 17 (.bool (false)) (o_eq (o_lss (m := q) (n := 48) rfl ev rfl) (by rw [decide_eq_false (by omega)])) ?_
 iterate 6 refine e1 ?_
 refine q_w (o_len rfl ev) ?_
 refine q_v 21 (.bool (false)) (o_eq (o_gtr (m := q) (n := 4144) rfl ev rfl) (by rw [decide_eq_false (by omega)])) ?_
 iterate 10 refine e1 ?_
 refine q_w (o_sliceH (h := 32) rfl ev rfl (by omega)) ?_
 refine e1 ?_
 refine k_c Tryz.func32 (Clone_any _ hS1 hxl (by omega)) ?_
 rintro e_2 w_2 ⟨A_1, c_1, rfl, ho_1, hb_2⟩
 replace ho_1 := ho_1.mono HB0.size
 obtain ⟨hB9, w_c, w_h, w_p, w_o, w_u, w_z, hS1⟩ := nx8 hb_2 hB9 w_c w_h w_p w_o w_u w_z hS1
 obtain ⟨hS2, h0⟩ := nx2 hb_2 hS2 h0
 have HB_1 := HB0.then hb_2
 refine ⟨_, rfl, ?_⟩
 refine e1 ?_
 refine q_fb 10 ?_
 refine q_d (o_store1 rfl ev ev rfl rfl hB9 (by simp only [List.length_cons, List.length_nil]; omega) ⟨by kernel_rfl, by kernel_rfl⟩) (fun w_3 hR_3 => ?_)
 obtain ⟨hB_1, hX_1⟩ := hR_3
 obtain ⟨w_c, w_h, w_p, w_o, w_u, w_z⟩ := kx6 hX_1 w_c w_h w_p w_o w_u w_z
 replace hS1 := hS1.keepH hB9 (by intro z; simp) hX_1
 replace hS2 := hS2.keepH hB9 (by intro z; simp) hX_1
 replace h0 := h0.keepH hB9 (by intro z; simp) hX_1
 replace ho_1 := ho_1.keepX hB9 (by decide) hX_1
 have HB_2 := HB_1.step hX_1 (fun k hk (hY : k = g) => hY)
 simp only [List.set_cons_zero, List.set_cons_succ] at hB_1
 iterate 10 refine e1 ?_
 refine q_fb 10 ?_
 refine q_ld (v := .slice A_1 (32) (c_1)) (pe hs rfl rfl) hB_1 rfl ?_
 refine e1 ?_
 refine k_c Tryz.func47 (keys_b _ hB_1 w_c (by simp only [l_ck]) w_h (by simp only [l_h]) w_p (by simp only [l_psk]) w_z (by simp only [l_stc]) (ho_1).wt hxl (ho_1).wt hxl hn9 hu9) ?_
 rintro e_3 w_4 ⟨A_2, c_2, A_3, c_3, N_1, gc_1, rfl, hB_2, ho_2, ho_3, hC_1, hge_1, hX_2⟩
 have hn_1 : ¬ N_1 g := fun h => absurd hB_1.lt (Nat.not_lt.2 (hge_1 _ h))
 have gg_1 := hge_1.down HB_2.size
 replace ho_2 := ho_2.mono HB_2.size
 replace ho_3 := ho_3.mono HB_2.size
 obtain ⟨w_p, w_o, w_u, w_z⟩ := kx4 hX_2 w_p w_o w_u w_z
 replace hS1 := hS1.keepH hB_1 (by intro z; simp) hX_2
 replace hS2 := hS2.keepH hB_1 (by intro z; simp) hX_2
 replace h0 := h0.keepH hB_1 (by intro z; simp) hX_2
 replace ho_1 := ho_1.keepX hB_1 (by decide) hX_2
 have HB_3 := HB_2.step hX_2 (fun k hk (hY : k = g) => hY)
 refine ⟨_, rfl, ?_⟩
 iterate 6 refine e1 ?_
 refine q_v 35 (.bool (true)) (o_eq (o_eql (m := 0) (n := 0) rfl ev rfl) rfl) ?_
 iterate 5 refine e1 ?_
 refine q_w (o_sliceL (l := 32) rfl ev rfl (by omega)) ?_
 refine e1 ?_
 refine k_c Tryz.func56 (open_ok (r := 0) _ hB_2 (ho_3).wt hSh hC_1 hn_1 hS2 hrl (by omega) hr9 rfl) ?_
 rintro e_4 w_5 ⟨A_4, c_4, A_5, c_5, rfl, hB_3, ho_4, ho_5, spx_1, hX_3⟩
 have sp_1 : Sep (blkA A_4) (blkA A_1) := (Sep.new ho_1.lt ho_4.ge').symm
 have sp_2 : Sep (blkA A_4) (blkA A_2) := (Sep.new ho_2.lt ho_4.ge').symm
 replace ho_4 := ho_4.mono HB_3.size
 replace ho_5 := ho_5.mono HB_3.size
 replace w_p := w_p.keep2 hB_2 (by decide) hC_1 hX_3
 replace w_o := w_o.keep2 hB_2 (by decide) hC_1 hX_3
 replace w_u := w_u.keep2 hB_2 (by decide) hC_1 hX_3
 replace w_z := w_z.keep2 hB_2 (by decide) hC_1 hX_3
 replace ho_1 := ho_1.keep2 hB_2 (by decide) hC_1 hX_3
 replace ho_2 := ho_2.keep2 hB_2 (by decide) hC_1 hX_3
 have HB_4 := HB_3.step hX_3 (fun k hk hY => hY.elim id (fun hY => absurd hk (Nat.not_lt.2 (by rw [hY]; exact gg_1 _ hC_1.mem))))
 refine ⟨_, rfl, ?_⟩
 iterate 11 refine e1 ?_
 refine k_c Tryz.func49 (done_first (en := 0) _ hB_3) ?_
 rintro e_5 w_6 ⟨rfl, hB_4, hX_4⟩
 obtain ⟨w_p, w_o, w_u, w_z, ho_1, ho_2, ho_4, ho_5⟩ := kx8 hX_4 w_p w_o w_u w_z ho_1 ho_2 ho_4 ho_5
 have HB_5 := HB_4.step hX_4 (fun k hk (hY : k = g) => hY)
 refine ⟨_, rfl, ?_⟩
 iterate 10 refine e1 ?_
 exact ⟨_, _, rfl, ho_4, ⟨fun j => M j ∨ blkA A_2 j ∨ blkA A_5 j ∨ blkA A_1 j, ⟨fun j hj => hj.elim (fun h => Nat.lt_of_lt_of_le (hlt9 j h) HB_5.size) (fun h => h.elim (ho_2.lt j) (fun h => h.elim (ho_5.lt j) (ho_1.lt j))), ⟨hSck, (shaL_length _), (by simp only [l_psk]), (by simp only [l_own]), (by simp only [l_pub]), (by simp only [l_stc])⟩, A_2, c_2, A_5, c_5, (some ⟨gc_1, 0, none⟩), A_p, c_p, A_o, c_o, A_u, c_u, A_z, c_z, A_1, c_1, (by dsimp only; rw [hxl]; exact hB_4), .inl hMg9, ⟨ho_2.wt, fun j hj => .inr (.inl hj)⟩, ⟨ho_5.wt, fun j hj => .inr (.inr (.inl hj))⟩, ⟨w_p, fun j hj => .inl (m_p j hj)⟩, ⟨w_o, fun j hj => .inl (m_o j hj)⟩, ⟨w_u, fun j hj => .inl (m_u j hj)⟩, ⟨w_z, fun j hj => .inl (m_z j hj)⟩, ⟨ho_1.wt, fun j hj => .inr (.inr (.inr hj))⟩⟩, fun j hj => hj.imp id (fun h => h.elim (ho_2.ge' j) (fun h => h.elim (ho_5.ge' j) (ho_1.ge' j))), fun j hj hm => hm.elim (fun h => absurd (hlt9 j h) (Nat.not_lt.2 (ho_4.ge' j hj))) (fun h => h.elim (sp_2 j hj) (fun h => h.elim (spx_1 j hj) (sp_1 j hj)))⟩, HB_5.mono (fun k _ hk => by rw [hk]; exact hMg9)⟩
end Go.Proofs.YtkhbihnnkflfkaaGreat
