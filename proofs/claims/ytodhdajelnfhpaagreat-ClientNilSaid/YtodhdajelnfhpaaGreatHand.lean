/-
 WALKS: noise.Hand: Write, Read, Split, Hash.
-/
import Derived.Test.YtodhdajelnfhpaaGreatKeys
namespace Go.Proofs.YtodhdajelnfhpaaGreat
open Go.RowKit
set_option linter.unusedVariables false
set_option linter.unusedSimpArgs false
set_option maxRecDepth 100000
attribute [local irreducible] wpList wpListIn putsR

theorem Own.keep2 {w w' : World} {B c gw gc n : Nat} {A : Option Addr} {xs : List Nat} {cur : Array Value} {T : TypeId} {N : Nat → Prop} {k : List Nat} (h : Own w B A c xs) (hB : Blk w gw cur T) (hT : T ≠ 5) (hC : CipherAt w N gc k n) (hb : BelowX (fun j => j = gw ∨ j = gc) w w') : Own w' B A c xs := by
 obtain ⟨cu, hc⟩ := hC.blk
 exact h.keepM hb (fun j hj e => e.elim (fun e => h.sepB hB hT (e ▸ hj)) (fun e => h.sepB hc (by decide) (e ▸ hj)))
theorem Wt.keep2 {w w' : World} {c gw gc n : Nat} {A : Option Addr} {xs : List Nat} {cur : Array Value} {T : TypeId} {N : Nat → Prop} {k : List Nat} (h : Wt w A c xs) (hB : Blk w gw cur T) (hT : T ≠ 5) (hC : CipherAt w N gc k n) (hb : BelowX (fun j => j = gw ∨ j = gc) w w') : Wt w' A c xs := by
 obtain ⟨cu, hc⟩ := hC.blk
 exact h.keep (hb.kept h.lt (fun j hj e => e.elim (fun e => h.sepB hB hT (e ▸ hj)) (fun e => h.sepB hc (by decide) (e ▸ hj))))
/-- What is sent; the state behind it. -/
def outS (S : Sy) (xs : List Nat) : List Nat := sealL S.k (nonceL 0) S.h xs
theorem outS_length (S : Sy) (xs : List Nat) : (outS S xs).length = xs.length + 16 := sealL_length ..
theorem Write_first {M : Nat → Prop} {g : Nat} {ck hh psk ks pu st ot : List Nat} {n : Nat} {A0 : Option Addr} {c0 q : Nat} {bs : List Nat} (w : World) (hH : HandAt w M g ⟨ck, hh, psk, ks, pu, st, ot, true, false, 0⟩) (h0 : Bs w A0 c0 bs) (hq : bs.length = q) (hl : q ≤ 4096) (hn9 : ¬ ell ∣ n) (hu9 : numL st = plN n) :
  Calls Tryz.prog 24 #[.pointer (some ⟨g, 0, none⟩), .slice A0 (q) (c0)] w fun e w' => ∃ A c, e = .returned (.tuple #[.slice A (32 + (q + 16)) c, .int .i64 0]) ∧ Own w' w.heap.size A c (pu ++ outS (firstS ck hh psk pu (dhL ks n)) bs) ∧ (∃ M', HandAt w' M' g ⟨(firstS ck hh psk pu (dhL ks n)).ck, shaL ((firstS ck hh psk pu (dhL ks n)).h ++ outS (firstS ck hh psk pu (dhL ks n)) bs), psk, ks, pu, st, ot, true, true, 1⟩ ∧ NextM w M M' ∧ Sep (blkA A) M') ∧ BelowX M w w' := by
 obtain ⟨hlt9, ⟨l_ck, l_h, l_psk, l_own, l_pub, l_stc⟩, A_c, c_c, A_h, c_h, v_2, A_p, c_p, A_o, c_o, A_u, c_u, A_z, c_z, A_t, c_t, hB9, hMg9, ⟨w_c, m_c⟩, ⟨w_h, m_h⟩, ⟨w_p, m_p⟩, ⟨w_o, m_o⟩, ⟨w_u, m_u⟩, ⟨w_z, m_z⟩, ⟨w_t, m_t⟩⟩ := hH
 dsimp only at l_ck l_h l_psk l_own l_pub l_stc hB9 w_c w_h w_p w_o w_u w_z w_t
 have hSck : (firstS ck hh psk pu (dhL ks n)).ck.length = 32 := chT_length _ _
 have hSh : (firstS ck hh psk pu (dhL ks n)).h.length = 32 := shaL_length _
 refine x_enter 44 Tryz.func24 rfl rfl (fun a hs hd ha0 => ?_)
 have t0 : a.eval (.tmp 0) = .pointer (some ⟨g, 0, none⟩) := ha0 0 _ rfl
 have t1 : a.eval (.tmp 1) = .slice A0 (q) (c0) := ha0 1 _ rfl
 clear ha0
 have HB0 : BelowX (fun k => k = g) w w := BelowX.refl _ _
 refine w2_sr (fun K_1 hK_1 => ?_)
 refine q_as (.slice none (0) (0)) rfl ?_
 refine q_as (.int .i64 ((0 : Nat) : Int)) rfl ?_
 refine x_nil (hK_1 _ _ ?_)
 refine w2_seq (fun K_2 hK_2 => ?_)
 refine w2_sr (fun K_3 hK_3 => ?_)
 refine q_mv ((pm rfl).trans t0) ?_
 refine q_ca (vs := #[.pointer (some ⟨g, 0, none⟩), .int .i64 ((0 : Nat) : Int)]) Tryz.func48 (args2 (pe hs rfl rfl) rfl) (ready_ok _ hB9 (by decide)) (fun e_1 w_1 hR_1 => ?_)
 obtain ⟨rfl, rfl⟩ := hR_1
 refine ⟨_, rfl, ?_⟩
 refine q_at (v := .int .i64 ((0 : Nat) : Int)) (pe hs rfl rfl) ?_
 refine x_nil (hK_3 _ _ ?_)
 refine w2_sr (fun K_4 hK_4 => ?_)
 refine q_mv (v := .int .i64 ((0 : Nat) : Int)) (pe hs rfl rfl) ?_
 refine q_v 12 (.bool (false)) (o_eq (o_neq (m := 0) (n := 0) rfl (pe hs rfl rfl) rfl) rfl) ?_
 refine x_nil (hK_4 _ _ ?_)
 refine w2_condF (pe hs rfl rfl) ?_
 refine w2_skip ?_
 refine hK_2 _ _ ?_
 refine w2_seq (fun K_5 hK_5 => ?_)
 refine w2_sr (fun K_6 hK_6 => ?_)
 refine q_mv ((pm rfl).trans t1) ?_
 refine q_v 15 (.int .i64 ((q : Nat) : Int)) (o_len rfl (pe hs rfl rfl)) ?_
 refine q_v 16 (.bool (false)) (o_eq (o_gtr (m := q) (n := 4096) rfl (pe hs rfl rfl) rfl) (by rw [decide_eq_false (by omega)])) ?_
 refine x_nil (hK_6 _ _ ?_)
 refine w2_condF (pe hs rfl rfl) ?_
 refine w2_skip ?_
 refine hK_5 _ _ ?_
 refine w2_sr (fun K_7 hK_7 => ?_)
 refine q_as (.slice none (0) (0)) rfl ?_
 refine x_nil (hK_7 _ _ ?_)
 refine w2_sr (fun K_8 hK_8 => ?_)
 refine q_mv ((pm rfl).trans t0) ?_
 refine q_mv ((pm rfl).trans t0) ?_
 refine q_nc (pe hs rfl rfl) ?_
 refine q_fa 8 (pe hs rfl rfl) ?_
 refine q_ld (v := .slice A_u (32) (c_u)) (pe hs rfl rfl) hB9 rfl ?_
 refine q_ca (vs := #[.pointer (some ⟨g, 0, none⟩), .slice A_u (32) (c_u)]) Tryz.func49 (args2 (pe hs rfl rfl) (pe hs rfl rfl)) (keys_a _ hB9 w_c (by simp only [l_ck]) w_h (by simp only [l_h]) w_p (by simp only [l_psk]) w_o (by simp only [l_own]) w_z (by simp only [l_stc]) w_u (by simp only [l_pub]) hn9 hu9) (fun e_2 w_2 hR_2 => ?_)
 obtain ⟨A_1, c_1, A_2, c_2, N_1, gc_1, rfl, hB_1, ho_1, ho_2, hC_1, hge_1, hX_1⟩ := hR_2
 have hn_1 : ¬ N_1 g := fun h => absurd hB9.lt (Nat.not_lt.2 (hge_1 _ h))
 have gg_1 := hge_1.down HB0.size
 replace ho_1 := ho_1.mono HB0.size
 replace ho_2 := ho_2.mono HB0.size
 replace w_p := w_p.keepX hB9 (by decide) hX_1
 replace w_o := w_o.keepX hB9 (by decide) hX_1
 replace w_u := w_u.keepX hB9 (by decide) hX_1
 replace w_z := w_z.keepX hB9 (by decide) hX_1
 replace w_t := w_t.keepX hB9 (by decide) hX_1
 replace h0 := h0.keepH hB9 (by intro z; simp) hX_1
 have HB_1 := HB0.step hX_1 (fun k hk (hY : k = g) => hY)
 clear hB9
 refine ⟨_, rfl, ?_⟩
 refine q_at (v := .int .i64 ((0 : Nat) : Int)) (pe hs rfl rfl) ?_
 refine x_nil (hK_8 _ _ ?_)
 refine w2_seq (fun K_9 hK_9 => ?_)
 refine w2_sr (fun K_10 hK_10 => ?_)
 refine q_mv (v := .int .i64 ((0 : Nat) : Int)) (pe hs rfl rfl) ?_
 refine q_v 24 (.bool (true)) (o_eq (o_eql (m := 0) (n := 0) rfl (pe hs rfl rfl) rfl) rfl) ?_
 refine x_nil (hK_10 _ _ ?_)
 refine w2_condT (pe hs rfl rfl) ?_
 refine x_region (by kernel_rfl) ?_
 refine q_mv ((pm rfl).trans t0) ?_
 refine q_mv ((pm rfl).trans t1) ?_
 refine q_ca (vs := #[.pointer (some ⟨g, 0, none⟩), .slice A0 (q) (c0)]) Tryz.func50 (args2 (pe hs rfl rfl) (pe hs rfl rfl)) (seal_any _ hB_1 (ho_2).wt hSh hC_1 hn_1 h0 hq (by omega)) (fun e_3 w_3 hR_3 => ?_)
 obtain ⟨A_3, c_3, A_4, c_4, rfl, hB_2, ho_3, ho_4, hX_2⟩ := hR_3
 have hl_1 : (sealL ((firstS ck hh psk pu (dhL ks n)).k) (nonceL 0) ((firstS ck hh psk pu (dhL ks n)).h) bs).length = q + 16 := by rw [sealL_length]; have h9 : (bs).length = q := hq; omega
 replace ho_3 := ho_3.mono HB_1.size
 replace ho_4 := ho_4.mono HB_1.size
 replace w_p := w_p.keep2 hB_1 (by decide) hC_1 hX_2
 replace w_o := w_o.keep2 hB_1 (by decide) hC_1 hX_2
 replace w_u := w_u.keep2 hB_1 (by decide) hC_1 hX_2
 replace w_z := w_z.keep2 hB_1 (by decide) hC_1 hX_2
 replace w_t := w_t.keep2 hB_1 (by decide) hC_1 hX_2
 replace ho_1 := ho_1.keep2 hB_1 (by decide) hC_1 hX_2
 have HB_2 := HB_1.step hX_2 (fun k hk hY => hY.elim id (fun hY => absurd hk (Nat.not_lt.2 (by rw [hY]; exact gg_1 _ hC_1.mem))))
 refine ⟨_, rfl, ?_⟩
 refine q_mv (pe hs rfl rfl) ?_
 refine q_ex (v := .slice A_3 (q + 16) (c_3)) (pe hs rfl rfl) rfl ?_
 refine q_ex (v := .int .i64 ((0 : Nat) : Int)) (pe hs rfl rfl) rfl ?_
 refine q_at (pe hs rfl rfl) ?_
 refine q_at (v := .int .i64 ((0 : Nat) : Int)) (pe hs rfl rfl) ?_
 refine x_nil (hK_9 _ _ ?_)
 refine w2_sr (fun K_11 hK_11 => ?_)
 refine q_mv ((pm rfl).trans t0) ?_
 refine q_mv (v := .int .i64 ((0 : Nat) : Int)) (pe hs rfl rfl) ?_
 refine q_ca (vs := #[.pointer (some ⟨g, 0, none⟩), .int .i64 ((0 : Nat) : Int), .int .i64 ((1 : Nat) : Int)]) Tryz.func51 (args3 (pe hs rfl rfl) (pe hs rfl rfl) rfl) (done_first (en := 0) _ hB_2) (fun e_4 w_4 hR_4 => ?_)
 obtain ⟨rfl, hB_3, hX_3⟩ := hR_4
 replace w_p := w_p.keepX hB_2 (by decide) hX_3
 replace w_o := w_o.keepX hB_2 (by decide) hX_3
 replace w_u := w_u.keepX hB_2 (by decide) hX_3
 replace w_z := w_z.keepX hB_2 (by decide) hX_3
 replace w_t := w_t.keepX hB_2 (by decide) hX_3
 replace ho_1 := ho_1.keepX hB_2 (by decide) hX_3
 replace ho_3 := ho_3.keepX hB_2 (by decide) hX_3
 replace ho_4 := ho_4.keepX hB_2 (by decide) hX_3
 have HB_3 := HB_2.step hX_3 (fun k hk (hY : k = g) => hY)
 clear hB_2
 refine ⟨_, rfl, ?_⟩
 refine x_nil (hK_11 _ _ ?_)
 refine w2_seq (fun K_12 hK_12 => ?_)
 refine w2_sr (fun K_13 hK_13 => ?_)
 refine q_mv (v := .int .i64 ((0 : Nat) : Int)) (pe hs rfl rfl) ?_
 refine q_v 35 (.bool (false)) (o_eq (o_neq (m := 0) (n := 0) rfl (pe hs rfl rfl) rfl) rfl) ?_
 refine x_nil (hK_13 _ _ ?_)
 refine w2_condF (pe hs rfl rfl) ?_
 refine w2_skip ?_
 refine hK_12 _ _ ?_
 refine w2_sr (fun K_14 hK_14 => ?_)
 refine q_mv ((pm rfl).trans t0) ?_
 refine q_nc (pe hs rfl rfl) ?_
 refine q_fa 8 (pe hs rfl rfl) ?_
 refine q_ld (v := .slice A_u (32) (c_u)) (pe hs rfl rfl) hB_3 rfl ?_
 refine q_mv (pe hs rfl rfl) ?_
 refine op_ex (d := 42) rfl rfl (o_bldS (vs := #[(0, .slice A_u (32) (c_u)), (1, .slice A_3 (q + 16) (c_3))]) (cs := #[.slice A_u (32) (c_u), .slice A_3 (q + 16) (c_3)]) (e := 22) rfl (bld2 (pe hs rfl rfl) (pe hs rfl rfl)) (fun _ => by kernel_rfl)) (fun v_1 w_5 hR_5 => ?_)
 obtain ⟨g_1, rfl, hle_1, hB_4, hb_2⟩ := hR_5
 replace w_p := w_p.nx hb_2
 replace w_o := w_o.nx hb_2
 replace w_u := w_u.nx hb_2
 replace w_z := w_z.nx hb_2
 replace w_t := w_t.nx hb_2
 replace ho_1 := ho_1.nx hb_2
 replace ho_3 := ho_3.nx hb_2
 replace ho_4 := ho_4.nx hb_2
 replace hB_3 := hB_3.nx hb_2
 have HB_4 := HB_3.then hb_2
 refine q_ca (vs := #[.slice ((some ⟨g_1, 0, none⟩)) (2) (2)]) Tryz.func27 (args1 (pe hs rfl rfl)) (Concat2 _ hB_4 (w_u).bs (by simp only [l_pub]) (ho_3).bs hl_1 (by omega)) (fun e_5 w_6 hR_6 => ?_)
 have lt_1 := ho_1.lt
 have lt_4 := ho_4.lt
 obtain ⟨A_5, c_5, rfl, ho_5, hb_3⟩ := hR_6
 have gz_1 := ho_5.ge'
 replace ho_5 := ho_5.mono HB_4.size
 replace w_p := w_p.nx hb_3
 replace w_o := w_o.nx hb_3
 replace w_u := w_u.nx hb_3
 replace w_z := w_z.nx hb_3
 replace w_t := w_t.nx hb_3
 replace ho_1 := ho_1.nx hb_3
 replace ho_4 := ho_4.nx hb_3
 replace hB_3 := hB_3.nx hb_3
 have HB_5 := HB_4.then hb_3
 have sp_1 : Sep (blkA A_5) (blkA A_1) := (Sep.new lt_1 gz_1).symm
 have sp_4 : Sep (blkA A_5) (blkA A_4) := (Sep.new lt_4 gz_1).symm
 refine ⟨_, rfl, ?_⟩
 refine q_at (pe hs rfl rfl) ?_
 refine q_as (.int .i64 ((0 : Nat) : Int)) rfl ?_
 refine x_nil (hK_14 _ _ ?_)
 refine w2_ret ?_
 refine ret2 rfl hd (pe hs rfl rfl) (pe hs rfl rfl) ?_
 exact ⟨_, _, rfl, ho_5, ⟨fun j => M j ∨ blkA A_1 j ∨ blkA A_4 j, ⟨fun j hj => hj.elim (fun h => Nat.lt_of_lt_of_le (hlt9 j h) HB_5.size) (fun h => h.elim (ho_1.lt j) (ho_4.lt j)), ⟨hSck, (shaL_length _), (by simp only [l_psk]), (by simp only [l_own]), (by simp only [l_pub]), (by simp only [l_stc])⟩, A_1, c_1, A_4, c_4, (some ⟨gc_1, 0, none⟩), A_p, c_p, A_o, c_o, A_u, c_u, A_z, c_z, A_t, c_t, hB_3, .inl hMg9, ⟨ho_1.wt, fun j hj => .inr (.inl hj)⟩, ⟨ho_4.wt, fun j hj => .inr (.inr hj)⟩, ⟨w_p, fun j hj => .inl (m_p j hj)⟩, ⟨w_o, fun j hj => .inl (m_o j hj)⟩, ⟨w_u, fun j hj => .inl (m_u j hj)⟩, ⟨w_z, fun j hj => .inl (m_z j hj)⟩, ⟨w_t, fun j hj => .inl (m_t j hj)⟩⟩, fun j hj => hj.imp id (fun h => h.elim (ho_1.ge' j) (ho_4.ge' j)), fun j hj hm => hm.elim (fun h => absurd (hlt9 j h) (Nat.not_lt.2 (ho_5.ge' j hj))) (fun h => h.elim (sp_1 j hj) (sp_4 j hj))⟩, HB_5.mono (fun k _ hk => by rw [hk]; exact hMg9)⟩
theorem Bs.firstH {w : World} {A : Option Addr} {c : Nat} {xs rest : List Nat} (h : Bs w A c (xs ++ rest)) (hn : xs.length = 32) : Bs w (subA A 0 c) c xs := by
 have h1 := Bs.sub h (l := 0) (q := 32) (m := c) (by omega) (by have := h.le; rw [List.length_append] at this; omega) (Nat.le_refl _)
 rw [List.drop_zero, Nat.sub_zero, Nat.sub_zero, List.take_left' hn] at h1
 exact h1
end Go.Proofs.YtodhdajelnfhpaaGreat
