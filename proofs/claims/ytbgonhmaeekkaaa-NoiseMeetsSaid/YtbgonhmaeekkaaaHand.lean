/-
 WALKS: noise.Hand: Write, Read, Split, Hash.
-/
import Derived.Test.YtbgonhmaeekkaaaKeys
namespace Go.Proofs.Ytbgonhmaeekkaaa
open Go.RowKit
set_option linter.unusedVariables false
set_option linter.unusedSimpArgs false
set_option maxRecDepth 100000
attribute [local irreducible] wpList wpListIn putsR

theorem Own.keep2 {w w' : World} {B c gw gc n : Nat} {A : Option Addr} {xs : List Nat} {cur : Array Value} {T : TypeId} {N : Nat → Prop} {k : List Nat} (h : Own w B A c xs) (hB : Blk w gw cur T) (hT : T ≠ 5) (hC : CipherAt w N gc k n) (hb : BelowX (fun j => j = gw ∨ j = gc) w w') : Own w' B A c xs := by
 obtain ⟨cu, hc⟩ := hC.blk
 exact h.keepM hb (fun j hj e => e.elim (fun e => h.sepB hB hT (e ▸ hj)) (fun e => h.sepB hc (by decide) (e ▸ hj)))
theorem Wt.keep2 {w w' : World} {c gw gc n : Nat} {A : Option Addr} {xs : List Nat} {cur : Array Value} {T : TypeId} {N : Nat → Prop} {k : List Nat} (h : Wt w A c xs) (hB : Blk w gw cur T) (hT : T ≠ 5) (hC : CipherAt w N gc k n) (hb : BelowX (fun j => j = gw ∨ j = gc) w w') : Wt w' A c xs := by
 obtain ⟨cu, hc⟩ := hC.blk
 exact h.keep (hb.kept h.lt (fun j hj e => e.elim (fun e => h.sepB hB hT (e ▸ hj)) (fun e => h.sepB hc (by decide) (e ▸ hj))))
/-- What is sent; the state behind it. -/
def outS (S : Sy) (xs : List Nat) : List Nat := sealL S.k (nonceL 0) S.h xs
theorem outS_length (S : Sy) (xs : List Nat) : (outS S xs).length = xs.length + 16 := sealL_length ..
theorem Write_first {M : Nat → Prop} {g : Nat} {ck hh psk ks pu st ot : List Nat} {n : Nat} {A0 : Option Addr} {c0 q : Nat} {bs : List Nat} (w : World) (hH : HandAt w M g ⟨ck, hh, psk, ks, pu, st, ot, true, false, 0⟩) (h0 : Bs w A0 c0 bs) (hq : bs.length = q) (hl : q ≤ 4096) (hn9 : ¬ ell ∣ n) (hu9 : numL st = plN n) :
  Calls Try.prog 21 #[.pointer (some ⟨g, 0, none⟩), .slice A0 (q) (c0)] w fun e w' => ∃ A c, e = .returned (.tuple #[.slice A (32 + (q + 16)) c, .int .i64 0]) ∧ Own w' w.heap.size A c (pu ++ outS (firstS ck hh psk pu (dhL ks n)) bs) ∧ (∃ M', HandAt w' M' g ⟨(firstS ck hh psk pu (dhL ks n)).ck, shaL ((firstS ck hh psk pu (dhL ks n)).h ++ outS (firstS ck hh psk pu (dhL ks n)) bs), psk, ks, pu, st, ot, true, true, 1⟩ ∧ NextM w M M' ∧ Sep (blkA A) M') ∧ BelowX M w w' := by
 obtain ⟨hlt9, ⟨l_ck, l_h, l_psk, l_own, l_pub, l_stc⟩, A_c, c_c, A_h, c_h, v_2, A_p, c_p, A_o, c_o, A_u, c_u, A_z, c_z, A_t, c_t, hB9, hMg9, ⟨w_c, m_c⟩, ⟨w_h, m_h⟩, ⟨w_p, m_p⟩, ⟨w_o, m_o⟩, ⟨w_u, m_u⟩, ⟨w_z, m_z⟩, ⟨w_t, m_t⟩⟩ := hH
 dsimp only at l_ck l_h l_psk l_own l_pub l_stc hB9 w_c w_h w_p w_o w_u w_z w_t
 have hSck : (firstS ck hh psk pu (dhL ks n)).ck.length = 32 := chT_length _ _
 have hSh : (firstS ck hh psk pu (dhL ks n)).h.length = 32 := shaL_length _
 refine x_enter 44 Try.func21 rfl rfl (fun a hs hd ha0 => ?_)
 have t0 : a.eval (.tmp 0) = .pointer (some ⟨g, 0, none⟩) := ha0 0 _ rfl
 have t1 : a.eval (.tmp 1) = .slice A0 (q) (c0) := ha0 1 _ rfl
 clear ha0
 have HB0 : BelowX (fun k => k = g) w w := BelowX.refl _ _
 refine w2_sr (fun K_1 hK_1 => ?_)
 refine q_as (.slice none (0) (0)) rfl ?_
 refine q_as (.int .i64 ((0 : Nat) : Int)) rfl ?_
 refine x_nil (hK_1 _ _ ?_)
 refine w2_seq (fun K_2 hK_2 => ?_)
 refine w2_sr (fun K_3 hK_3 => ?_)
 refine q_mv ((pm rfl).trans t0) ?_
 refine q_ca (vs := #[.pointer (some ⟨g, 0, none⟩), .int .i64 ((0 : Nat) : Int)]) Try.func34 (args2 (pe hs rfl rfl) rfl) (ready_ok _ hB9 (by decide)) (fun e_1 w_1 hR_1 => ?_)
 obtain ⟨rfl, rfl⟩ := hR_1
 refine ⟨_, rfl, ?_⟩
 refine q_at (v := .int .i64 ((0 : Nat) : Int)) (pe hs rfl rfl) ?_
 refine x_nil (hK_3 _ _ ?_)
 refine w2_sr (fun K_4 hK_4 => ?_)
 refine q_mv (v := .int .i64 ((0 : Nat) : Int)) (pe hs rfl rfl) ?_
 refine q_v 12 (.bool (false)) (o_eq (o_neq (m := 0) (n := 0) rfl (pe hs rfl rfl) rfl) rfl) ?_
 refine x_nil (hK_4 _ _ ?_)
 refine w2_condF (pe hs rfl rfl) ?_
 refine w2_skip ?_
 refine hK_2 _ _ ?_
 refine w2_seq (fun K_5 hK_5 => ?_)
 refine w2_sr (fun K_6 hK_6 => ?_)
 refine q_mv ((pm rfl).trans t1) ?_
 refine q_v 15 (.int .i64 ((q : Nat) : Int)) (o_len rfl (pe hs rfl rfl)) ?_
 refine q_v 16 (.bool (false)) (o_eq (o_gtr (m := q) (n := 4096) rfl (pe hs rfl rfl) rfl) (by rw [decide_eq_false (by omega)])) ?_
 refine x_nil (hK_6 _ _ ?_)
 refine w2_condF (pe hs rfl rfl) ?_
 refine w2_skip ?_
 refine hK_5 _ _ ?_
 refine w2_sr (fun K_7 hK_7 => ?_)
 refine q_as (.slice none (0) (0)) rfl ?_
 refine x_nil (hK_7 _ _ ?_)
 refine w2_sr (fun K_8 hK_8 => ?_)
 refine q_mv ((pm rfl).trans t0) ?_
 refine q_mv ((pm rfl).trans t0) ?_
 refine q_nc (pe hs rfl rfl) ?_
 refine q_fa 8 (pe hs rfl rfl) ?_
 refine q_ld (v := .slice A_u (32) (c_u)) (pe hs rfl rfl) hB9 rfl ?_
 refine q_ca (vs := #[.pointer (some ⟨g, 0, none⟩), .slice A_u (32) (c_u)]) Try.func35 (args2 (pe hs rfl rfl) (pe hs rfl rfl)) (keys_a _ hB9 w_c (by simp only [l_ck]) w_h (by simp only [l_h]) w_p (by simp only [l_psk]) w_o (by simp only [l_own]) w_z (by simp only [l_stc]) w_u (by simp only [l_pub]) hn9 hu9) (fun e_2 w_2 hR_2 => ?_)
 obtain ⟨A_1, c_1, A_2, c_2, N_1, gc_1, rfl, hB_1, ho_1, ho_2, hC_1, hge_1, hX_1⟩ := hR_2
 have hn_1 : ¬ N_1 g := fun h => absurd hB9.lt (Nat.not_lt.2 (hge_1 _ h))
 have gg_1 := hge_1.down HB0.size
 replace ho_1 := ho_1.mono HB0.size
 replace ho_2 := ho_2.mono HB0.size
 replace w_p := w_p.keepX hB9 (by decide) hX_1
 replace w_o := w_o.keepX hB9 (by decide) hX_1
 replace w_u := w_u.keepX hB9 (by decide) hX_1
 replace w_z := w_z.keepX hB9 (by decide) hX_1
 replace w_t := w_t.keepX hB9 (by decide) hX_1
 replace h0 := h0.keepH hB9 (by intro z; simp) hX_1
 have HB_1 := HB0.step hX_1 (fun k hk (hY : k = g) => hY)
 clear hB9
 refine ⟨_, rfl, ?_⟩
 refine q_at (v := .int .i64 ((0 : Nat) : Int)) (pe hs rfl rfl) ?_
 refine x_nil (hK_8 _ _ ?_)
 refine w2_seq (fun K_9 hK_9 => ?_)
 refine w2_sr (fun K_10 hK_10 => ?_)
 refine q_mv (v := .int .i64 ((0 : Nat) : Int)) (pe hs rfl rfl) ?_
 refine q_v 24 (.bool (true)) (o_eq (o_eql (m := 0) (n := 0) rfl (pe hs rfl rfl) rfl) rfl) ?_
 refine x_nil (hK_10 _ _ ?_)
 refine w2_condT (pe hs rfl rfl) ?_
 refine x_region (by kernel_rfl) ?_
 refine q_mv ((pm rfl).trans t0) ?_
 refine q_mv ((pm rfl).trans t1) ?_
 refine q_ca (vs := #[.pointer (some ⟨g, 0, none⟩), .slice A0 (q) (c0)]) Try.func38 (args2 (pe hs rfl rfl) (pe hs rfl rfl)) (seal_any _ hB_1 (ho_2).wt hSh hC_1 hn_1 h0 hq (by omega)) (fun e_3 w_3 hR_3 => ?_)
 obtain ⟨A_3, c_3, A_4, c_4, rfl, hB_2, ho_3, ho_4, hX_2⟩ := hR_3
 have hl_1 : (sealL ((firstS ck hh psk pu (dhL ks n)).k) (nonceL 0) ((firstS ck hh psk pu (dhL ks n)).h) bs).length = q + 16 := by rw [sealL_length]; have h9 : (bs).length = q := hq; omega
 replace ho_3 := ho_3.mono HB_1.size
 replace ho_4 := ho_4.mono HB_1.size
 replace w_p := w_p.keep2 hB_1 (by decide) hC_1 hX_2
 replace w_o := w_o.keep2 hB_1 (by decide) hC_1 hX_2
 replace w_u := w_u.keep2 hB_1 (by decide) hC_1 hX_2
 replace w_z := w_z.keep2 hB_1 (by decide) hC_1 hX_2
 replace w_t := w_t.keep2 hB_1 (by decide) hC_1 hX_2
 replace ho_1 := ho_1.keep2 hB_1 (by decide) hC_1 hX_2
 have HB_2 := HB_1.step hX_2 (fun k hk hY => hY.elim id (fun hY => absurd hk (Nat.not_lt.2 (by rw [hY]; exact gg_1 _ hC_1.mem))))
 refine ⟨_, rfl, ?_⟩
 refine q_mv (pe hs rfl rfl) ?_
 refine q_ex (v := .slice A_3 (q + 16) (c_3)) (pe hs rfl rfl) rfl ?_
 refine q_ex (v := .int .i64 ((0 : Nat) : Int)) (pe hs rfl rfl) rfl ?_
 refine q_at (pe hs rfl rfl) ?_
 refine q_at (v := .int .i64 ((0 : Nat) : Int)) (pe hs rfl rfl) ?_
 refine x_nil (hK_9 _ _ ?_)
 refine w2_sr (fun K_11 hK_11 => ?_)
 refine q_mv ((pm rfl).trans t0) ?_
 refine q_mv (v := .int .i64 ((0 : Nat) : Int)) (pe hs rfl rfl) ?_
 refine q_ca (vs := #[.pointer (some ⟨g, 0, none⟩), .int .i64 ((0 : Nat) : Int), .int .i64 ((1 : Nat) : Int)]) Try.func37 (args3 (pe hs rfl rfl) (pe hs rfl rfl) rfl) (done_first (en := 0) _ hB_2) (fun e_4 w_4 hR_4 => ?_)
 obtain ⟨rfl, hB_3, hX_3⟩ := hR_4
 replace w_p := w_p.keepX hB_2 (by decide) hX_3
 replace w_o := w_o.keepX hB_2 (by decide) hX_3
 replace w_u := w_u.keepX hB_2 (by decide) hX_3
 replace w_z := w_z.keepX hB_2 (by decide) hX_3
 replace w_t := w_t.keepX hB_2 (by decide) hX_3
 replace ho_1 := ho_1.keepX hB_2 (by decide) hX_3
 replace ho_3 := ho_3.keepX hB_2 (by decide) hX_3
 replace ho_4 := ho_4.keepX hB_2 (by decide) hX_3
 have HB_3 := HB_2.step hX_3 (fun k hk (hY : k = g) => hY)
 clear hB_2
 refine ⟨_, rfl, ?_⟩
 refine x_nil (hK_11 _ _ ?_)
 refine w2_seq (fun K_12 hK_12 => ?_)
 refine w2_sr (fun K_13 hK_13 => ?_)
 refine q_mv (v := .int .i64 ((0 : Nat) : Int)) (pe hs rfl rfl) ?_
 refine q_v 35 (.bool (false)) (o_eq (o_neq (m := 0) (n := 0) rfl (pe hs rfl rfl) rfl) rfl) ?_
 refine x_nil (hK_13 _ _ ?_)
 refine w2_condF (pe hs rfl rfl) ?_
 refine w2_skip ?_
 refine hK_12 _ _ ?_
 refine w2_sr (fun K_14 hK_14 => ?_)
 refine q_mv ((pm rfl).trans t0) ?_
 refine q_nc (pe hs rfl rfl) ?_
 refine q_fa 8 (pe hs rfl rfl) ?_
 refine q_ld (v := .slice A_u (32) (c_u)) (pe hs rfl rfl) hB_3 rfl ?_
 refine q_mv (pe hs rfl rfl) ?_
 refine op_ex (d := 42) rfl rfl (o_bldS (vs := #[(0, .slice A_u (32) (c_u)), (1, .slice A_3 (q + 16) (c_3))]) (cs := #[.slice A_u (32) (c_u), .slice A_3 (q + 16) (c_3)]) (e := 22) rfl (bld2 (pe hs rfl rfl) (pe hs rfl rfl)) (fun _ => by kernel_rfl)) (fun v_1 w_5 hR_5 => ?_)
 obtain ⟨g_1, rfl, hle_1, hB_4, hb_2⟩ := hR_5
 replace w_p := w_p.nx hb_2
 replace w_o := w_o.nx hb_2
 replace w_u := w_u.nx hb_2
 replace w_z := w_z.nx hb_2
 replace w_t := w_t.nx hb_2
 replace ho_1 := ho_1.nx hb_2
 replace ho_3 := ho_3.nx hb_2
 replace ho_4 := ho_4.nx hb_2
 replace hB_3 := hB_3.nx hb_2
 have HB_4 := HB_3.then hb_2
 refine q_ca (vs := #[.slice ((some ⟨g_1, 0, none⟩)) (2) (2)]) Try.func39 (args1 (pe hs rfl rfl)) (Concat2 _ hB_4 (w_u).bs (by simp only [l_pub]) (ho_3).bs hl_1 (by omega)) (fun e_5 w_6 hR_6 => ?_)
 have lt_1 := ho_1.lt
 have lt_4 := ho_4.lt
 obtain ⟨A_5, c_5, rfl, ho_5, hb_3⟩ := hR_6
 have gz_1 := ho_5.ge'
 replace ho_5 := ho_5.mono HB_4.size
 replace w_p := w_p.nx hb_3
 replace w_o := w_o.nx hb_3
 replace w_u := w_u.nx hb_3
 replace w_z := w_z.nx hb_3
 replace w_t := w_t.nx hb_3
 replace ho_1 := ho_1.nx hb_3
 replace ho_4 := ho_4.nx hb_3
 replace hB_3 := hB_3.nx hb_3
 have HB_5 := HB_4.then hb_3
 have sp_1 : Sep (blkA A_5) (blkA A_1) := (Sep.new lt_1 gz_1).symm
 have sp_4 : Sep (blkA A_5) (blkA A_4) := (Sep.new lt_4 gz_1).symm
 refine ⟨_, rfl, ?_⟩
 refine q_at (pe hs rfl rfl) ?_
 refine q_as (.int .i64 ((0 : Nat) : Int)) rfl ?_
 refine x_nil (hK_14 _ _ ?_)
 refine w2_ret ?_
 refine ret2 rfl hd (pe hs rfl rfl) (pe hs rfl rfl) ?_
 exact ⟨_, _, rfl, ho_5, ⟨fun j => M j ∨ blkA A_1 j ∨ blkA A_4 j, ⟨fun j hj => hj.elim (fun h => Nat.lt_of_lt_of_le (hlt9 j h) HB_5.size) (fun h => h.elim (ho_1.lt j) (ho_4.lt j)), ⟨hSck, (shaL_length _), (by simp only [l_psk]), (by simp only [l_own]), (by simp only [l_pub]), (by simp only [l_stc])⟩, A_1, c_1, A_4, c_4, (some ⟨gc_1, 0, none⟩), A_p, c_p, A_o, c_o, A_u, c_u, A_z, c_z, A_t, c_t, hB_3, .inl hMg9, ⟨ho_1.wt, fun j hj => .inr (.inl hj)⟩, ⟨ho_4.wt, fun j hj => .inr (.inr hj)⟩, ⟨w_p, fun j hj => .inl (m_p j hj)⟩, ⟨w_o, fun j hj => .inl (m_o j hj)⟩, ⟨w_u, fun j hj => .inl (m_u j hj)⟩, ⟨w_z, fun j hj => .inl (m_z j hj)⟩, ⟨w_t, fun j hj => .inl (m_t j hj)⟩⟩, fun j hj => hj.imp id (fun h => h.elim (ho_1.ge' j) (ho_4.ge' j)), fun j hj hm => hm.elim (fun h => absurd (hlt9 j h) (Nat.not_lt.2 (ho_5.ge' j hj))) (fun h => h.elim (sp_1 j hj) (sp_4 j hj))⟩, HB_5.mono (fun k _ hk => by rw [hk]; exact hMg9)⟩
theorem Write_second {M : Nat → Prop} {g : Nat} {ck hh psk ks pu st ot : List Nat} {asks : Bool} {n : Nat} {A0 : Option Addr} {c0 q : Nat} {bs : List Nat} (w : World) (hH : HandAt w M g ⟨ck, hh, psk, ks, pu, st, ot, asks, true, 0⟩) (h0 : Bs w A0 c0 bs) (hq : bs.length = q) (hl : q ≤ 4096) (hn9 : ¬ ell ∣ n) (hu9 : numL ot = plN n) (hot : ot.length = 32) :
  Calls Try.prog 21 #[.pointer (some ⟨g, 0, none⟩), .slice A0 (q) (c0)] w fun e w' => ∃ A c, e = .returned (.tuple #[.slice A (32 + (q + 16)) c, .int .i64 0]) ∧ Own w' w.heap.size A c (pu ++ outS (secondS ck hh pu (dhL ks n)) bs) ∧ (∃ M', HandAt w' M' g ⟨(secondS ck hh pu (dhL ks n)).ck, shaL ((secondS ck hh pu (dhL ks n)).h ++ outS (secondS ck hh pu (dhL ks n)) bs), psk, ks, pu, st, ot, asks, true, 2⟩ ∧ NextM w M M' ∧ Sep (blkA A) M') ∧ BelowX M w w' := by
 obtain ⟨hlt9, ⟨l_ck, l_h, l_psk, l_own, l_pub, l_stc⟩, A_c, c_c, A_h, c_h, v_2, A_p, c_p, A_o, c_o, A_u, c_u, A_z, c_z, A_t, c_t, hB9, hMg9, ⟨w_c, m_c⟩, ⟨w_h, m_h⟩, ⟨w_p, m_p⟩, ⟨w_o, m_o⟩, ⟨w_u, m_u⟩, ⟨w_z, m_z⟩, ⟨w_t, m_t⟩⟩ := hH
 dsimp only at l_ck l_h l_psk l_own l_pub l_stc hB9 w_c w_h w_p w_o w_u w_z w_t
 rw [hot] at hB9
 have hSck : (secondS ck hh pu (dhL ks n)).ck.length = 32 := chT_length _ _
 have hSh : (secondS ck hh pu (dhL ks n)).h.length = 32 := shaL_length _
 refine x_enter 44 Try.func21 rfl rfl (fun a hs hd ha0 => ?_)
 have t0 : a.eval (.tmp 0) = .pointer (some ⟨g, 0, none⟩) := ha0 0 _ rfl
 have t1 : a.eval (.tmp 1) = .slice A0 (q) (c0) := ha0 1 _ rfl
 clear ha0
 have HB0 : BelowX (fun k => k = g) w w := BelowX.refl _ _
 refine w2_sr (fun K_1 hK_1 => ?_)
 refine q_as (.slice none (0) (0)) rfl ?_
 refine q_as (.int .i64 ((0 : Nat) : Int)) rfl ?_
 refine x_nil (hK_1 _ _ ?_)
 refine w2_seq (fun K_2 hK_2 => ?_)
 refine w2_sr (fun K_3 hK_3 => ?_)
 refine q_mv ((pm rfl).trans t0) ?_
 refine q_ca (vs := #[.pointer (some ⟨g, 0, none⟩), .int .i64 ((0 : Nat) : Int)]) Try.func34 (args2 (pe hs rfl rfl) rfl) (ready_ok _ hB9 (by decide)) (fun e_1 w_1 hR_1 => ?_)
 obtain ⟨rfl, rfl⟩ := hR_1
 refine ⟨_, rfl, ?_⟩
 refine q_at (v := .int .i64 ((0 : Nat) : Int)) (pe hs rfl rfl) ?_
 refine x_nil (hK_3 _ _ ?_)
 refine w2_sr (fun K_4 hK_4 => ?_)
 refine q_mv (v := .int .i64 ((0 : Nat) : Int)) (pe hs rfl rfl) ?_
 refine q_v 12 (.bool (false)) (o_eq (o_neq (m := 0) (n := 0) rfl (pe hs rfl rfl) rfl) rfl) ?_
 refine x_nil (hK_4 _ _ ?_)
 refine w2_condF (pe hs rfl rfl) ?_
 refine w2_skip ?_
 refine hK_2 _ _ ?_
 refine w2_seq (fun K_5 hK_5 => ?_)
 refine w2_sr (fun K_6 hK_6 => ?_)
 refine q_mv ((pm rfl).trans t1) ?_
 refine q_v 15 (.int .i64 ((q : Nat) : Int)) (o_len rfl (pe hs rfl rfl)) ?_
 refine q_v 16 (.bool (false)) (o_eq (o_gtr (m := q) (n := 4096) rfl (pe hs rfl rfl) rfl) (by rw [decide_eq_false (by omega)])) ?_
 refine x_nil (hK_6 _ _ ?_)
 refine w2_condF (pe hs rfl rfl) ?_
 refine w2_skip ?_
 refine hK_5 _ _ ?_
 refine w2_sr (fun K_7 hK_7 => ?_)
 refine q_as (.slice none (0) (0)) rfl ?_
 refine x_nil (hK_7 _ _ ?_)
 refine w2_sr (fun K_8 hK_8 => ?_)
 refine q_mv ((pm rfl).trans t0) ?_
 refine q_mv ((pm rfl).trans t0) ?_
 refine q_nc (pe hs rfl rfl) ?_
 refine q_fa 8 (pe hs rfl rfl) ?_
 refine q_ld (v := .slice A_u (32) (c_u)) (pe hs rfl rfl) hB9 rfl ?_
 refine q_ca (vs := #[.pointer (some ⟨g, 0, none⟩), .slice A_u (32) (c_u)]) Try.func35 (args2 (pe hs rfl rfl) (pe hs rfl rfl)) (keys_2 _ hB9 w_c (by simp only [l_ck]) w_h (by simp only [l_h]) w_o (by simp only [l_own]) w_t hot w_u (by simp only [l_pub]) hn9 hu9) (fun e_2 w_2 hR_2 => ?_)
 obtain ⟨A_1, c_1, A_2, c_2, N_1, gc_1, rfl, hB_1, ho_1, ho_2, hC_1, hge_1, hX_1⟩ := hR_2
 have hn_1 : ¬ N_1 g := fun h => absurd hB9.lt (Nat.not_lt.2 (hge_1 _ h))
 have gg_1 := hge_1.down HB0.size
 replace ho_1 := ho_1.mono HB0.size
 replace ho_2 := ho_2.mono HB0.size
 replace w_p := w_p.keepX hB9 (by decide) hX_1
 replace w_o := w_o.keepX hB9 (by decide) hX_1
 replace w_u := w_u.keepX hB9 (by decide) hX_1
 replace w_z := w_z.keepX hB9 (by decide) hX_1
 replace w_t := w_t.keepX hB9 (by decide) hX_1
 replace h0 := h0.keepH hB9 (by intro z; simp) hX_1
 have HB_1 := HB0.step hX_1 (fun k hk (hY : k = g) => hY)
 clear hB9
 refine ⟨_, rfl, ?_⟩
 refine q_at (v := .int .i64 ((0 : Nat) : Int)) (pe hs rfl rfl) ?_
 refine x_nil (hK_8 _ _ ?_)
 refine w2_seq (fun K_9 hK_9 => ?_)
 refine w2_sr (fun K_10 hK_10 => ?_)
 refine q_mv (v := .int .i64 ((0 : Nat) : Int)) (pe hs rfl rfl) ?_
 refine q_v 24 (.bool (true)) (o_eq (o_eql (m := 0) (n := 0) rfl (pe hs rfl rfl) rfl) rfl) ?_
 refine x_nil (hK_10 _ _ ?_)
 refine w2_condT (pe hs rfl rfl) ?_
 refine x_region (by kernel_rfl) ?_
 refine q_mv ((pm rfl).trans t0) ?_
 refine q_mv ((pm rfl).trans t1) ?_
 refine q_ca (vs := #[.pointer (some ⟨g, 0, none⟩), .slice A0 (q) (c0)]) Try.func38 (args2 (pe hs rfl rfl) (pe hs rfl rfl)) (seal_any _ hB_1 (ho_2).wt hSh hC_1 hn_1 h0 hq (by omega)) (fun e_3 w_3 hR_3 => ?_)
 obtain ⟨A_3, c_3, A_4, c_4, rfl, hB_2, ho_3, ho_4, hX_2⟩ := hR_3
 have hl_1 : (sealL ((secondS ck hh pu (dhL ks n)).k) (nonceL 0) ((secondS ck hh pu (dhL ks n)).h) bs).length = q + 16 := by rw [sealL_length]; have h9 : (bs).length = q := hq; omega
 replace ho_3 := ho_3.mono HB_1.size
 replace ho_4 := ho_4.mono HB_1.size
 replace w_p := w_p.keep2 hB_1 (by decide) hC_1 hX_2
 replace w_o := w_o.keep2 hB_1 (by decide) hC_1 hX_2
 replace w_u := w_u.keep2 hB_1 (by decide) hC_1 hX_2
 replace w_z := w_z.keep2 hB_1 (by decide) hC_1 hX_2
 replace w_t := w_t.keep2 hB_1 (by decide) hC_1 hX_2
 replace ho_1 := ho_1.keep2 hB_1 (by decide) hC_1 hX_2
 have HB_2 := HB_1.step hX_2 (fun k hk hY => hY.elim id (fun hY => absurd hk (Nat.not_lt.2 (by rw [hY]; exact gg_1 _ hC_1.mem))))
 refine ⟨_, rfl, ?_⟩
 refine q_mv (pe hs rfl rfl) ?_
 refine q_ex (v := .slice A_3 (q + 16) (c_3)) (pe hs rfl rfl) rfl ?_
 refine q_ex (v := .int .i64 ((0 : Nat) : Int)) (pe hs rfl rfl) rfl ?_
 refine q_at (pe hs rfl rfl) ?_
 refine q_at (v := .int .i64 ((0 : Nat) : Int)) (pe hs rfl rfl) ?_
 refine x_nil (hK_9 _ _ ?_)
 refine w2_sr (fun K_11 hK_11 => ?_)
 refine q_mv ((pm rfl).trans t0) ?_
 refine q_mv (v := .int .i64 ((0 : Nat) : Int)) (pe hs rfl rfl) ?_
 refine q_ca (vs := #[.pointer (some ⟨g, 0, none⟩), .int .i64 ((0 : Nat) : Int), .int .i64 ((1 : Nat) : Int)]) Try.func37 (args3 (pe hs rfl rfl) (pe hs rfl rfl) rfl) (done_second (en := 0) _ hB_2) (fun e_4 w_4 hR_4 => ?_)
 obtain ⟨rfl, hB_3, hX_3⟩ := hR_4
 replace w_p := w_p.keepX hB_2 (by decide) hX_3
 replace w_o := w_o.keepX hB_2 (by decide) hX_3
 replace w_u := w_u.keepX hB_2 (by decide) hX_3
 replace w_z := w_z.keepX hB_2 (by decide) hX_3
 replace w_t := w_t.keepX hB_2 (by decide) hX_3
 replace ho_1 := ho_1.keepX hB_2 (by decide) hX_3
 replace ho_3 := ho_3.keepX hB_2 (by decide) hX_3
 replace ho_4 := ho_4.keepX hB_2 (by decide) hX_3
 have HB_3 := HB_2.step hX_3 (fun k hk (hY : k = g) => hY)
 clear hB_2
 refine ⟨_, rfl, ?_⟩
 refine x_nil (hK_11 _ _ ?_)
 refine w2_seq (fun K_12 hK_12 => ?_)
 refine w2_sr (fun K_13 hK_13 => ?_)
 refine q_mv (v := .int .i64 ((0 : Nat) : Int)) (pe hs rfl rfl) ?_
 refine q_v 35 (.bool (false)) (o_eq (o_neq (m := 0) (n := 0) rfl (pe hs rfl rfl) rfl) rfl) ?_
 refine x_nil (hK_13 _ _ ?_)
 refine w2_condF (pe hs rfl rfl) ?_
 refine w2_skip ?_
 refine hK_12 _ _ ?_
 refine w2_sr (fun K_14 hK_14 => ?_)
 refine q_mv ((pm rfl).trans t0) ?_
 refine q_nc (pe hs rfl rfl) ?_
 refine q_fa 8 (pe hs rfl rfl) ?_
 refine q_ld (v := .slice A_u (32) (c_u)) (pe hs rfl rfl) hB_3 rfl ?_
 refine q_mv (pe hs rfl rfl) ?_
 refine op_ex (d := 42) rfl rfl (o_bldS (vs := #[(0, .slice A_u (32) (c_u)), (1, .slice A_3 (q + 16) (c_3))]) (cs := #[.slice A_u (32) (c_u), .slice A_3 (q + 16) (c_3)]) (e := 22) rfl (bld2 (pe hs rfl rfl) (pe hs rfl rfl)) (fun _ => by kernel_rfl)) (fun v_1 w_5 hR_5 => ?_)
 obtain ⟨g_1, rfl, hle_1, hB_4, hb_2⟩ := hR_5
 replace w_p := w_p.nx hb_2
 replace w_o := w_o.nx hb_2
 replace w_u := w_u.nx hb_2
 replace w_z := w_z.nx hb_2
 replace w_t := w_t.nx hb_2
 replace ho_1 := ho_1.nx hb_2
 replace ho_3 := ho_3.nx hb_2
 replace ho_4 := ho_4.nx hb_2
 replace hB_3 := hB_3.nx hb_2
 have HB_4 := HB_3.then hb_2
 refine q_ca (vs := #[.slice ((some ⟨g_1, 0, none⟩)) (2) (2)]) Try.func39 (args1 (pe hs rfl rfl)) (Concat2 _ hB_4 (w_u).bs (by simp only [l_pub]) (ho_3).bs hl_1 (by omega)) (fun e_5 w_6 hR_6 => ?_)
 have lt_1 := ho_1.lt
 have lt_4 := ho_4.lt
 obtain ⟨A_5, c_5, rfl, ho_5, hb_3⟩ := hR_6
 have gz_1 := ho_5.ge'
 replace ho_5 := ho_5.mono HB_4.size
 replace w_p := w_p.nx hb_3
 replace w_o := w_o.nx hb_3
 replace w_u := w_u.nx hb_3
 replace w_z := w_z.nx hb_3
 replace w_t := w_t.nx hb_3
 replace ho_1 := ho_1.nx hb_3
 replace ho_4 := ho_4.nx hb_3
 replace hB_3 := hB_3.nx hb_3
 have HB_5 := HB_4.then hb_3
 have sp_1 : Sep (blkA A_5) (blkA A_1) := (Sep.new lt_1 gz_1).symm
 have sp_4 : Sep (blkA A_5) (blkA A_4) := (Sep.new lt_4 gz_1).symm
 refine ⟨_, rfl, ?_⟩
 refine q_at (pe hs rfl rfl) ?_
 refine q_as (.int .i64 ((0 : Nat) : Int)) rfl ?_
 refine x_nil (hK_14 _ _ ?_)
 refine w2_ret ?_
 refine ret2 rfl hd (pe hs rfl rfl) (pe hs rfl rfl) ?_
 exact ⟨_, _, rfl, ho_5, ⟨fun j => M j ∨ blkA A_1 j ∨ blkA A_4 j, ⟨fun j hj => hj.elim (fun h => Nat.lt_of_lt_of_le (hlt9 j h) HB_5.size) (fun h => h.elim (ho_1.lt j) (ho_4.lt j)), ⟨hSck, (shaL_length _), (by simp only [l_psk]), (by simp only [l_own]), (by simp only [l_pub]), (by simp only [l_stc])⟩, A_1, c_1, A_4, c_4, (some ⟨gc_1, 0, none⟩), A_p, c_p, A_o, c_o, A_u, c_u, A_z, c_z, A_t, c_t, (by dsimp only; rw [hot]; exact hB_3), .inl hMg9, ⟨ho_1.wt, fun j hj => .inr (.inl hj)⟩, ⟨ho_4.wt, fun j hj => .inr (.inr hj)⟩, ⟨w_p, fun j hj => .inl (m_p j hj)⟩, ⟨w_o, fun j hj => .inl (m_o j hj)⟩, ⟨w_u, fun j hj => .inl (m_u j hj)⟩, ⟨w_z, fun j hj => .inl (m_z j hj)⟩, ⟨w_t, fun j hj => .inl (m_t j hj)⟩⟩, fun j hj => hj.imp id (fun h => h.elim (ho_1.ge' j) (ho_4.ge' j)), fun j hj hm => hm.elim (fun h => absurd (hlt9 j h) (Nat.not_lt.2 (ho_5.ge' j hj))) (fun h => h.elim (sp_1 j hj) (sp_4 j hj))⟩, HB_5.mono (fun k _ hk => by rw [hk]; exact hMg9)⟩
theorem Bs.firstH {w : World} {A : Option Addr} {c : Nat} {xs rest : List Nat} (h : Bs w A c (xs ++ rest)) (hn : xs.length = 32) : Bs w (subA A 0 c) c xs := by
 have h1 := Bs.sub h (l := 0) (q := 32) (m := c) (by omega) (by have := h.le; rw [List.length_append] at this; omega) (Nat.le_refl _)
 rw [List.drop_zero, Nat.sub_zero, Nat.sub_zero, List.take_left' hn] at h1
 exact h1
theorem Bs.restH {w : World} {A : Option Addr} {c q : Nat} {xs rest : List Nat} (h : Bs w A c (xs ++ rest)) (hn : xs.length = 32) (hq : (xs ++ rest).length = q) : Bs w (subA A 32 c) (c - 32) rest := by
 have hl := h.le
 have h1 := Bs.sub h (l := 32) (q := q) (m := c) (by rw [List.length_append] at hq; omega) (by omega) (Nat.le_refl _)
 rw [List.drop_left' hn, List.take_of_length_le (by rw [List.length_append] at hq; omega)] at h1
 exact h1
theorem Read_first {M : Nat → Prop} {g : Nat} {ck hh psk ks pu st ot : List Nat} {n : Nat} {A0 : Option Addr} {c0 q : Nat} {xs rest ys : List Nat} (w : World) (hH : HandAt w M g ⟨ck, hh, psk, ks, pu, st, ot, false, false, 1⟩) (h0 : Bs w A0 c0 (xs ++ rest)) (hq : (xs ++ rest).length = q) (hl0 : 48 ≤ q) (hl : q ≤ 4144) (hxl : xs.length = 32) (hn9 : ¬ ell ∣ n) (hu9 : numL xs = plN n) (hr9 : openL (firstS ck hh psk xs (dhL st n)).k (nonceL 0) (firstS ck hh psk xs (dhL st n)).h rest = (ys, 0)) :
  Calls Try.prog 20 #[.pointer (some ⟨g, 0, none⟩), .slice A0 (q) (c0)] w fun e w' => ∃ A c, e = .returned (.tuple #[.slice A ys.length c, .int .i64 0]) ∧ Own w' w.heap.size A c ys ∧ (∃ M', HandAt w' M' g ⟨(firstS ck hh psk xs (dhL st n)).ck, shaL ((firstS ck hh psk xs (dhL st n)).h ++ rest), psk, ks, pu, st, xs, false, true, 0⟩ ∧ NextM w M M' ∧ Sep (blkA A) M') ∧ BelowX M w w' := by
 obtain ⟨hlt9, ⟨l_ck, l_h, l_psk, l_own, l_pub, l_stc⟩, A_c, c_c, A_h, c_h, v_2, A_p, c_p, A_o, c_o, A_u, c_u, A_z, c_z, A_t, c_t, hB9, hMg9, ⟨w_c, m_c⟩, ⟨w_h, m_h⟩, ⟨w_p, m_p⟩, ⟨w_o, m_o⟩, ⟨w_u, m_u⟩, ⟨w_z, m_z⟩, ⟨w_t, m_t⟩⟩ := hH
 dsimp only at l_ck l_h l_psk l_own l_pub l_stc hB9 w_c w_h w_p w_o w_u w_z w_t
 have hSck : (firstS ck hh psk xs (dhL st n)).ck.length = 32 := chT_length _ _
 have hSh : (firstS ck hh psk xs (dhL st n)).h.length = 32 := shaL_length _
 have hS1 := h0.firstH hxl
 have hS2 := h0.restH hxl hq
 have hcl := h0.le
 have hrl : rest.length = q - 32 := by rw [List.length_append] at hq; omega
 refine x_enter 48 Try.func20 rfl rfl (fun a hs hd ha0 => ?_)
 have t0 : a.eval (.tmp 0) = .pointer (some ⟨g, 0, none⟩) := ha0 0 _ rfl
 have t1 : a.eval (.tmp 1) = .slice A0 (q) (c0) := ha0 1 _ rfl
 clear ha0
 have HB0 : BelowX (fun k => k = g) w w := BelowX.refl _ _
 refine w2_sr (fun K_1 hK_1 => ?_)
 refine q_as (.slice none (0) (0)) rfl ?_
 refine q_as (.int .i64 ((0 : Nat) : Int)) rfl ?_
 refine x_nil (hK_1 _ _ ?_)
 refine w2_seq (fun K_2 hK_2 => ?_)
 refine w2_sr (fun K_3 hK_3 => ?_)
 refine q_mv ((pm rfl).trans t0) ?_
 refine q_ca (vs := #[.pointer (some ⟨g, 0, none⟩), .int .i64 ((1 : Nat) : Int)]) Try.func34 (args2 (pe hs rfl rfl) rfl) (ready_ok _ hB9 (by decide)) (fun e_1 w_1 hR_1 => ?_)
 obtain ⟨rfl, rfl⟩ := hR_1
 refine ⟨_, rfl, ?_⟩
 refine q_at (v := .int .i64 ((0 : Nat) : Int)) (pe hs rfl rfl) ?_
 refine x_nil (hK_3 _ _ ?_)
 refine w2_sr (fun K_4 hK_4 => ?_)
 refine q_mv (v := .int .i64 ((0 : Nat) : Int)) (pe hs rfl rfl) ?_
 refine q_v 12 (.bool (false)) (o_eq (o_neq (m := 0) (n := 0) rfl (pe hs rfl rfl) rfl) rfl) ?_
 refine x_nil (hK_4 _ _ ?_)
 refine w2_condF (pe hs rfl rfl) ?_
 refine w2_skip ?_
 refine hK_2 _ _ ?_
 refine w2_seq (fun K_5 hK_5 => ?_)
 refine w2_block (fun K_6 hK_6 => ?_)
 refine w2_sr (fun K_7 hK_7 => ?_)
 refine q_mv ((pm rfl).trans t1) ?_
 refine q_v 16 (.int .i64 ((q : Nat) : Int)) (o_len rfl (pe hs rfl rfl)) ?_
 refine q_v 17 (.bool (false)) (o_eq (o_lss (m := q) (n := 48) rfl (pe hs rfl rfl) rfl) (by rw [decide_eq_false (by omega)])) ?_
 refine q_at (pe hs rfl rfl) ?_
 refine x_nil (hK_7 _ _ ?_)
 refine w2_condF (pe hs rfl rfl) ?_
 refine w2_sr (fun K_8 hK_8 => ?_)
 refine q_mv ((pm rfl).trans t1) ?_
 refine q_v 20 (.int .i64 ((q : Nat) : Int)) (o_len rfl (pe hs rfl rfl)) ?_
 refine q_v 21 (.bool (false)) (o_eq (o_gtr (m := q) (n := 4144) rfl (pe hs rfl rfl) rfl) (by rw [decide_eq_false (by omega)])) ?_
 refine q_at (pe hs rfl rfl) ?_
 refine x_nil (hK_8 _ _ ?_)
 refine w2_condF (pe hs rfl rfl) ?_
 refine w2_skip ?_
 refine hK_6 _ _ ?_
 refine hK_5 _ _ ?_
 refine w2_sr (fun K_9 hK_9 => ?_)
 refine q_mv ((pm rfl).trans t0) ?_
 refine q_mv ((pm rfl).trans t1) ?_
 refine q_v 24 (.slice ((subA A0 0 c0)) (32) (c0)) (o_sliceH (h := 32) rfl (pe hs rfl rfl) rfl (by omega)) ?_
 refine q_ca (vs := #[.slice ((subA A0 0 c0)) (32) (c0)]) Try.func26 (args1 (pe hs rfl rfl)) (Clone_any _ hS1 hxl (by omega)) (fun e_2 w_2 hR_2 => ?_)
 obtain ⟨A_1, c_1, rfl, ho_1, hb_2⟩ := hR_2
 replace ho_1 := ho_1.mono HB0.size
 replace hB9 := hB9.nx hb_2
 replace w_c := w_c.nx hb_2
 replace w_h := w_h.nx hb_2
 replace w_p := w_p.nx hb_2
 replace w_o := w_o.nx hb_2
 replace w_u := w_u.nx hb_2
 replace w_z := w_z.nx hb_2
 replace hS1 := hS1.nx hb_2
 replace hS2 := hS2.nx hb_2
 replace h0 := h0.nx hb_2
 have HB_1 := HB0.then hb_2
 refine ⟨_, rfl, ?_⟩
 refine q_nc (pe hs rfl rfl) ?_
 refine q_fa 10 (pe hs rfl rfl) ?_
 refine op_do rfl rfl (o_store1 rfl (pe hs rfl rfl) (pe hs rfl rfl) rfl rfl hB9 (by simp only [List.length_cons, List.length_nil]; omega) ⟨by kernel_rfl, by kernel_rfl⟩) (fun w_3 hR_3 => ?_)
 obtain ⟨hB_1, hX_1⟩ := hR_3
 replace w_c := w_c.keepX hB9 (by decide) hX_1
 replace w_h := w_h.keepX hB9 (by decide) hX_1
 replace w_p := w_p.keepX hB9 (by decide) hX_1
 replace w_o := w_o.keepX hB9 (by decide) hX_1
 replace w_u := w_u.keepX hB9 (by decide) hX_1
 replace w_z := w_z.keepX hB9 (by decide) hX_1
 replace hS1 := hS1.keepH hB9 (by intro z; simp) hX_1
 replace hS2 := hS2.keepH hB9 (by intro z; simp) hX_1
 replace h0 := h0.keepH hB9 (by intro z; simp) hX_1
 replace ho_1 := ho_1.keepX hB9 (by decide) hX_1
 have HB_2 := HB_1.step hX_1 (fun k hk (hY : k = g) => hY)
 clear hB9
 simp only [List.set_cons_zero, List.set_cons_succ] at hB_1
 refine x_nil (hK_9 _ _ ?_)
 refine w2_sr (fun K_10 hK_10 => ?_)
 refine q_as (.slice none (0) (0)) rfl ?_
 refine x_nil (hK_10 _ _ ?_)
 refine w2_sr (fun K_11 hK_11 => ?_)
 refine q_mv ((pm rfl).trans t0) ?_
 refine q_mv ((pm rfl).trans t0) ?_
 refine q_nc (pe hs rfl rfl) ?_
 refine q_fa 10 (pe hs rfl rfl) ?_
 refine q_ld (v := .slice A_1 (32) (c_1)) (pe hs rfl rfl) hB_1 rfl ?_
 refine q_ca (vs := #[.pointer (some ⟨g, 0, none⟩), .slice A_1 (32) (c_1)]) Try.func35 (args2 (pe hs rfl rfl) (pe hs rfl rfl)) (keys_b _ hB_1 w_c (by simp only [l_ck]) w_h (by simp only [l_h]) w_p (by simp only [l_psk]) w_z (by simp only [l_stc]) (ho_1).wt hxl (ho_1).wt hxl hn9 hu9) (fun e_3 w_4 hR_4 => ?_)
 obtain ⟨A_2, c_2, A_3, c_3, N_1, gc_1, rfl, hB_2, ho_2, ho_3, hC_1, hge_1, hX_2⟩ := hR_4
 have hn_1 : ¬ N_1 g := fun h => absurd hB_1.lt (Nat.not_lt.2 (hge_1 _ h))
 have gg_1 := hge_1.down HB_2.size
 replace ho_2 := ho_2.mono HB_2.size
 replace ho_3 := ho_3.mono HB_2.size
 replace w_p := w_p.keepX hB_1 (by decide) hX_2
 replace w_o := w_o.keepX hB_1 (by decide) hX_2
 replace w_u := w_u.keepX hB_1 (by decide) hX_2
 replace w_z := w_z.keepX hB_1 (by decide) hX_2
 replace hS1 := hS1.keepH hB_1 (by intro z; simp) hX_2
 replace hS2 := hS2.keepH hB_1 (by intro z; simp) hX_2
 replace h0 := h0.keepH hB_1 (by intro z; simp) hX_2
 replace ho_1 := ho_1.keepX hB_1 (by decide) hX_2
 have HB_3 := HB_2.step hX_2 (fun k hk (hY : k = g) => hY)
 clear hB_1
 refine ⟨_, rfl, ?_⟩
 refine q_at (v := .int .i64 ((0 : Nat) : Int)) (pe hs rfl rfl) ?_
 refine x_nil (hK_11 _ _ ?_)
 refine w2_seq (fun K_12 hK_12 => ?_)
 refine w2_sr (fun K_13 hK_13 => ?_)
 refine q_mv (v := .int .i64 ((0 : Nat) : Int)) (pe hs rfl rfl) ?_
 refine q_v 35 (.bool (true)) (o_eq (o_eql (m := 0) (n := 0) rfl (pe hs rfl rfl) rfl) rfl) ?_
 refine x_nil (hK_13 _ _ ?_)
 refine w2_condT (pe hs rfl rfl) ?_
 refine x_region (by kernel_rfl) ?_
 refine q_mv ((pm rfl).trans t0) ?_
 refine q_mv ((pm rfl).trans t1) ?_
 refine q_v 39 (.slice ((subA A0 32 c0)) (q - 32) (c0 - 32)) (o_sliceL (l := 32) rfl (pe hs rfl rfl) rfl (by omega)) ?_
 refine q_ca (vs := #[.pointer (some ⟨g, 0, none⟩), .slice ((subA A0 32 c0)) (q - 32) (c0 - 32)]) Try.func36 (args2 (pe hs rfl rfl) (pe hs rfl rfl)) (open_ok (r := 0) _ hB_2 (ho_3).wt hSh hC_1 hn_1 hS2 hrl (by omega) hr9 rfl) (fun e_4 w_5 hR_5 => ?_)
 obtain ⟨A_4, c_4, A_5, c_5, rfl, hB_3, ho_4, ho_5, spx_1, hX_3⟩ := hR_5
 have sp_1 : Sep (blkA A_4) (blkA A_1) := (Sep.new ho_1.lt ho_4.ge').symm
 have sp_2 : Sep (blkA A_4) (blkA A_2) := (Sep.new ho_2.lt ho_4.ge').symm
 replace ho_4 := ho_4.mono HB_3.size
 replace ho_5 := ho_5.mono HB_3.size
 replace w_p := w_p.keep2 hB_2 (by decide) hC_1 hX_3
 replace w_o := w_o.keep2 hB_2 (by decide) hC_1 hX_3
 replace w_u := w_u.keep2 hB_2 (by decide) hC_1 hX_3
 replace w_z := w_z.keep2 hB_2 (by decide) hC_1 hX_3
 replace ho_1 := ho_1.keep2 hB_2 (by decide) hC_1 hX_3
 replace ho_2 := ho_2.keep2 hB_2 (by decide) hC_1 hX_3
 have HB_4 := HB_3.step hX_3 (fun k hk hY => hY.elim id (fun hY => absurd hk (Nat.not_lt.2 (by rw [hY]; exact gg_1 _ hC_1.mem))))
 refine ⟨_, rfl, ?_⟩
 refine q_mv (pe hs rfl rfl) ?_
 refine q_ex (v := .slice A_4 (ys.length) (c_4)) (pe hs rfl rfl) rfl ?_
 refine q_ex (v := .int .i64 ((0 : Nat) : Int)) (pe hs rfl rfl) rfl ?_
 refine q_at (pe hs rfl rfl) ?_
 refine q_at (v := .int .i64 ((0 : Nat) : Int)) (pe hs rfl rfl) ?_
 refine x_nil (hK_12 _ _ ?_)
 refine w2_sr (fun K_14 hK_14 => ?_)
 refine q_mv ((pm rfl).trans t0) ?_
 refine q_mv (v := .int .i64 ((0 : Nat) : Int)) (pe hs rfl rfl) ?_
 refine q_ca (vs := #[.pointer (some ⟨g, 0, none⟩), .int .i64 ((0 : Nat) : Int), .int .i64 ((0 : Nat) : Int)]) Try.func37 (args3 (pe hs rfl rfl) (pe hs rfl rfl) rfl) (done_first (en := 0) _ hB_3) (fun e_5 w_6 hR_6 => ?_)
 obtain ⟨rfl, hB_4, hX_4⟩ := hR_6
 replace w_p := w_p.keepX hB_3 (by decide) hX_4
 replace w_o := w_o.keepX hB_3 (by decide) hX_4
 replace w_u := w_u.keepX hB_3 (by decide) hX_4
 replace w_z := w_z.keepX hB_3 (by decide) hX_4
 replace ho_1 := ho_1.keepX hB_3 (by decide) hX_4
 replace ho_2 := ho_2.keepX hB_3 (by decide) hX_4
 replace ho_4 := ho_4.keepX hB_3 (by decide) hX_4
 replace ho_5 := ho_5.keepX hB_3 (by decide) hX_4
 have HB_5 := HB_4.step hX_4 (fun k hk (hY : k = g) => hY)
 clear hB_3
 refine ⟨_, rfl, ?_⟩
 refine x_nil (hK_14 _ _ ?_)
 refine w2_sr (fun K_15 hK_15 => ?_)
 refine q_mv (pe hs rfl rfl) ?_
 refine q_mv (v := .int .i64 ((0 : Nat) : Int)) (pe hs rfl rfl) ?_
 refine q_at (pe hs rfl rfl) ?_
 refine q_at (v := .int .i64 ((0 : Nat) : Int)) (pe hs rfl rfl) ?_
 refine x_nil (hK_15 _ _ ?_)
 refine w2_ret ?_
 refine ret2 rfl hd (pe hs rfl rfl) (pe hs rfl rfl) ?_
 exact ⟨_, _, rfl, ho_4, ⟨fun j => M j ∨ blkA A_2 j ∨ blkA A_5 j ∨ blkA A_1 j, ⟨fun j hj => hj.elim (fun h => Nat.lt_of_lt_of_le (hlt9 j h) HB_5.size) (fun h => h.elim (ho_2.lt j) (fun h => h.elim (ho_5.lt j) (ho_1.lt j))), ⟨hSck, (shaL_length _), (by simp only [l_psk]), (by simp only [l_own]), (by simp only [l_pub]), (by simp only [l_stc])⟩, A_2, c_2, A_5, c_5, (some ⟨gc_1, 0, none⟩), A_p, c_p, A_o, c_o, A_u, c_u, A_z, c_z, A_1, c_1, (by dsimp only; rw [hxl]; exact hB_4), .inl hMg9, ⟨ho_2.wt, fun j hj => .inr (.inl hj)⟩, ⟨ho_5.wt, fun j hj => .inr (.inr (.inl hj))⟩, ⟨w_p, fun j hj => .inl (m_p j hj)⟩, ⟨w_o, fun j hj => .inl (m_o j hj)⟩, ⟨w_u, fun j hj => .inl (m_u j hj)⟩, ⟨w_z, fun j hj => .inl (m_z j hj)⟩, ⟨ho_1.wt, fun j hj => .inr (.inr (.inr hj))⟩⟩, fun j hj => hj.imp id (fun h => h.elim (ho_2.ge' j) (fun h => h.elim (ho_5.ge' j) (ho_1.ge' j))), fun j hj hm => hm.elim (fun h => absurd (hlt9 j h) (Nat.not_lt.2 (ho_4.ge' j hj))) (fun h => h.elim (sp_2 j hj) (fun h => h.elim (spx_1 j hj) (sp_1 j hj)))⟩, HB_5.mono (fun k _ hk => by rw [hk]; exact hMg9)⟩
theorem Read_second {M : Nat → Prop} {g : Nat} {ck hh psk ks pu st ot : List Nat} {asks : Bool} {n : Nat} {A0 : Option Addr} {c0 q : Nat} {xs rest ys : List Nat} (w : World) (hH : HandAt w M g ⟨ck, hh, psk, ks, pu, st, ot, asks, true, 1⟩) (h0 : Bs w A0 c0 (xs ++ rest)) (hq : (xs ++ rest).length = q) (hl0 : 48 ≤ q) (hl : q ≤ 4144) (hxl : xs.length = 32) (hn9 : ¬ ell ∣ n) (hu9 : numL xs = plN n) (hr9 : openL (secondS ck hh xs (dhL ks n)).k (nonceL 0) (secondS ck hh xs (dhL ks n)).h rest = (ys, 0)) :
  Calls Try.prog 20 #[.pointer (some ⟨g, 0, none⟩), .slice A0 (q) (c0)] w fun e w' => ∃ A c, e = .returned (.tuple #[.slice A ys.length c, .int .i64 0]) ∧ Own w' w.heap.size A c ys ∧ (∃ M', HandAt w' M' g ⟨(secondS ck hh xs (dhL ks n)).ck, shaL ((secondS ck hh xs (dhL ks n)).h ++ rest), psk, ks, pu, st, xs, asks, true, 2⟩ ∧ NextM w M M' ∧ Sep (blkA A) M') ∧ BelowX M w w' := by
 obtain ⟨hlt9, ⟨l_ck, l_h, l_psk, l_own, l_pub, l_stc⟩, A_c, c_c, A_h, c_h, v_2, A_p, c_p, A_o, c_o, A_u, c_u, A_z, c_z, A_t, c_t, hB9, hMg9, ⟨w_c, m_c⟩, ⟨w_h, m_h⟩, ⟨w_p, m_p⟩, ⟨w_o, m_o⟩, ⟨w_u, m_u⟩, ⟨w_z, m_z⟩, ⟨w_t, m_t⟩⟩ := hH
 dsimp only at l_ck l_h l_psk l_own l_pub l_stc hB9 w_c w_h w_p w_o w_u w_z w_t
 have hSck : (secondS ck hh xs (dhL ks n)).ck.length = 32 := chT_length _ _
 have hSh : (secondS ck hh xs (dhL ks n)).h.length = 32 := shaL_length _
 have hS1 := h0.firstH hxl
 have hS2 := h0.restH hxl hq
 have hcl := h0.le
 have hrl : rest.length = q - 32 := by rw [List.length_append] at hq; omega
 refine x_enter 48 Try.func20 rfl rfl (fun a hs hd ha0 => ?_)
 have t0 : a.eval (.tmp 0) = .pointer (some ⟨g, 0, none⟩) := ha0 0 _ rfl
 have t1 : a.eval (.tmp 1) = .slice A0 (q) (c0) := ha0 1 _ rfl
 clear ha0
 have HB0 : BelowX (fun k => k = g) w w := BelowX.refl _ _
 refine w2_sr (fun K_1 hK_1 => ?_)
 refine q_as (.slice none (0) (0)) rfl ?_
 refine q_as (.int .i64 ((0 : Nat) : Int)) rfl ?_
 refine x_nil (hK_1 _ _ ?_)
 refine w2_seq (fun K_2 hK_2 => ?_)
 refine w2_sr (fun K_3 hK_3 => ?_)
 refine q_mv ((pm rfl).trans t0) ?_
 refine q_ca (vs := #[.pointer (some ⟨g, 0, none⟩), .int .i64 ((1 : Nat) : Int)]) Try.func34 (args2 (pe hs rfl rfl) rfl) (ready_ok _ hB9 (by decide)) (fun e_1 w_1 hR_1 => ?_)
 obtain ⟨rfl, rfl⟩ := hR_1
 refine ⟨_, rfl, ?_⟩
 refine q_at (v := .int .i64 ((0 : Nat) : Int)) (pe hs rfl rfl) ?_
 refine x_nil (hK_3 _ _ ?_)
 refine w2_sr (fun K_4 hK_4 => ?_)
 refine q_mv (v := .int .i64 ((0 : Nat) : Int)) (pe hs rfl rfl) ?_
 refine q_v 12 (.bool (false)) (o_eq (o_neq (m := 0) (n := 0) rfl (pe hs rfl rfl) rfl) rfl) ?_
 refine x_nil (hK_4 _ _ ?_)
 refine w2_condF (pe hs rfl rfl) ?_
 refine w2_skip ?_
 refine hK_2 _ _ ?_
 refine w2_seq (fun K_5 hK_5 => ?_)
 refine w2_block (fun K_6 hK_6 => ?_)
 refine w2_sr (fun K_7 hK_7 => ?_)
 refine q_mv ((pm rfl).trans t1) ?_
 refine q_v 16 (.int .i64 ((q : Nat) : Int)) (o_len rfl (pe hs rfl rfl)) ?_
 refine q_v 17 (.bool (false)) (o_eq (o_lss (m := q) (n := 48) rfl (pe hs rfl rfl) rfl) (by rw [decide_eq_false (by omega)])) ?_
 refine q_at (pe hs rfl rfl) ?_
 refine x_nil (hK_7 _ _ ?_)
 refine w2_condF (pe hs rfl rfl) ?_
 refine w2_sr (fun K_8 hK_8 => ?_)
 refine q_mv ((pm rfl).trans t1) ?_
 refine q_v 20 (.int .i64 ((q : Nat) : Int)) (o_len rfl (pe hs rfl rfl)) ?_
 refine q_v 21 (.bool (false)) (o_eq (o_gtr (m := q) (n := 4144) rfl (pe hs rfl rfl) rfl) (by rw [decide_eq_false (by omega)])) ?_
 refine q_at (pe hs rfl rfl) ?_
 refine x_nil (hK_8 _ _ ?_)
 refine w2_condF (pe hs rfl rfl) ?_
 refine w2_skip ?_
 refine hK_6 _ _ ?_
 refine hK_5 _ _ ?_
 refine w2_sr (fun K_9 hK_9 => ?_)
 refine q_mv ((pm rfl).trans t0) ?_
 refine q_mv ((pm rfl).trans t1) ?_
 refine q_v 24 (.slice ((subA A0 0 c0)) (32) (c0)) (o_sliceH (h := 32) rfl (pe hs rfl rfl) rfl (by omega)) ?_
 refine q_ca (vs := #[.slice ((subA A0 0 c0)) (32) (c0)]) Try.func26 (args1 (pe hs rfl rfl)) (Clone_any _ hS1 hxl (by omega)) (fun e_2 w_2 hR_2 => ?_)
 obtain ⟨A_1, c_1, rfl, ho_1, hb_2⟩ := hR_2
 replace ho_1 := ho_1.mono HB0.size
 replace hB9 := hB9.nx hb_2
 replace w_c := w_c.nx hb_2
 replace w_h := w_h.nx hb_2
 replace w_p := w_p.nx hb_2
 replace w_o := w_o.nx hb_2
 replace w_u := w_u.nx hb_2
 replace w_z := w_z.nx hb_2
 replace hS1 := hS1.nx hb_2
 replace hS2 := hS2.nx hb_2
 replace h0 := h0.nx hb_2
 have HB_1 := HB0.then hb_2
 refine ⟨_, rfl, ?_⟩
 refine q_nc (pe hs rfl rfl) ?_
 refine q_fa 10 (pe hs rfl rfl) ?_
 refine op_do rfl rfl (o_store1 rfl (pe hs rfl rfl) (pe hs rfl rfl) rfl rfl hB9 (by simp only [List.length_cons, List.length_nil]; omega) ⟨by kernel_rfl, by kernel_rfl⟩) (fun w_3 hR_3 => ?_)
 obtain ⟨hB_1, hX_1⟩ := hR_3
 replace w_c := w_c.keepX hB9 (by decide) hX_1
 replace w_h := w_h.keepX hB9 (by decide) hX_1
 replace w_p := w_p.keepX hB9 (by decide) hX_1
 replace w_o := w_o.keepX hB9 (by decide) hX_1
 replace w_u := w_u.keepX hB9 (by decide) hX_1
 replace w_z := w_z.keepX hB9 (by decide) hX_1
 replace hS1 := hS1.keepH hB9 (by intro z; simp) hX_1
 replace hS2 := hS2.keepH hB9 (by intro z; simp) hX_1
 replace h0 := h0.keepH hB9 (by intro z; simp) hX_1
 replace ho_1 := ho_1.keepX hB9 (by decide) hX_1
 have HB_2 := HB_1.step hX_1 (fun k hk (hY : k = g) => hY)
 clear hB9
 simp only [List.set_cons_zero, List.set_cons_succ] at hB_1
 refine x_nil (hK_9 _ _ ?_)
 refine w2_sr (fun K_10 hK_10 => ?_)
 refine q_as (.slice none (0) (0)) rfl ?_
 refine x_nil (hK_10 _ _ ?_)
 refine w2_sr (fun K_11 hK_11 => ?_)
 refine q_mv ((pm rfl).trans t0) ?_
 refine q_mv ((pm rfl).trans t0) ?_
 refine q_nc (pe hs rfl rfl) ?_
 refine q_fa 10 (pe hs rfl rfl) ?_
 refine q_ld (v := .slice A_1 (32) (c_1)) (pe hs rfl rfl) hB_1 rfl ?_
 refine q_ca (vs := #[.pointer (some ⟨g, 0, none⟩), .slice A_1 (32) (c_1)]) Try.func35 (args2 (pe hs rfl rfl) (pe hs rfl rfl)) (keys_2 _ hB_1 w_c (by simp only [l_ck]) w_h (by simp only [l_h]) w_o (by simp only [l_own]) (ho_1).wt hxl (ho_1).wt hxl hn9 hu9) (fun e_3 w_4 hR_4 => ?_)
 obtain ⟨A_2, c_2, A_3, c_3, N_1, gc_1, rfl, hB_2, ho_2, ho_3, hC_1, hge_1, hX_2⟩ := hR_4
 have hn_1 : ¬ N_1 g := fun h => absurd hB_1.lt (Nat.not_lt.2 (hge_1 _ h))
 have gg_1 := hge_1.down HB_2.size
 replace ho_2 := ho_2.mono HB_2.size
 replace ho_3 := ho_3.mono HB_2.size
 replace w_p := w_p.keepX hB_1 (by decide) hX_2
 replace w_o := w_o.keepX hB_1 (by decide) hX_2
 replace w_u := w_u.keepX hB_1 (by decide) hX_2
 replace w_z := w_z.keepX hB_1 (by decide) hX_2
 replace hS1 := hS1.keepH hB_1 (by intro z; simp) hX_2
 replace hS2 := hS2.keepH hB_1 (by intro z; simp) hX_2
 replace h0 := h0.keepH hB_1 (by intro z; simp) hX_2
 replace ho_1 := ho_1.keepX hB_1 (by decide) hX_2
 have HB_3 := HB_2.step hX_2 (fun k hk (hY : k = g) => hY)
 clear hB_1
 refine ⟨_, rfl, ?_⟩
 refine q_at (v := .int .i64 ((0 : Nat) : Int)) (pe hs rfl rfl) ?_
 refine x_nil (hK_11 _ _ ?_)
 refine w2_seq (fun K_12 hK_12 => ?_)
 refine w2_sr (fun K_13 hK_13 => ?_)
 refine q_mv (v := .int .i64 ((0 : Nat) : Int)) (pe hs rfl rfl) ?_
 refine q_v 35 (.bool (true)) (o_eq (o_eql (m := 0) (n := 0) rfl (pe hs rfl rfl) rfl) rfl) ?_
 refine x_nil (hK_13 _ _ ?_)
 refine w2_condT (pe hs rfl rfl) ?_
 refine x_region (by kernel_rfl) ?_
 refine q_mv ((pm rfl).trans t0) ?_
 refine q_mv ((pm rfl).trans t1) ?_
 refine q_v 39 (.slice ((subA A0 32 c0)) (q - 32) (c0 - 32)) (o_sliceL (l := 32) rfl (pe hs rfl rfl) rfl (by omega)) ?_
 refine q_ca (vs := #[.pointer (some ⟨g, 0, none⟩), .slice ((subA A0 32 c0)) (q - 32) (c0 - 32)]) Try.func36 (args2 (pe hs rfl rfl) (pe hs rfl rfl)) (open_ok (r := 0) _ hB_2 (ho_3).wt hSh hC_1 hn_1 hS2 hrl (by omega) hr9 rfl) (fun e_4 w_5 hR_5 => ?_)
 obtain ⟨A_4, c_4, A_5, c_5, rfl, hB_3, ho_4, ho_5, spx_1, hX_3⟩ := hR_5
 have sp_1 : Sep (blkA A_4) (blkA A_1) := (Sep.new ho_1.lt ho_4.ge').symm
 have sp_2 : Sep (blkA A_4) (blkA A_2) := (Sep.new ho_2.lt ho_4.ge').symm
 replace ho_4 := ho_4.mono HB_3.size
 replace ho_5 := ho_5.mono HB_3.size
 replace w_p := w_p.keep2 hB_2 (by decide) hC_1 hX_3
 replace w_o := w_o.keep2 hB_2 (by decide) hC_1 hX_3
 replace w_u := w_u.keep2 hB_2 (by decide) hC_1 hX_3
 replace w_z := w_z.keep2 hB_2 (by decide) hC_1 hX_3
 replace ho_1 := ho_1.keep2 hB_2 (by decide) hC_1 hX_3
 replace ho_2 := ho_2.keep2 hB_2 (by decide) hC_1 hX_3
 have HB_4 := HB_3.step hX_3 (fun k hk hY => hY.elim id (fun hY => absurd hk (Nat.not_lt.2 (by rw [hY]; exact gg_1 _ hC_1.mem))))
 refine ⟨_, rfl, ?_⟩
 refine q_mv (pe hs rfl rfl) ?_
 refine q_ex (v := .slice A_4 (ys.length) (c_4)) (pe hs rfl rfl) rfl ?_
 refine q_ex (v := .int .i64 ((0 : Nat) : Int)) (pe hs rfl rfl) rfl ?_
 refine q_at (pe hs rfl rfl) ?_
 refine q_at (v := .int .i64 ((0 : Nat) : Int)) (pe hs rfl rfl) ?_
 refine x_nil (hK_12 _ _ ?_)
 refine w2_sr (fun K_14 hK_14 => ?_)
 refine q_mv ((pm rfl).trans t0) ?_
 refine q_mv (v := .int .i64 ((0 : Nat) : Int)) (pe hs rfl rfl) ?_
 refine q_ca (vs := #[.pointer (some ⟨g, 0, none⟩), .int .i64 ((0 : Nat) : Int), .int .i64 ((0 : Nat) : Int)]) Try.func37 (args3 (pe hs rfl rfl) (pe hs rfl rfl) rfl) (done_second (en := 0) _ hB_3) (fun e_5 w_6 hR_6 => ?_)
 obtain ⟨rfl, hB_4, hX_4⟩ := hR_6
 replace w_p := w_p.keepX hB_3 (by decide) hX_4
 replace w_o := w_o.keepX hB_3 (by decide) hX_4
 replace w_u := w_u.keepX hB_3 (by decide) hX_4
 replace w_z := w_z.keepX hB_3 (by decide) hX_4
 replace ho_1 := ho_1.keepX hB_3 (by decide) hX_4
 replace ho_2 := ho_2.keepX hB_3 (by decide) hX_4
 replace ho_4 := ho_4.keepX hB_3 (by decide) hX_4
 replace ho_5 := ho_5.keepX hB_3 (by decide) hX_4
 have HB_5 := HB_4.step hX_4 (fun k hk (hY : k = g) => hY)
 clear hB_3
 refine ⟨_, rfl, ?_⟩
 refine x_nil (hK_14 _ _ ?_)
 refine w2_sr (fun K_15 hK_15 => ?_)
 refine q_mv (pe hs rfl rfl) ?_
 refine q_mv (v := .int .i64 ((0 : Nat) : Int)) (pe hs rfl rfl) ?_
 refine q_at (pe hs rfl rfl) ?_
 refine q_at (v := .int .i64 ((0 : Nat) : Int)) (pe hs rfl rfl) ?_
 refine x_nil (hK_15 _ _ ?_)
 refine w2_ret ?_
 refine ret2 rfl hd (pe hs rfl rfl) (pe hs rfl rfl) ?_
 exact ⟨_, _, rfl, ho_4, ⟨fun j => M j ∨ blkA A_2 j ∨ blkA A_5 j ∨ blkA A_1 j, ⟨fun j hj => hj.elim (fun h => Nat.lt_of_lt_of_le (hlt9 j h) HB_5.size) (fun h => h.elim (ho_2.lt j) (fun h => h.elim (ho_5.lt j) (ho_1.lt j))), ⟨hSck, (shaL_length _), (by simp only [l_psk]), (by simp only [l_own]), (by simp only [l_pub]), (by simp only [l_stc])⟩, A_2, c_2, A_5, c_5, (some ⟨gc_1, 0, none⟩), A_p, c_p, A_o, c_o, A_u, c_u, A_z, c_z, A_1, c_1, (by dsimp only; rw [hxl]; exact hB_4), .inl hMg9, ⟨ho_2.wt, fun j hj => .inr (.inl hj)⟩, ⟨ho_5.wt, fun j hj => .inr (.inr (.inl hj))⟩, ⟨w_p, fun j hj => .inl (m_p j hj)⟩, ⟨w_o, fun j hj => .inl (m_o j hj)⟩, ⟨w_u, fun j hj => .inl (m_u j hj)⟩, ⟨w_z, fun j hj => .inl (m_z j hj)⟩, ⟨ho_1.wt, fun j hj => .inr (.inr (.inr hj))⟩⟩, fun j hj => hj.imp id (fun h => h.elim (ho_2.ge' j) (fun h => h.elim (ho_5.ge' j) (ho_1.ge' j))), fun j hj hm => hm.elim (fun h => absurd (hlt9 j h) (Nat.not_lt.2 (ho_4.ge' j hj))) (fun h => h.elim (sp_2 j hj) (fun h => h.elim (spx_1 j hj) (sp_1 j hj)))⟩, HB_5.mono (fun k _ hk => by rw [hk]; exact hMg9)⟩
theorem Write_state {M : Nat → Prop} {g : Nat} {s : HS} {A0 : Option Addr} {c0 q : Nat} (w : World) (hH : HandAt w M g s) (ht : ¬ s.turn = 3) (hk : ¬ s.turn = 0) :
  Calls Try.prog 21 #[.pointer (some ⟨g, 0, none⟩), .slice A0 (q) (c0)] w fun e w' => e = .returned (.tuple #[.slice none 0 0, .int .i64 9]) ∧ w = w' := by
 obtain ⟨A_c, c_c, A_h, c_h, v_2, A_p, c_p, A_o, c_o, A_u, c_u, A_z, c_z, A_t, c_t, hB9, hMg9, ⟨w_c, m_c⟩, ⟨w_h, m_h⟩, _⟩ := hH.row
 refine x_enter 44 Try.func21 rfl rfl (fun a hs hd ha0 => ?_)
 have t0 : a.eval (.tmp 0) = .pointer (some ⟨g, 0, none⟩) := ha0 0 _ rfl
 clear ha0
 refine w2_sr (fun K_1 hK_1 => ?_)
 refine q_as (.slice none (0) (0)) rfl ?_
 refine q_as (.int .i64 ((0 : Nat) : Int)) rfl ?_
 refine x_nil (hK_1 _ _ ?_)
 refine w2_seq (fun K_2 hK_2 => ?_)
 refine w2_sr (fun K_3 hK_3 => ?_)
 refine q_mv ((pm rfl).trans t0) ?_
 refine q_ca (vs := #[.pointer (some ⟨g, 0, none⟩), .int .i64 ((0 : Nat) : Int)]) Try.func34 (args2 (pe hs rfl rfl) rfl) (ready_state _ hB9 ht hk) (fun e_1 w_1 hR_1 => ?_)
 obtain ⟨rfl, rfl⟩ := hR_1
 refine ⟨_, rfl, ?_⟩
 refine q_at (v := .int .i64 ((9 : Nat) : Int)) (pe hs rfl rfl) ?_
 refine x_nil (hK_3 _ _ ?_)
 refine w2_sr (fun K_4 hK_4 => ?_)
 refine q_mv (v := .int .i64 ((9 : Nat) : Int)) (pe hs rfl rfl) ?_
 refine q_v 12 (.bool (true)) (o_eq (o_neq (m := 9) (n := 0) rfl (pe hs rfl rfl) rfl) rfl) ?_
 refine x_nil (hK_4 _ _ ?_)
 refine w2_condT (pe hs rfl rfl) ?_
 refine w2_sr (fun K_5 hK_5 => ?_)
 refine q_mv (v := .int .i64 ((9 : Nat) : Int)) (pe hs rfl rfl) ?_
 refine q_as (.slice none (0) (0)) rfl ?_
 refine q_at (v := .int .i64 ((9 : Nat) : Int)) (pe hs rfl rfl) ?_
 refine x_nil (hK_5 _ _ ?_)
 refine w2_ret ?_
 refine thn_ret ?_
 refine ret2 rfl hd (pe hs rfl rfl) (pe hs rfl rfl) ?_
 exact ⟨rfl, rfl⟩
theorem Read_state {M : Nat → Prop} {g : Nat} {s : HS} {A0 : Option Addr} {c0 q : Nat} (w : World) (hH : HandAt w M g s) (ht : ¬ s.turn = 3) (hk : ¬ s.turn = 1) :
  Calls Try.prog 20 #[.pointer (some ⟨g, 0, none⟩), .slice A0 (q) (c0)] w fun e w' => e = .returned (.tuple #[.slice none 0 0, .int .i64 9]) ∧ w = w' := by
 obtain ⟨A_c, c_c, A_h, c_h, v_2, A_p, c_p, A_o, c_o, A_u, c_u, A_z, c_z, A_t, c_t, hB9, hMg9, ⟨w_c, m_c⟩, ⟨w_h, m_h⟩, _⟩ := hH.row
 refine x_enter 48 Try.func20 rfl rfl (fun a hs hd ha0 => ?_)
 have t0 : a.eval (.tmp 0) = .pointer (some ⟨g, 0, none⟩) := ha0 0 _ rfl
 clear ha0
 refine w2_sr (fun K_1 hK_1 => ?_)
 refine q_as (.slice none (0) (0)) rfl ?_
 refine q_as (.int .i64 ((0 : Nat) : Int)) rfl ?_
 refine x_nil (hK_1 _ _ ?_)
 refine w2_seq (fun K_2 hK_2 => ?_)
 refine w2_sr (fun K_3 hK_3 => ?_)
 refine q_mv ((pm rfl).trans t0) ?_
 refine q_ca (vs := #[.pointer (some ⟨g, 0, none⟩), .int .i64 ((1 : Nat) : Int)]) Try.func34 (args2 (pe hs rfl rfl) rfl) (ready_state _ hB9 ht hk) (fun e_1 w_1 hR_1 => ?_)
 obtain ⟨rfl, rfl⟩ := hR_1
 refine ⟨_, rfl, ?_⟩
 refine q_at (v := .int .i64 ((9 : Nat) : Int)) (pe hs rfl rfl) ?_
 refine x_nil (hK_3 _ _ ?_)
 refine w2_sr (fun K_4 hK_4 => ?_)
 refine q_mv (v := .int .i64 ((9 : Nat) : Int)) (pe hs rfl rfl) ?_
 refine q_v 12 (.bool (true)) (o_eq (o_neq (m := 9) (n := 0) rfl (pe hs rfl rfl) rfl) rfl) ?_
 refine x_nil (hK_4 _ _ ?_)
 refine w2_condT (pe hs rfl rfl) ?_
 refine w2_sr (fun K_5 hK_5 => ?_)
 refine q_mv (v := .int .i64 ((9 : Nat) : Int)) (pe hs rfl rfl) ?_
 refine q_as (.slice none (0) (0)) rfl ?_
 refine q_at (v := .int .i64 ((9 : Nat) : Int)) (pe hs rfl rfl) ?_
 refine x_nil (hK_5 _ _ ?_)
 refine w2_ret ?_
 refine thn_ret ?_
 refine ret2 rfl hd (pe hs rfl rfl) (pe hs rfl rfl) ?_
 exact ⟨rfl, rfl⟩
theorem Split_state {M : Nat → Prop} {g : Nat} {s : HS} (w : World) (hH : HandAt w M g s) (ht : ¬ s.turn = 3) (hk : ¬ s.turn = 2) :
  Calls Try.prog 22 #[.pointer (some ⟨g, 0, none⟩)] w fun e w' => e = .returned (.tuple #[.pointer none, .pointer none, .int .i64 9]) ∧ w = w' := by
 obtain ⟨A_c, c_c, A_h, c_h, v_2, A_p, c_p, A_o, c_o, A_u, c_u, A_z, c_z, A_t, c_t, hB9, hMg9, ⟨w_c, m_c⟩, ⟨w_h, m_h⟩, _⟩ := hH.row
 refine x_enter 47 Try.func22 rfl rfl (fun a hs hd ha0 => ?_)
 have t0 : a.eval (.tmp 0) = .pointer (some ⟨g, 0, none⟩) := ha0 0 _ rfl
 clear ha0
 refine w2_sr (fun K_1 hK_1 => ?_)
 refine q_as (.pointer none) rfl ?_
 refine q_as (.pointer none) rfl ?_
 refine q_as (.int .i64 ((0 : Nat) : Int)) rfl ?_
 refine x_nil (hK_1 _ _ ?_)
 refine w2_seq (fun K_2 hK_2 => ?_)
 refine w2_sr (fun K_3 hK_3 => ?_)
 refine q_mv ((pm rfl).trans t0) ?_
 refine q_ca (vs := #[.pointer (some ⟨g, 0, none⟩), .int .i64 ((2 : Nat) : Int)]) Try.func34 (args2 (pe hs rfl rfl) rfl) (ready_state _ hB9 ht hk) (fun e_1 w_1 hR_1 => ?_)
 obtain ⟨rfl, rfl⟩ := hR_1
 refine ⟨_, rfl, ?_⟩
 refine q_at (v := .int .i64 ((9 : Nat) : Int)) (pe hs rfl rfl) ?_
 refine x_nil (hK_3 _ _ ?_)
 refine w2_sr (fun K_4 hK_4 => ?_)
 refine q_mv (v := .int .i64 ((9 : Nat) : Int)) (pe hs rfl rfl) ?_
 refine q_v 15 (.bool (true)) (o_eq (o_neq (m := 9) (n := 0) rfl (pe hs rfl rfl) rfl) rfl) ?_
 refine x_nil (hK_4 _ _ ?_)
 refine w2_condT (pe hs rfl rfl) ?_
 refine w2_sr (fun K_5 hK_5 => ?_)
 refine q_mv (v := .int .i64 ((9 : Nat) : Int)) (pe hs rfl rfl) ?_
 refine q_as (.pointer none) rfl ?_
 refine q_as (.pointer none) rfl ?_
 refine q_at (v := .int .i64 ((9 : Nat) : Int)) (pe hs rfl rfl) ?_
 refine x_nil (hK_5 _ _ ?_)
 refine w2_ret ?_
 refine thn_ret ?_
 refine ret3 rfl hd (pe hs rfl rfl) (pe hs rfl rfl) (pe hs rfl rfl) ?_
 exact ⟨rfl, rfl⟩
theorem Read_short {M : Nat → Prop} {g : Nat} {s : HS} {A0 : Option Addr} {c0 q : Nat} {bs : List Nat} (w : World) (hH : HandAt w M g s) (ht : s.turn = 1) (h0 : Bs w A0 c0 bs) (hq : bs.length = q) (hl : q < 48) :
  Calls Try.prog 20 #[.pointer (some ⟨g, 0, none⟩), .slice A0 (q) (c0)] w fun e w' => e = .returned (.tuple #[.slice none 0 0, .int .i64 2]) ∧ w = w' := by
 obtain ⟨A_c, c_c, A_h, c_h, v_2, A_p, c_p, A_o, c_o, A_u, c_u, A_z, c_z, A_t, c_t, hB9, hMg9, ⟨w_c, m_c⟩, ⟨w_h, m_h⟩, _⟩ := hH.row
 rw [ht] at hB9
 refine x_enter 48 Try.func20 rfl rfl (fun a hs hd ha0 => ?_)
 have t0 : a.eval (.tmp 0) = .pointer (some ⟨g, 0, none⟩) := ha0 0 _ rfl
 have t1 : a.eval (.tmp 1) = .slice A0 (q) (c0) := ha0 1 _ rfl
 clear ha0
 refine w2_sr (fun K_1 hK_1 => ?_)
 refine q_as (.slice none (0) (0)) rfl ?_
 refine q_as (.int .i64 ((0 : Nat) : Int)) rfl ?_
 refine x_nil (hK_1 _ _ ?_)
 refine w2_seq (fun K_2 hK_2 => ?_)
 refine w2_sr (fun K_3 hK_3 => ?_)
 refine q_mv ((pm rfl).trans t0) ?_
 refine q_ca (vs := #[.pointer (some ⟨g, 0, none⟩), .int .i64 ((1 : Nat) : Int)]) Try.func34 (args2 (pe hs rfl rfl) rfl) (ready_ok _ hB9 (by decide)) (fun e_1 w_1 hR_1 => ?_)
 obtain ⟨rfl, rfl⟩ := hR_1
 refine ⟨_, rfl, ?_⟩
 refine q_at (v := .int .i64 ((0 : Nat) : Int)) (pe hs rfl rfl) ?_
 refine x_nil (hK_3 _ _ ?_)
 refine w2_sr (fun K_4 hK_4 => ?_)
 refine q_mv (v := .int .i64 ((0 : Nat) : Int)) (pe hs rfl rfl) ?_
 refine q_v 12 (.bool (false)) (o_eq (o_neq (m := 0) (n := 0) rfl (pe hs rfl rfl) rfl) rfl) ?_
 refine x_nil (hK_4 _ _ ?_)
 refine w2_condF (pe hs rfl rfl) ?_
 refine w2_skip ?_
 refine hK_2 _ _ ?_
 refine w2_seq (fun K_5 hK_5 => ?_)
 refine w2_block (fun K_6 hK_6 => ?_)
 refine w2_sr (fun K_7 hK_7 => ?_)
 refine q_mv ((pm rfl).trans t1) ?_
 refine q_v 16 (.int .i64 ((q : Nat) : Int)) (o_len rfl (pe hs rfl rfl)) ?_
 refine q_v 17 (.bool (true)) (o_eq (o_lss (m := q) (n := 48) rfl (pe hs rfl rfl) rfl) (by rw [decide_eq_true (by omega)])) ?_
 refine q_at (pe hs rfl rfl) ?_
 refine x_nil (hK_7 _ _ ?_)
 refine w2_condT (pe hs rfl rfl) ?_
 refine w2_sr (fun K_8 hK_8 => ?_)
 refine q_as (.slice none (0) (0)) rfl ?_
 refine q_as (.int .i64 ((2 : Nat) : Int)) rfl ?_
 refine x_nil (hK_8 _ _ ?_)
 refine w2_ret ?_
 refine exb_ret ?_
 refine thn_ret ?_
 refine ret2 rfl hd (pe hs rfl rfl) (pe hs rfl rfl) ?_
 exact ⟨rfl, rfl⟩
theorem Split_asks {M : Nat → Prop} {g : Nat} {ck hh psk ks pu st ot : List Nat} {sent : Bool} (w : World) (hH : HandAt w M g ⟨ck, hh, psk, ks, pu, st, ot, true, sent, 2⟩) :
  Calls Try.prog 22 #[.pointer (some ⟨g, 0, none⟩)] w fun e w' => ∃ N1 g1 N2 g2, e = .returned (.tuple #[.pointer (some ⟨g1, 0, none⟩), .pointer (some ⟨g2, 0, none⟩), .int .i64 0]) ∧ CipherAt w' N1 g1 (chT (hmacL ck []) 1) 0 ∧ CipherAt w' N2 g2 (chT (hmacL ck []) 2) 0 ∧ Ge w N1 ∧ Ge w N2 ∧ Sep N1 N2 ∧ Below w.heap.size w w' := by
 obtain ⟨hlt9, ⟨l_ck, l_h, l_psk, l_own, l_pub, l_stc⟩, A_c, c_c, A_h, c_h, v_2, A_p, c_p, A_o, c_o, A_u, c_u, A_z, c_z, A_t, c_t, hB9, hMg9, ⟨w_c, m_c⟩, ⟨w_h, m_h⟩, ⟨w_p, m_p⟩, ⟨w_o, m_o⟩, ⟨w_u, m_u⟩, ⟨w_z, m_z⟩, ⟨w_t, m_t⟩⟩ := hH
 dsimp only at l_ck l_h l_psk l_own l_pub l_stc hB9 w_c w_h w_p w_o w_u w_z w_t
 refine x_enter 47 Try.func22 rfl rfl (fun a hs hd ha0 => ?_)
 have t0 : a.eval (.tmp 0) = .pointer (some ⟨g, 0, none⟩) := ha0 0 _ rfl
 clear ha0
 refine w2_sr (fun K_1 hK_1 => ?_)
 refine q_as (.pointer none) rfl ?_
 refine q_as (.pointer none) rfl ?_
 refine q_as (.int .i64 ((0 : Nat) : Int)) rfl ?_
 refine x_nil (hK_1 _ _ ?_)
 refine w2_seq (fun K_2 hK_2 => ?_)
 refine w2_sr (fun K_3 hK_3 => ?_)
 refine q_mv ((pm rfl).trans t0) ?_
 refine q_ca (vs := #[.pointer (some ⟨g, 0, none⟩), .int .i64 ((2 : Nat) : Int)]) Try.func34 (args2 (pe hs rfl rfl) rfl) (ready_ok _ hB9 (by decide)) (fun e_1 w_1 hR_1 => ?_)
 obtain ⟨rfl, rfl⟩ := hR_1
 refine ⟨_, rfl, ?_⟩
 refine q_at (v := .int .i64 ((0 : Nat) : Int)) (pe hs rfl rfl) ?_
 refine x_nil (hK_3 _ _ ?_)
 refine w2_sr (fun K_4 hK_4 => ?_)
 refine q_mv (v := .int .i64 ((0 : Nat) : Int)) (pe hs rfl rfl) ?_
 refine q_v 15 (.bool (false)) (o_eq (o_neq (m := 0) (n := 0) rfl (pe hs rfl rfl) rfl) rfl) ?_
 refine x_nil (hK_4 _ _ ?_)
 refine w2_condF (pe hs rfl rfl) ?_
 refine w2_skip ?_
 refine hK_2 _ _ ?_
 refine w2_sr (fun K_5 hK_5 => ?_)
 refine q_mv ((pm rfl).trans t0) ?_
 refine q_nc (pe hs rfl rfl) ?_
 refine q_fa 0 (pe hs rfl rfl) ?_
 refine q_ld (v := .slice A_c (32) (c_c)) (pe hs rfl rfl) hB9 rfl ?_
 refine q_ca (vs := #[.slice A_c (32) (c_c), .slice none (0) (0), .int .i64 ((2 : Nat) : Int)]) Try.func40 (args3 (pe hs rfl rfl) rfl rfl) (Chain_any 2 _ (w_c).bs (by simp only [l_ck]) (Bs.nil _) (by simp only [List.length_nil]) (by omega) (by omega) (by omega) (by omega)) (fun e_2 w_2 hR_2 => ?_)
 obtain ⟨ps_1, A_1, c_1, rfl, hm_1, hRw_1, hAO_1, hb_2⟩ := hR_2
 obtain ⟨p_1, p_2, rfl, hp_1, hp_2⟩ := map_ch2 hm_1
 obtain ⟨g_1, cur_1, rfl, hB_1, hcu_1, hcu_2⟩ := row_at2 hRw_1
 have ho_1 := hAO_1 p_1 (by simp)
 rw [hp_1] at ho_1
 have hl_1 : p_1.xs.length = 32 := by rw [hp_1]; exact chT_length _ _
 rw [show Part.val p_1 = .slice p_1.A 32 p_1.c from by unfold Part.val; rw [hl_1]] at hcu_1
 have ho_2 := hAO_1 p_2 (by simp)
 rw [hp_2] at ho_2
 have hl_2 : p_2.xs.length = 32 := by rw [hp_2]; exact chT_length _ _
 rw [show Part.val p_2 = .slice p_2.A 32 p_2.c from by unfold Part.val; rw [hl_2]] at hcu_2
 replace hB9 := hB9.nx hb_2
 refine ⟨_, rfl, ?_⟩
 refine q_mv (pe hs rfl rfl) ?_
 refine q_ex (v := .slice ((some ⟨g_1, 0, none⟩)) (2) (c_1)) (pe hs rfl rfl) rfl ?_
 refine q_ex (v := .int .i64 ((0 : Nat) : Int)) (pe hs rfl rfl) rfl ?_
 refine q_at (pe hs rfl rfl) ?_
 refine q_at (v := .int .i64 ((0 : Nat) : Int)) (pe hs rfl rfl) ?_
 refine x_nil (hK_5 _ _ ?_)
 refine w2_sr (fun K_6 hK_6 => ?_)
 refine q_mv (pe hs rfl rfl) ?_
 refine op_val (d := 27) (v := .pointer (some ⟨g_1, 0, none⟩)) rfl rfl (zero_off (o_ixS (off := 0) (i := 0) rfl (pe hs rfl rfl) rfl (by omega))) ?_
 refine q_v 28 (.slice p_1.A (32) (p_1.c)) (o_load1 rfl (pe hs rfl rfl) hB_1 hcu_1 ⟨by kernel_rfl, by kernel_rfl⟩) ?_
 refine q_ca (vs := #[.slice p_1.A (32) (p_1.c)]) Try.func11 (args1 (pe hs rfl rfl)) (NewCipher_any _ (ho_1).bs (chT_length _ _) rfl) (fun e_3 w_3 hR_3 => ?_)
 obtain ⟨N_1, gc_1, rfl, hC_1, hge_1, hb_3⟩ := hR_3
 have gg_1 := hge_1.down hb_2.size
 replace hB9 := hB9.nx hb_3
 replace ho_2 := ho_2.nx hb_3
 replace hB_1 := hB_1.nx hb_3
 have HB_1 := below_from hb_2 hb_3
 refine ⟨_, rfl, ?_⟩
 refine q_mv (pe hs rfl rfl) ?_
 refine q_ex (v := .pointer (some ⟨gc_1, 0, none⟩)) (pe hs rfl rfl) rfl ?_
 refine q_ex (v := .int .i64 ((0 : Nat) : Int)) (pe hs rfl rfl) rfl ?_
 refine q_at (pe hs rfl rfl) ?_
 refine q_at (v := .int .i64 ((0 : Nat) : Int)) (pe hs rfl rfl) ?_
 refine x_nil (hK_6 _ _ ?_)
 refine w2_sr (fun K_7 hK_7 => ?_)
 refine q_mv (pe hs rfl rfl) ?_
 refine op_val (d := 34) (v := .pointer (some ⟨g_1, 1, none⟩)) rfl rfl (zero_off (o_ixS (off := 0) (i := 1) rfl (pe hs rfl rfl) rfl (by omega))) ?_
 refine q_v 35 (.slice p_2.A (32) (p_2.c)) (o_load1 rfl (pe hs rfl rfl) hB_1 hcu_2 ⟨by kernel_rfl, by kernel_rfl⟩) ?_
 refine q_ca (vs := #[.slice p_2.A (32) (p_2.c)]) Try.func11 (args1 (pe hs rfl rfl)) (NewCipher_any _ (ho_2).bs (chT_length _ _) rfl) (fun e_4 w_4 hR_4 => ?_)
 obtain ⟨N_2, gc_2, rfl, hC_2, hge_2, hb_4⟩ := hR_4
 have gg_2 := hge_2.down HB_1.size
 have sp_1 : Sep N_1 N_2 := Sep.new hC_1.lt hge_2
 replace hB9 := hB9.nx hb_4
 replace hC_1 := hC_1.nx hb_4
 have HB_2 := below_from HB_1 hb_4
 refine ⟨_, rfl, ?_⟩
 refine q_mv (pe hs rfl rfl) ?_
 refine q_ex (v := .pointer (some ⟨gc_2, 0, none⟩)) (pe hs rfl rfl) rfl ?_
 refine q_ex (v := .int .i64 ((0 : Nat) : Int)) (pe hs rfl rfl) rfl ?_
 refine q_at (pe hs rfl rfl) ?_
 refine q_at (v := .int .i64 ((0 : Nat) : Int)) (pe hs rfl rfl) ?_
 refine x_nil (hK_7 _ _ ?_)
 refine w2_seq (fun K_8 hK_8 => ?_)
 refine w2_sr (fun K_9 hK_9 => ?_)
 refine q_mv ((pm rfl).trans t0) ?_
 refine q_nc (pe hs rfl rfl) ?_
 refine q_fa 3 (pe hs rfl rfl) ?_
 refine q_ld (v := .bool (true)) (pe hs rfl rfl) hB9 rfl ?_
 refine x_nil (hK_9 _ _ ?_)
 refine w2_condT (pe hs rfl rfl) ?_
 refine w2_sr (fun K_10 hK_10 => ?_)
 refine q_mv (pe hs rfl rfl) ?_
 refine q_mv (pe hs rfl rfl) ?_
 refine q_at (pe hs rfl rfl) ?_
 refine q_at (pe hs rfl rfl) ?_
 refine q_as (.int .i64 ((0 : Nat) : Int)) rfl ?_
 refine x_nil (hK_10 _ _ ?_)
 refine w2_ret ?_
 refine thn_ret ?_
 refine ret3 rfl hd (pe hs rfl rfl) (pe hs rfl rfl) (pe hs rfl rfl) ?_
 exact ⟨N_1, gc_1, N_2, gc_2, rfl, hC_1, hC_2, gg_1, gg_2, sp_1, HB_2⟩
theorem Split_answers {M : Nat → Prop} {g : Nat} {ck hh psk ks pu st ot : List Nat} {sent : Bool} (w : World) (hH : HandAt w M g ⟨ck, hh, psk, ks, pu, st, ot, false, sent, 2⟩) :
  Calls Try.prog 22 #[.pointer (some ⟨g, 0, none⟩)] w fun e w' => ∃ N1 g1 N2 g2, e = .returned (.tuple #[.pointer (some ⟨g1, 0, none⟩), .pointer (some ⟨g2, 0, none⟩), .int .i64 0]) ∧ CipherAt w' N1 g1 (chT (hmacL ck []) 2) 0 ∧ CipherAt w' N2 g2 (chT (hmacL ck []) 1) 0 ∧ Ge w N1 ∧ Ge w N2 ∧ Sep N1 N2 ∧ Below w.heap.size w w' := by
 obtain ⟨hlt9, ⟨l_ck, l_h, l_psk, l_own, l_pub, l_stc⟩, A_c, c_c, A_h, c_h, v_2, A_p, c_p, A_o, c_o, A_u, c_u, A_z, c_z, A_t, c_t, hB9, hMg9, ⟨w_c, m_c⟩, ⟨w_h, m_h⟩, ⟨w_p, m_p⟩, ⟨w_o, m_o⟩, ⟨w_u, m_u⟩, ⟨w_z, m_z⟩, ⟨w_t, m_t⟩⟩ := hH
 dsimp only at l_ck l_h l_psk l_own l_pub l_stc hB9 w_c w_h w_p w_o w_u w_z w_t
 refine x_enter 47 Try.func22 rfl rfl (fun a hs hd ha0 => ?_)
 have t0 : a.eval (.tmp 0) = .pointer (some ⟨g, 0, none⟩) := ha0 0 _ rfl
 clear ha0
 refine w2_sr (fun K_1 hK_1 => ?_)
 refine q_as (.pointer none) rfl ?_
 refine q_as (.pointer none) rfl ?_
 refine q_as (.int .i64 ((0 : Nat) : Int)) rfl ?_
 refine x_nil (hK_1 _ _ ?_)
 refine w2_seq (fun K_2 hK_2 => ?_)
 refine w2_sr (fun K_3 hK_3 => ?_)
 refine q_mv ((pm rfl).trans t0) ?_
 refine q_ca (vs := #[.pointer (some ⟨g, 0, none⟩), .int .i64 ((2 : Nat) : Int)]) Try.func34 (args2 (pe hs rfl rfl) rfl) (ready_ok _ hB9 (by decide)) (fun e_1 w_1 hR_1 => ?_)
 obtain ⟨rfl, rfl⟩ := hR_1
 refine ⟨_, rfl, ?_⟩
 refine q_at (v := .int .i64 ((0 : Nat) : Int)) (pe hs rfl rfl) ?_
 refine x_nil (hK_3 _ _ ?_)
 refine w2_sr (fun K_4 hK_4 => ?_)
 refine q_mv (v := .int .i64 ((0 : Nat) : Int)) (pe hs rfl rfl) ?_
 refine q_v 15 (.bool (false)) (o_eq (o_neq (m := 0) (n := 0) rfl (pe hs rfl rfl) rfl) rfl) ?_
 refine x_nil (hK_4 _ _ ?_)
 refine w2_condF (pe hs rfl rfl) ?_
 refine w2_skip ?_
 refine hK_2 _ _ ?_
 refine w2_sr (fun K_5 hK_5 => ?_)
 refine q_mv ((pm rfl).trans t0) ?_
 refine q_nc (pe hs rfl rfl) ?_
 refine q_fa 0 (pe hs rfl rfl) ?_
 refine q_ld (v := .slice A_c (32) (c_c)) (pe hs rfl rfl) hB9 rfl ?_
 refine q_ca (vs := #[.slice A_c (32) (c_c), .slice none (0) (0), .int .i64 ((2 : Nat) : Int)]) Try.func40 (args3 (pe hs rfl rfl) rfl rfl) (Chain_any 2 _ (w_c).bs (by simp only [l_ck]) (Bs.nil _) (by simp only [List.length_nil]) (by omega) (by omega) (by omega) (by omega)) (fun e_2 w_2 hR_2 => ?_)
 obtain ⟨ps_1, A_1, c_1, rfl, hm_1, hRw_1, hAO_1, hb_2⟩ := hR_2
 obtain ⟨p_1, p_2, rfl, hp_1, hp_2⟩ := map_ch2 hm_1
 obtain ⟨g_1, cur_1, rfl, hB_1, hcu_1, hcu_2⟩ := row_at2 hRw_1
 have ho_1 := hAO_1 p_1 (by simp)
 rw [hp_1] at ho_1
 have hl_1 : p_1.xs.length = 32 := by rw [hp_1]; exact chT_length _ _
 rw [show Part.val p_1 = .slice p_1.A 32 p_1.c from by unfold Part.val; rw [hl_1]] at hcu_1
 have ho_2 := hAO_1 p_2 (by simp)
 rw [hp_2] at ho_2
 have hl_2 : p_2.xs.length = 32 := by rw [hp_2]; exact chT_length _ _
 rw [show Part.val p_2 = .slice p_2.A 32 p_2.c from by unfold Part.val; rw [hl_2]] at hcu_2
 replace hB9 := hB9.nx hb_2
 refine ⟨_, rfl, ?_⟩
 refine q_mv (pe hs rfl rfl) ?_
 refine q_ex (v := .slice ((some ⟨g_1, 0, none⟩)) (2) (c_1)) (pe hs rfl rfl) rfl ?_
 refine q_ex (v := .int .i64 ((0 : Nat) : Int)) (pe hs rfl rfl) rfl ?_
 refine q_at (pe hs rfl rfl) ?_
 refine q_at (v := .int .i64 ((0 : Nat) : Int)) (pe hs rfl rfl) ?_
 refine x_nil (hK_5 _ _ ?_)
 refine w2_sr (fun K_6 hK_6 => ?_)
 refine q_mv (pe hs rfl rfl) ?_
 refine op_val (d := 27) (v := .pointer (some ⟨g_1, 0, none⟩)) rfl rfl (zero_off (o_ixS (off := 0) (i := 0) rfl (pe hs rfl rfl) rfl (by omega))) ?_
 refine q_v 28 (.slice p_1.A (32) (p_1.c)) (o_load1 rfl (pe hs rfl rfl) hB_1 hcu_1 ⟨by kernel_rfl, by kernel_rfl⟩) ?_
 refine q_ca (vs := #[.slice p_1.A (32) (p_1.c)]) Try.func11 (args1 (pe hs rfl rfl)) (NewCipher_any _ (ho_1).bs (chT_length _ _) rfl) (fun e_3 w_3 hR_3 => ?_)
 obtain ⟨N_1, gc_1, rfl, hC_1, hge_1, hb_3⟩ := hR_3
 have gg_1 := hge_1.down hb_2.size
 replace hB9 := hB9.nx hb_3
 replace ho_2 := ho_2.nx hb_3
 replace hB_1 := hB_1.nx hb_3
 have HB_1 := below_from hb_2 hb_3
 refine ⟨_, rfl, ?_⟩
 refine q_mv (pe hs rfl rfl) ?_
 refine q_ex (v := .pointer (some ⟨gc_1, 0, none⟩)) (pe hs rfl rfl) rfl ?_
 refine q_ex (v := .int .i64 ((0 : Nat) : Int)) (pe hs rfl rfl) rfl ?_
 refine q_at (pe hs rfl rfl) ?_
 refine q_at (v := .int .i64 ((0 : Nat) : Int)) (pe hs rfl rfl) ?_
 refine x_nil (hK_6 _ _ ?_)
 refine w2_sr (fun K_7 hK_7 => ?_)
 refine q_mv (pe hs rfl rfl) ?_
 refine op_val (d := 34) (v := .pointer (some ⟨g_1, 1, none⟩)) rfl rfl (zero_off (o_ixS (off := 0) (i := 1) rfl (pe hs rfl rfl) rfl (by omega))) ?_
 refine q_v 35 (.slice p_2.A (32) (p_2.c)) (o_load1 rfl (pe hs rfl rfl) hB_1 hcu_2 ⟨by kernel_rfl, by kernel_rfl⟩) ?_
 refine q_ca (vs := #[.slice p_2.A (32) (p_2.c)]) Try.func11 (args1 (pe hs rfl rfl)) (NewCipher_any _ (ho_2).bs (chT_length _ _) rfl) (fun e_4 w_4 hR_4 => ?_)
 obtain ⟨N_2, gc_2, rfl, hC_2, hge_2, hb_4⟩ := hR_4
 have gg_2 := hge_2.down HB_1.size
 have sp_1 : Sep N_1 N_2 := Sep.new hC_1.lt hge_2
 replace hB9 := hB9.nx hb_4
 replace hC_1 := hC_1.nx hb_4
 have HB_2 := below_from HB_1 hb_4
 refine ⟨_, rfl, ?_⟩
 refine q_mv (pe hs rfl rfl) ?_
 refine q_ex (v := .pointer (some ⟨gc_2, 0, none⟩)) (pe hs rfl rfl) rfl ?_
 refine q_ex (v := .int .i64 ((0 : Nat) : Int)) (pe hs rfl rfl) rfl ?_
 refine q_at (pe hs rfl rfl) ?_
 refine q_at (v := .int .i64 ((0 : Nat) : Int)) (pe hs rfl rfl) ?_
 refine x_nil (hK_7 _ _ ?_)
 refine w2_seq (fun K_8 hK_8 => ?_)
 refine w2_sr (fun K_9 hK_9 => ?_)
 refine q_mv ((pm rfl).trans t0) ?_
 refine q_nc (pe hs rfl rfl) ?_
 refine q_fa 3 (pe hs rfl rfl) ?_
 refine q_ld (v := .bool (false)) (pe hs rfl rfl) hB9 rfl ?_
 refine x_nil (hK_9 _ _ ?_)
 refine w2_condF (pe hs rfl rfl) ?_
 refine w2_skip ?_
 refine hK_8 _ _ ?_
 refine w2_sr (fun K_10 hK_10 => ?_)
 refine q_mv (pe hs rfl rfl) ?_
 refine q_mv (pe hs rfl rfl) ?_
 refine q_at (pe hs rfl rfl) ?_
 refine q_at (pe hs rfl rfl) ?_
 refine q_as (.int .i64 ((0 : Nat) : Int)) rfl ?_
 refine x_nil (hK_10 _ _ ?_)
 refine w2_ret ?_
 refine ret3 rfl hd (pe hs rfl rfl) (pe hs rfl rfl) (pe hs rfl rfl) ?_
 exact ⟨N_2, gc_2, N_1, gc_1, rfl, hC_2, hC_1, gg_2, gg_1, sp_1.symm, HB_2⟩
theorem Hash_any {M : Nat → Prop} {g : Nat} {s : HS} (w : World) (hH : HandAt w M g s) (ht : ¬ s.turn = 3) :
  Calls Try.prog 25 #[.pointer (some ⟨g, 0, none⟩)] w fun e w' => ∃ A c, e = .returned (.slice A 32 c) ∧ Own w' w.heap.size A c s.h ∧ Below w.heap.size w w' := by
 obtain ⟨A_c, c_c, A_h, c_h, v_2, A_p, c_p, A_o, c_o, A_u, c_u, A_z, c_z, A_t, c_t, hB9, hMg9, ⟨w_c, m_c⟩, ⟨w_h, m_h⟩, _⟩ := hH.row
 have l_h := hH.len.h
 refine x_enter 17 Try.func25 rfl rfl (fun a hs hd ha0 => ?_)
 have t0 : a.eval (.tmp 0) = .pointer (some ⟨g, 0, none⟩) := ha0 0 _ rfl
 clear ha0
 refine w2_sr (fun K_1 hK_1 => ?_)
 refine q_as (.slice none (0) (0)) rfl ?_
 refine x_nil (hK_1 _ _ ?_)
 refine w2_seq (fun K_2 hK_2 => ?_)
 refine w2_sr (fun K_3 hK_3 => ?_)
 refine q_mv ((pm rfl).trans t0) ?_
 refine q_v 4 (.bool (false)) (o_nil (b := false) rfl (pe hs rfl rfl) rfl rfl ⟨57, fun _ => by kernel_rfl⟩) ?_
 refine q_mv (pe hs rfl rfl) ?_
 refine op_valG (e := 5) (d := 6) (v := .pointer (some ⟨g, 0, none⟩)) rfl rfl (by kernel_rfl) (pe hs rfl rfl) (o_move rfl ((pm rfl).trans t0)) ?_
 refine op_valG (e := 5) (d := 7) (v := .pointer (some ⟨g, 0, none⟩)) rfl rfl (by kernel_rfl) (pe hs rfl rfl) (o_nilCheck rfl (pe hs rfl rfl)) ?_
 refine op_valG (e := 5) (d := 8) (v := .pointer (some ⟨g, 4, none⟩)) rfl rfl (by kernel_rfl) (pe hs rfl rfl) (o_field (k' := 4) rfl (pe hs rfl rfl) (fun _ => by kernel_rfl)) ?_
 refine op_valG (e := 5) (d := 9) (v := .int .i64 ((s.turn : Nat) : Int)) rfl rfl (by kernel_rfl) (pe hs rfl rfl) (o_load1 rfl (pe hs rfl rfl) hB9 rfl ⟨by kernel_rfl, by kernel_rfl⟩) ?_
 refine op_valG (e := 5) (d := 10) (v := .bool (decide (s.turn = 3))) rfl rfl (by kernel_rfl) (pe hs rfl rfl) (o_eql (m := s.turn) (n := 3) rfl (pe hs rfl rfl) rfl) ?_
 refine q_v 11 (.bool (decide (s.turn = 3))) (o_pickF rfl (pe hs rfl rfl) (pe hs rfl rfl)) ?_
 refine x_nil (hK_3 _ _ ?_)
 refine w2_split (pe hs rfl rfl) (fun h_1 => ?_) (fun h_1 => ?_)
 ·simp only [DD9] at h_1
  refine w2_sr (fun K_4 hK_4 => ?_)
  refine q_as (.slice none (0) (0)) rfl ?_
  refine x_nil (hK_4 _ _ ?_)
  refine w2_ret ?_
  refine thn_ret ?_
  refine ret1 rfl hd (pe hs rfl rfl) ?_
  exact absurd h_1 ht
 ·simp only [DD9] at h_1
  refine w2_skip ?_
  refine hK_2 _ _ ?_
  refine w2_sr (fun K_5 hK_5 => ?_)
  refine q_mv ((pm rfl).trans t0) ?_
  refine q_nc (pe hs rfl rfl) ?_
  refine q_fa 1 (pe hs rfl rfl) ?_
  refine q_ld (v := .slice A_h (32) (c_h)) (pe hs rfl rfl) hB9 rfl ?_
  refine q_ca (vs := #[.slice A_h (32) (c_h)]) Try.func26 (args1 (pe hs rfl rfl)) (Clone_any _ (w_h).bs (by simp only [l_h]) (by omega)) (fun e_1 w_1 hR_1 => ?_)
  obtain ⟨A_1, c_1, rfl, ho_1, hb_1⟩ := hR_1
  refine ⟨_, rfl, ?_⟩
  refine q_at (pe hs rfl rfl) ?_
  refine x_nil (hK_5 _ _ ?_)
  refine w2_ret ?_
  refine ret1 rfl hd (pe hs rfl rfl) ?_
  exact ⟨_, _, rfl, ho_1, hb_1⟩
end Go.Proofs.Ytbgonhmaeekkaaa
