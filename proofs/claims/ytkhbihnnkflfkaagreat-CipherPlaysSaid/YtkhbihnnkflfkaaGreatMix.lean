/-
 WALKS: noise.Hand: its small steps.
-/
import Derived.Test.YtkhbihnnkflfkaaGreatEz
import Derived.Test.YtkhbihnnkflfkaaGreatHkM
import Derived.Test.YtkhbihnnkflfkaaGreatDrawnM
namespace Go.Proofs.YtkhbihnnkflfkaaGreat
open Go.RowKit
set_option maxHeartbeats 8000000
set_option linter.unusedVariables false
set_option linter.unusedSimpArgs false
set_option maxRecDepth 100000
attribute [local irreducible] wpList wpListIn putsR

variable {ps : List Part} {ck hh kk prk xs ys : List Nat} {w : World} {B c c0 cc ch en g gc nx q r t : Nat} {A A0 Ac Ah : Option Addr} {p : Part} {v0 v1 v10 v2 v3 v4 v5 v6 v7 v8 v9 : Value} {N0 : Nat → Prop}
theorem map_ch2 (h : ps.map Part.xs = chL prk 2) : ∃ p q, ps = [p, q] ∧ p.xs = chT prk 1 ∧ q.xs = chT prk 2 := by
 have hl := map_len h
 match ps, hl, h with
 | [p, q], _, h => exact ⟨p, q, rfl, (List.cons.inj h).1, (List.cons.inj (List.cons.inj h).2).1⟩
theorem map_ch3 (h : ps.map Part.xs = chL prk 3) : ∃ p q r, ps = [p, q, r] ∧ p.xs = chT prk 1 ∧ q.xs = chT prk 2 ∧ r.xs = chT prk 3 := by
 have hl := map_len h
 match ps, hl, h with
 | [p, q, r], _, h => exact ⟨p, q, r, rfl, (List.cons.inj h).1, (List.cons.inj (List.cons.inj h).2).1, (List.cons.inj (List.cons.inj (List.cons.inj h).2).2).1⟩
theorem row_at2 {q : Part} (h : RowS w B A c [p, q]) : ∃ g cur, A = some ⟨g, 0, none⟩ ∧ Blk w g cur 22 ∧ cur[0]? = some p.val ∧ cur[1]? = some q.val := by
 obtain ⟨g, cur, rfl, hB, h0⟩ := h.at (i := 0) (by simp)
 obtain ⟨g', cur', e, hB', h1⟩ := h.at (i := 1) (by simp)
 cases e
 unfold Blk at hB hB'
 rw [hB] at hB'
 cases hB'
 exact ⟨g, cur, rfl, hB, h0, h1⟩
theorem row_at3 {q r : Part} (h : RowS w B A c [p, q, r]) : ∃ g cur, A = some ⟨g, 0, none⟩ ∧ Blk w g cur 22 ∧ cur[0]? = some p.val ∧ cur[1]? = some q.val ∧ cur[2]? = some r.val := by
 obtain ⟨g, cur, rfl, hB, h0⟩ := h.at (i := 0) (by simp)
 obtain ⟨g', cur', e, hB', h1⟩ := h.at (i := 1) (by simp)
 obtain ⟨g2, cur2, e2, hB2, h2⟩ := h.at (i := 2) (by simp)
 cases e
 cases e2
 unfold Blk at hB hB' hB2
 rw [hB] at hB' hB2
 cases hB'
 cases hB2
 exact ⟨g, cur, rfl, hB, h0, h1, h2⟩
theorem CipherAt.bsX {w' : World} {M : Nat → Prop} {n : Nat} {k : List Nat} (h : CipherAt w M g k n) (hb : BelowX (fun j => j = g) w w') (hO : Bs w A c xs) : Bs w' A c xs := by
 obtain ⟨A1, c1, hB, _⟩ := h.row
 exact hO.keepH hB (by intro z; simp) hb
theorem mixHash_any (w : World) (hB : Blk w g #[v0, .slice Ah (32) (ch), v2, v3, v4, v5, v6, v7, v8, v9, v10] 72) (hhh : Wt w Ah ch hh) (hh32 : hh.length = 32) (hx : Bs w A0 c0 xs) (hq : xs.length = q) (b1 : q ≤ 1000000) :
  Calls Tryz.prog 42 #[.pointer (some ⟨g, 0, none⟩), .slice A0 (q) (c0)] w fun e w' => ∃ A c, e = .returned (.tuple #[]) ∧ Blk w' g #[v0, .slice A (32) (c), v2, v3, v4, v5, v6, v7, v8, v9, v10] 72 ∧ Own w' w.heap.size A c (shaL (hh ++ xs)) ∧ BelowX (fun k => k = g) w w' := by
 refine x_enter 15 Tryz.func42 rfl rfl (fun a hs hd ha0 => ?_)
 have t0 := tA 0 ha0
 have t1 := tA 1 ha0
 clear ha0
 have HB0 : BelowX (fun k => k = g) w w := BelowX.refl _ _
 iterate 4 refine e1 ?_
 refine q_fb 1 ?_
 refine q_ld (v := .slice Ah (32) (ch)) (pe hs rfl rfl) hB rfl ?_
 refine e1 ?_
 refine q_x (o_bldS (cs := #[.slice Ah (32) (ch), .slice A0 (q) (c0)]) (e := 22) rfl (bld2 ev ev) (fun _ => by kernel_rfl)) (fun v_1 w_1 hR_1 => ?_)
 obtain ⟨g_1, rfl, hle_1, hB_1, hb_1⟩ := hR_1
 obtain ⟨hB, hhh, hx⟩ := nx3 hb_1 hB hhh hx
 have HB_1 := HB0.then hb_1
 refine e1 ?_
 refine k_c Tryz.func50 (Concat2 _ hB_1 (hhh).bs hh32 hx hq (by omega)) ?_
 rintro e_1 w_2 ⟨A_1, c_1, rfl, ho_1, hb_2⟩
 replace ho_1 := ho_1.mono HB_1.size
 obtain ⟨hB, hhh, hx⟩ := nx3 hb_2 hB hhh hx
 have HB_2 := HB_1.then hb_2
 refine ⟨_, rfl, ?_⟩
 refine e1 ?_
 refine k_c Tryz.func69 (Sum_sha _ (ho_1).bs (by simp only [List.length_append, hh32, hq]) (by omega)) ?_
 rintro e_2 w_3 ⟨A_2, c_2, rfl, ho_2, hb_3⟩
 replace ho_2 := ho_2.mono HB_2.size
 obtain ⟨hB, hhh, hx⟩ := nx3 hb_3 hB hhh hx
 have HB_3 := HB_2.then hb_3
 refine ⟨_, rfl, ?_⟩
 refine e1 ?_
 refine q_fb 1 ?_
 refine q_d (o_store1 rfl ev ev rfl rfl hB (by simp only [List.length_cons, List.length_nil]; omega) ⟨by kernel_rfl, by kernel_rfl⟩) (fun w_4 hR_4 => ?_)
 obtain ⟨hB_2, hX_1⟩ := hR_4
 obtain ⟨hhh, ho_2⟩ := kx2 hX_1 hhh ho_2
 have HB_4 := HB_3.step hX_1 (fun k hk (hY : k = g) => hY)
 simp only [List.set_cons_zero, List.set_cons_succ] at hB_2
 refine x_nil ?_
 refine end0 rfl hd ?_
 exact ⟨A_2, c_2, rfl, hB_2, ho_2, HB_4⟩
theorem mixKey_any (w : World) (hB : Blk w g #[.slice Ac (32) (cc), v1, v2, v3, v4, v5, v6, v7, v8, v9, v10] 72) (hck : Wt w Ac cc ck) (hck32 : ck.length = 32) (hx : Bs w A0 c0 xs) (hq : xs.length = q) (b1 : q ≤ 1000000) :
  Calls Tryz.prog 81 #[.pointer (some ⟨g, 0, none⟩), .slice A0 (q) (c0)] w fun e w' => ∃ A c N gc, e = .returned (.tuple #[]) ∧ Blk w' g #[.slice A (32) (c), v1, .pointer (some ⟨gc, 0, none⟩), v3, v4, v5, v6, v7, v8, v9, v10] 72 ∧ Own w' w.heap.size A c (chT (hmacL ck xs) 1) ∧ CipherAt w' N gc (chT (hmacL ck xs) 2) 0 ∧ Ge w N ∧ BelowX (fun k => k = g) w w' := by
 refine x_enter 31 Tryz.func81 rfl rfl (fun a hs hd ha0 => ?_)
 have t0 := tA 0 ha0
 have t1 := tA 1 ha0
 clear ha0
 have HB0 : BelowX (fun k => k = g) w w := BelowX.refl _ _
 iterate 4 refine e1 ?_
 refine q_fb 0 ?_
 refine q_ld (v := .slice Ac (32) (cc)) (pe hs rfl rfl) hB rfl ?_
 iterate 2 refine e1 ?_
 refine k_c Tryz.func57 (Chain_any 2 _ (hck).bs hck32 hx hq (by omega) (by omega) (by omega) (by omega)) ?_
 rintro e_1 w_1 ⟨ps_1, A_1, c_1, rfl, hm_1, hRw_1, hAO_1, hb_1⟩
 obtain ⟨p_1, p_2, rfl, hp_1, hp_2⟩ := map_ch2 hm_1
 obtain ⟨g_1, cur_1, rfl, hB_1, hcu_1, hcu_2⟩ := row_at2 hRw_1
 have ho_1 := hAO_1 p_1 (by simp)
 rw [hp_1] at ho_1
 have hl_1 : p_1.xs.length = 32 := by rw [hp_1]; exact chT_length _ _
 rw [show Part.val p_1 = .slice p_1.A 32 p_1.c from by unfold Part.val; rw [hl_1]] at hcu_1
 have ho_2 := hAO_1 p_2 (by simp)
 rw [hp_2] at ho_2
 have hl_2 : p_2.xs.length = 32 := by rw [hp_2]; exact chT_length _ _
 rw [show Part.val p_2 = .slice p_2.A 32 p_2.c from by unfold Part.val; rw [hl_2]] at hcu_2
 have ne_1 : g ≠ g_1 := Nat.ne_of_lt (Nat.lt_of_lt_of_le hB.lt (hRw_1.ge' _ (blkA_some.2 rfl)))
 replace ho_1 := ho_1.mono HB0.size
 replace ho_2 := ho_2.mono HB0.size
 obtain ⟨hB, hck, hx⟩ := nx3 hb_1 hB hck hx
 have HB_1 := HB0.then hb_1
 refine ⟨_, rfl, ?_⟩
 iterate 10 refine e1 ?_
 refine q_v _ (.pointer (some ⟨g_1, 0, none⟩)) (zero_off (o_ixS (off := 0) (i := 0) rfl ev rfl (by omega))) ?_
 refine q_w (o_load1 rfl ev hB_1 hcu_1 ⟨by kernel_rfl, by kernel_rfl⟩) ?_
 refine e1 ?_
 refine q_fb 0 ?_
 refine q_d (o_store1 rfl ev ev rfl rfl hB (by simp only [List.length_cons, List.length_nil]; omega) ⟨by kernel_rfl, by kernel_rfl⟩) (fun w_2 hR_2 => ?_)
 obtain ⟨hB_2, hX_1⟩ := hR_2
 obtain ⟨hck, ho_1, ho_2⟩ := kx3 hX_1 hck ho_1 ho_2
 replace hB_1 := hX_1.blk hB_1 (Ne.symm ne_1)
 have HB_2 := HB_1.step hX_1 (fun k hk (hY : k = g) => hY)
 simp only [List.set_cons_zero, List.set_cons_succ] at hB_2
 refine e1 ?_
 have HBq := HB_2
 iterate 3 refine e1 ?_
 refine q_v _ (.pointer (some ⟨g_1, 1, none⟩)) (zero_off (o_ixS (off := 0) (i := 1) rfl ev rfl (by omega))) ?_
 refine q_w (o_load1 rfl ev hB_1 hcu_2 ⟨by kernel_rfl, by kernel_rfl⟩) ?_
 refine e1 ?_
 refine k_c Tryz.func6 (NewCipher_any _ (ho_2).bs (chT_length _ _) rfl) ?_
 rintro e_2 w_3 ⟨N_1, gc_1, rfl, hC_1, hge_1, hb_2⟩
 have hn_1 : ¬ N_1 g := fun h => absurd hB_2.lt (Nat.not_lt.2 (hge_1 _ h))
 have gg_1 := hge_1.down HB_2.size
 obtain ⟨hck, ho_1, hB_2⟩ := nx3 hb_2 hck ho_1 hB_2
 have HB_3 := HB_2.then hb_2
 refine ⟨_, rfl, ?_⟩
 iterate 4 refine e1 ?_
 refine q_fb 2 ?_
 refine q_d (o_store1 rfl ev ev rfl rfl hB_2 (by simp only [List.length_cons, List.length_nil]; omega) ⟨by kernel_rfl, by kernel_rfl⟩) (fun w_4 hR_4 => ?_)
 obtain ⟨hB_3, hX_2⟩ := hR_4
 obtain ⟨hck, ho_1⟩ := kx2 hX_2 hck ho_1
 replace hC_1 := hC_1.keepX hX_2 hn_1
 have HB_4 := HB_3.step hX_2 (fun k hk (hY : k = g) => hY)
 simp only [List.set_cons_zero, List.set_cons_succ] at hB_3
 refine x_nil ?_
 refine end0 rfl hd ?_
 exact ⟨p_1.A, p_1.c, N_1, gc_1, rfl, hB_3, ho_1, hC_1, gg_1, HB_4⟩
theorem mixBoth_any (w : World) (hB : Blk w g #[.slice Ac (32) (cc), .slice Ah (32) (ch), v2, v3, v4, v5, v6, v7, v8, v9, v10] 72) (hck : Wt w Ac cc ck) (hck32 : ck.length = 32) (hhh : Wt w Ah ch hh) (hh32 : hh.length = 32) (hx : Bs w A0 c0 xs) (hq : xs.length = q) (b1 : q ≤ 1000000) :
  Calls Tryz.prog 80 #[.pointer (some ⟨g, 0, none⟩), .slice A0 (q) (c0)] w fun e w' => ∃ A c A2 c2 N gc, e = .returned (.tuple #[]) ∧ Blk w' g #[.slice A (32) (c), .slice A2 (32) (c2), .pointer (some ⟨gc, 0, none⟩), v3, v4, v5, v6, v7, v8, v9, v10] 72 ∧ Own w' w.heap.size A c (chT (hmacL ck xs) 1) ∧ Own w' w.heap.size A2 c2 (shaL (hh ++ chT (hmacL ck xs) 2)) ∧ CipherAt w' N gc (chT (hmacL ck xs) 3) 0 ∧ Ge w N ∧ BelowX (fun k => k = g) w w' := by
 refine x_enter 36 Tryz.func80 rfl rfl (fun a hs hd ha0 => ?_)
 have t0 := tA 0 ha0
 have t1 := tA 1 ha0
 clear ha0
 have HB0 : BelowX (fun k => k = g) w w := BelowX.refl _ _
 iterate 4 refine e1 ?_
 refine q_fb 0 ?_
 refine q_ld (v := .slice Ac (32) (cc)) (pe hs rfl rfl) hB rfl ?_
 iterate 2 refine e1 ?_
 refine k_c Tryz.func57 (Chain_any 3 _ (hck).bs hck32 hx hq (by omega) (by omega) (by omega) (by omega)) ?_
 rintro e_1 w_1 ⟨ps_1, A_1, c_1, rfl, hm_1, hRw_1, hAO_1, hb_1⟩
 obtain ⟨p_1, p_2, p_3, rfl, hp_1, hp_2, hp_3⟩ := map_ch3 hm_1
 obtain ⟨g_1, cur_1, rfl, hB_1, hcu_1, hcu_2, hcu_3⟩ := row_at3 hRw_1
 have ho_1 := hAO_1 p_1 (by simp)
 rw [hp_1] at ho_1
 have hl_1 : p_1.xs.length = 32 := by rw [hp_1]; exact chT_length _ _
 rw [show Part.val p_1 = .slice p_1.A 32 p_1.c from by unfold Part.val; rw [hl_1]] at hcu_1
 have ho_2 := hAO_1 p_2 (by simp)
 rw [hp_2] at ho_2
 have hl_2 : p_2.xs.length = 32 := by rw [hp_2]; exact chT_length _ _
 rw [show Part.val p_2 = .slice p_2.A 32 p_2.c from by unfold Part.val; rw [hl_2]] at hcu_2
 have ho_3 := hAO_1 p_3 (by simp)
 rw [hp_3] at ho_3
 have hl_3 : p_3.xs.length = 32 := by rw [hp_3]; exact chT_length _ _
 rw [show Part.val p_3 = .slice p_3.A 32 p_3.c from by unfold Part.val; rw [hl_3]] at hcu_3
 have ne_1 : g ≠ g_1 := Nat.ne_of_lt (Nat.lt_of_lt_of_le hB.lt (hRw_1.ge' _ (blkA_some.2 rfl)))
 replace ho_1 := ho_1.mono HB0.size
 replace ho_2 := ho_2.mono HB0.size
 replace ho_3 := ho_3.mono HB0.size
 obtain ⟨hB, hck, hhh, hx⟩ := nx4 hb_1 hB hck hhh hx
 have HB_1 := HB0.then hb_1
 refine ⟨_, rfl, ?_⟩
 iterate 10 refine e1 ?_
 refine q_v _ (.pointer (some ⟨g_1, 0, none⟩)) (zero_off (o_ixS (off := 0) (i := 0) rfl ev rfl (by omega))) ?_
 refine q_w (o_load1 rfl ev hB_1 hcu_1 ⟨by kernel_rfl, by kernel_rfl⟩) ?_
 refine e1 ?_
 refine q_fb 0 ?_
 refine q_d (o_store1 rfl ev ev rfl rfl hB (by simp only [List.length_cons, List.length_nil]; omega) ⟨by kernel_rfl, by kernel_rfl⟩) (fun w_2 hR_2 => ?_)
 obtain ⟨hB_2, hX_1⟩ := hR_2
 obtain ⟨hck, hhh, ho_1, ho_2, ho_3⟩ := kx5 hX_1 hck hhh ho_1 ho_2 ho_3
 replace hB_1 := hX_1.blk hB_1 (Ne.symm ne_1)
 have HB_2 := HB_1.step hX_1 (fun k hk (hY : k = g) => hY)
 simp only [List.set_cons_zero, List.set_cons_succ] at hB_2
 iterate 5 refine e1 ?_
 refine q_v _ (.pointer (some ⟨g_1, 1, none⟩)) (zero_off (o_ixS (off := 0) (i := 1) rfl ev rfl (by omega))) ?_
 refine q_w (o_load1 rfl ev hB_1 hcu_2 ⟨by kernel_rfl, by kernel_rfl⟩) ?_
 refine e1 ?_
 refine k_c Tryz.func42 (mixHash_any _ hB_2 hhh hh32 (ho_2).bs (chT_length _ _) (by omega)) ?_
 rintro e_2 w_3 ⟨A_2, c_2, rfl, hB_3, ho_4, hX_2⟩
 replace ho_4 := ho_4.mono HB_2.size
 obtain ⟨hck, hhh, ho_1, ho_3⟩ := kx4 hX_2 hck hhh ho_1 ho_3
 replace hB_1 := hX_2.blk hB_1 (Ne.symm ne_1)
 have HB_3 := HB_2.step hX_2 (fun k hk (hY : k = g) => hY)
 refine ⟨_, rfl, ?_⟩
 iterate 4 refine e1 ?_
 refine q_v _ (.pointer (some ⟨g_1, 2, none⟩)) (zero_off (o_ixS (off := 0) (i := 2) rfl ev rfl (by omega))) ?_
 refine q_w (o_load1 rfl ev hB_1 hcu_3 ⟨by kernel_rfl, by kernel_rfl⟩) ?_
 refine e1 ?_
 refine k_c Tryz.func6 (NewCipher_any _ (ho_3).bs (chT_length _ _) rfl) ?_
 rintro e_3 w_4 ⟨N_1, gc_1, rfl, hC_1, hge_1, hb_2⟩
 have hn_1 : ¬ N_1 g := fun h => absurd hB_3.lt (Nat.not_lt.2 (hge_1 _ h))
 have gg_1 := hge_1.down HB_3.size
 obtain ⟨hck, hhh, ho_1, hB_3, ho_4⟩ := nx5 hb_2 hck hhh ho_1 hB_3 ho_4
 have HB_4 := HB_3.then hb_2
 refine ⟨_, rfl, ?_⟩
 iterate 4 refine e1 ?_
 refine q_fb 2 ?_
 refine q_d (o_store1 rfl ev ev rfl rfl hB_3 (by simp only [List.length_cons, List.length_nil]; omega) ⟨by kernel_rfl, by kernel_rfl⟩) (fun w_5 hR_5 => ?_)
 obtain ⟨hB_4, hX_3⟩ := hR_5
 obtain ⟨hck, hhh, ho_1, ho_4⟩ := kx4 hX_3 hck hhh ho_1 ho_4
 replace hC_1 := hC_1.keepX hX_3 hn_1
 have HB_5 := HB_4.step hX_3 (fun k hk (hY : k = g) => hY)
 simp only [List.set_cons_zero, List.set_cons_succ] at hB_4
 refine x_nil ?_
 refine end0 rfl hd ?_
 exact ⟨p_1.A, p_1.c, A_2, c_2, N_1, gc_1, rfl, hB_4, ho_1, ho_4, hC_1, gg_1, HB_5⟩
theorem seal_any (w : World) (hB : Blk w g #[v0, .slice Ah (32) (ch), .pointer (some ⟨gc, 0, none⟩), v3, v4, v5, v6, v7, v8, v9, v10] 72) (hhh : Wt w Ah ch hh) (hh32 : hh.length = 32) (hC : CipherAt w N0 gc kk 0) (hn0 : ¬ N0 g) (hx : Bs w A0 c0 xs) (hq : xs.length = q) (b1 : q ≤ 10000) :
  Calls Tryz.prog 48 #[.pointer (some ⟨g, 0, none⟩), .slice A0 (q) (c0)] w fun e w' => ∃ A c A2 c2, e = .returned (.tuple #[.slice A (q + 16) c, .int .i64 0]) ∧ Blk w' g #[v0, .slice A2 (32) (c2), .pointer (some ⟨gc, 0, none⟩), v3, v4, v5, v6, v7, v8, v9, v10] 72 ∧ Own w' w.heap.size A c (sealL kk (nonceL 0) hh xs) ∧ Own w' w.heap.size A2 c2 (shaL (hh ++ sealL kk (nonceL 0) hh xs)) ∧ BelowX (fun k => k = g ∨ k = gc) w w' := by
 have hgne : ¬ g = gc := fun e => hn0 (by rw [e]; exact hC.mem)
 have hsl : (sealL kk (nonceL 0) hh xs).length = q + 16 := by rw [sealL_length, hq]
 refine x_enter 28 Tryz.func48 rfl rfl (fun a hs hd ha0 => ?_)
 have t0 := tA 0 ha0
 have t1 := tA 1 ha0
 clear ha0
 have HB0 : BelowX (fun k => k = g ∨ k = gc) w w := BelowX.refl _ _
 iterate 3 refine e1 ?_
 refine q_as (.int .i64 ((0 : Nat) : Int)) rfl ?_
 iterate 2 refine e1 ?_
 refine x_drawnM 14 9 (fun j => j = gc) (fun w' => CipherAt w' N0 gc kk 0) (fun w' => ∃ N', CipherAt w' N' gc kk (0 + 1) ∧ NextM w N0 N') [fun _ v => v = .pointer (some ⟨g, 0, none⟩), fun _ v => v = .pointer (some ⟨g, 0, none⟩), fun _ v => v = .pointer (some ⟨g, 2, none⟩), fun _ v => v = .pointer (some ⟨gc, 0, none⟩), fun _ v => v = .pointer (some ⟨g, 0, none⟩), fun _ v => v = .pointer (some ⟨g, 0, none⟩), fun _ v => v = .pointer (some ⟨g, 1, none⟩), fun _ v => v = .slice Ah (32) (ch), fun _ v => v = .slice A0 (q) (c0), fun ww vv => TupN w.heap.size (q + 16) (sealL kk (nonceL 0) hh xs) (0) ww vv, fun ww vv => TupN w.heap.size (q + 16) (sealL kk (nonceL 0) hh xs) (0) ww vv, fun ww vv => OwnN w.heap.size (q + 16) (sealL kk (nonceL 0) hh xs) ww vv, fun _ v => v = .int .i64 ((0 : Nat) : Int), fun ww vv => OwnN w.heap.size (q + 16) (sealL kk (nonceL 0) hh xs) ww vv] [9, 10, 11, 12, 13, 14, 15, 16, 17, 18, 8, 19, 20, 6] hs hd (by kernel_rfl) (by kernel_rfl) (by kernel_rfl) (by kernel_rfl) (by kernel_rfl) rfl ⟨stLitX, stLitX, stLitX, stLitX, stLitX, stLitX, stLitX, stLitX, stLitX, (stTupX (fun j hj => hj ▸ hC.lt _ hC.mem)), (stTupX (fun j hj => hj ▸ hC.lt _ hC.mem)), (stOwnX (fun j hj => hj ▸ hC.lt _ hC.mem)), stLitX, (stOwnX (fun j hj => hj ▸ hC.lt _ hC.mem)), trivial⟩ (fun _ _ h hb => h.nx hb) (fun _ _ ⟨N', h, h2⟩ hb => ⟨N', h.nx hb, h2⟩) hC ⟨sx, sx, sx, sx, sx, sx, sx, sx, sx,
(stepM_hot rfl (fun a' w' hb' hO hD hH0 => by
   have d_10 : a'.eval (.tmp 12) = .pointer (some ⟨gc, 0, none⟩) := hD 3 12 (by kernel_rfl) rfl
   have d_11 : a'.eval (.tmp 16) = .slice Ah (32) (ch) := hD 7 16 (by kernel_rfl) rfl
   have d_12 : a'.eval (.tmp 17) = .slice A0 (q) (c0) := hD 8 17 (by kernel_rfl) rfl
   exact ⟨_, #[.pointer (some ⟨gc, 0, none⟩), .slice Ah (32) (ch), .slice A0 (q) (c0)], (exec_call Tryz.func9 (by kernel_rfl) (by kernel_rfl) _ rfl _ _ (args3 d_10 d_11 d_12)), Calls.mono (CSeal_any _ hH0 (hC.wt hb' hhh).bs (hC.bsX hb' hx) hh32 hq (by omega) (by omega) (by omega)) (fun e w'' hR => by obtain ⟨A_1, c_1, rfl, ho_1, hH_1, hX_1⟩ := hR; exact ⟨_, rfl, ⟨_, _, rfl, ho_1.mono hb'.size⟩, hX_1, (by obtain ⟨N', h1, h2⟩ := hH_1; exact ⟨N', h1, fun j hj => (h2 j hj).imp id (Nat.le_trans hb'.size)⟩)⟩)⟩)),
(stepM_val rfl rfl (fun a' w' hb' hO hD => by
   have d_13 := hD 9 18 (by kernel_rfl) rfl
   obtain ⟨A_2, c_2, hv_1, hO_1⟩ := d_13
   exact .inl ⟨_, _, (o_move rfl hv_1), ⟨_, _, rfl, hO_1⟩, Below.refl _ _⟩)),
(stepM_val rfl rfl (fun a' w' hb' hO hD => by
   have d_14 := hD 10 8 (by kernel_rfl) rfl
   obtain ⟨A_3, c_3, hv_2, hO_2⟩ := d_14
   exact .inl ⟨_, _, (o_extract rfl hv_2 rfl), ⟨_, _, rfl, hO_2⟩, Below.refl _ _⟩)),
(stepM_val rfl rfl (fun a' w' hb' hO hD => by
   have d_15 := hD 10 8 (by kernel_rfl) rfl
   obtain ⟨A_4, c_4, hv_3, hO_3⟩ := d_15
   exact .inl ⟨_, _, (o_extract rfl hv_3 rfl), rfl, Below.refl _ _⟩)),
(stepM_val rfl rfl (fun a' w' hb' hO hD => by
   have d_16 := hD 11 19 (by kernel_rfl) rfl
   obtain ⟨A_5, c_5, hv_4, hO_4⟩ := d_16
   exact .inl ⟨_, _, (o_assign rfl hv_4), ⟨_, _, rfl, hO_4⟩, Below.refl _ _⟩)), trivial⟩ (fun a_1 w_1 hs_1 hd_1 hX_2 hH_2 hO_5 hV_1 => ?_)
 have ta_1_0 := fK 0 hO_5
 obtain ⟨N_1, hC_1, hNx_1⟩ := hH_2
 replace hB := hX_2.blk hB (fun e => hn0 (by rw [e]; exact hC.mem))
 replace hhh := hC.wt hX_2 hhh
 replace hx := hC.bsX hX_2 hx
 have HB_1 := HB0.step hX_2 (fun k hk (hY : k = gc) => .inr hY)
 have x_1 := hV_1 9 18 rfl rfl
 obtain ⟨A_6, c_6, hv_5, hO_6⟩ := x_1
 replace hO_6 := hO_6.mono HB0.size
 have x_2 := hV_1 10 8 rfl rfl
 obtain ⟨A_7, c_7, hv_6, hO_7⟩ := x_2
 replace hO_7 := hO_7.mono HB0.size
 have x_3 := hV_1 11 19 rfl rfl
 obtain ⟨A_8, c_8, hv_7, hO_8⟩ := x_3
 replace hO_8 := hO_8.mono HB0.size
 have ta_1_20 := fV 20 hV_1
 have x_4 := hV_1 13 6 rfl rfl
 obtain ⟨A_9, c_9, hv_8, hO_9⟩ := x_4
 replace hO_9 := hO_9.mono HB0.size
 simp only [List.drop_succ_cons, List.drop_zero]
 iterate 6 refine e1 ?_
 refine q_v 22 (.bool (true)) (o_eq (o_eql (m := 0) (n := 0) rfl ev rfl) rfl) ?_
 iterate 6 refine e1 ?_
 refine k_c Tryz.func42 (mixHash_any _ hB hhh hh32 (hO_9).bs hsl (by omega)) ?_
 rintro e_1 w_2 ⟨A_10, c_10, rfl, hB_1, ho_2, hX_3⟩
 replace ho_2 := ho_2.mono HB_1.size
 obtain ⟨hhh, hO_6, hO_7, hO_8, hO_9⟩ := kx5 hX_3 hhh hO_6 hO_7 hO_8 hO_9
 have HB_2 := HB_1.step hX_3 (fun k hk (hY : k = g) => .inl hY)
 refine ⟨_, rfl, ?_⟩
 iterate 10 refine e1 ?_
 exact ⟨A_9, c_9, A_10, c_10, rfl, hB_1, hO_9, ho_2, HB_2⟩
theorem open_ok (w : World) (hB : Blk w g #[v0, .slice Ah (32) (ch), .pointer (some ⟨gc, 0, none⟩), v3, v4, v5, v6, v7, v8, v9, v10] 72) (hhh : Wt w Ah ch hh) (hh32 : hh.length = 32) (hC : CipherAt w N0 gc kk 0) (hn0 : ¬ N0 g) (hx : Bs w A0 c0 xs) (hq : xs.length = q) (b1 : q ≤ 10000) (hr : openL kk (nonceL 0) hh xs = (ys, r)) (hr0 : r = 0) :
  Calls Tryz.prog 56 #[.pointer (some ⟨g, 0, none⟩), .slice A0 (q) (c0)] w fun e w' => ∃ A c A2 c2, e = .returned (.tuple #[.slice A ys.length c, .int .i64 ((r : Nat) : Int)]) ∧ Blk w' g #[v0, .slice A2 (32) (c2), .pointer (some ⟨gc, 0, none⟩), v3, v4, v5, v6, v7, v8, v9, v10] 72 ∧ Own w' w.heap.size A c ys ∧ Own w' w.heap.size A2 c2 (shaL (hh ++ xs)) ∧ Sep (blkA A) (blkA A2) ∧ BelowX (fun k => k = g ∨ k = gc) w w' := by
 have hgne : ¬ g = gc := fun e => hn0 (by rw [e]; exact hC.mem)
 refine x_enter 28 Tryz.func56 rfl rfl (fun a hs hd ha0 => ?_)
 have t0 := tA 0 ha0
 have t1 := tA 1 ha0
 clear ha0
 have HB0 : BelowX (fun k => k = g ∨ k = gc) w w := BelowX.refl _ _
 iterate 3 refine e1 ?_
 refine q_as (.int .i64 ((0 : Nat) : Int)) rfl ?_
 iterate 2 refine e1 ?_
 refine x_drawnM 14 9 (fun j => j = gc) (fun w' => CipherAt w' N0 gc kk 0) (fun w' => ∃ N', CipherAt w' N' gc kk (if r = 0 then 0 + 1 else 0) ∧ NextM w N0 N') [fun _ v => v = .pointer (some ⟨g, 0, none⟩), fun _ v => v = .pointer (some ⟨g, 0, none⟩), fun _ v => v = .pointer (some ⟨g, 2, none⟩), fun _ v => v = .pointer (some ⟨gc, 0, none⟩), fun _ v => v = .pointer (some ⟨g, 0, none⟩), fun _ v => v = .pointer (some ⟨g, 0, none⟩), fun _ v => v = .pointer (some ⟨g, 1, none⟩), fun _ v => v = .slice Ah (32) (ch), fun _ v => v = .slice A0 (q) (c0), fun ww vv => TupN w.heap.size (ys.length) (ys) (r) ww vv, fun ww vv => TupN w.heap.size (ys.length) (ys) (r) ww vv, fun ww vv => OwnN w.heap.size (ys.length) (ys) ww vv, fun _ v => v = .int .i64 ((r : Nat) : Int), fun ww vv => OwnN w.heap.size (ys.length) (ys) ww vv] [9, 10, 11, 12, 13, 14, 15, 16, 17, 18, 8, 19, 20, 6] hs hd (by kernel_rfl) (by kernel_rfl) (by kernel_rfl) (by kernel_rfl) (by kernel_rfl) rfl ⟨stLitX, stLitX, stLitX, stLitX, stLitX, stLitX, stLitX, stLitX, stLitX, (stTupX (fun j hj => hj ▸ hC.lt _ hC.mem)), (stTupX (fun j hj => hj ▸ hC.lt _ hC.mem)), (stOwnX (fun j hj => hj ▸ hC.lt _ hC.mem)), stLitX, (stOwnX (fun j hj => hj ▸ hC.lt _ hC.mem)), trivial⟩ (fun _ _ h hb => h.nx hb) (fun _ _ ⟨N', h, h2⟩ hb => ⟨N', h.nx hb, h2⟩) hC ⟨sx, sx, sx, sx, sx, sx, sx, sx, sx,
(stepM_hot rfl (fun a' w' hb' hO hD hH0 => by
   have d_10 : a'.eval (.tmp 12) = .pointer (some ⟨gc, 0, none⟩) := hD 3 12 (by kernel_rfl) rfl
   have d_11 : a'.eval (.tmp 16) = .slice Ah (32) (ch) := hD 7 16 (by kernel_rfl) rfl
   have d_12 : a'.eval (.tmp 17) = .slice A0 (q) (c0) := hD 8 17 (by kernel_rfl) rfl
   exact ⟨_, #[.pointer (some ⟨gc, 0, none⟩), .slice Ah (32) (ch), .slice A0 (q) (c0)], (exec_call Tryz.func13 (by kernel_rfl) (by kernel_rfl) _ rfl _ _ (args3 d_10 d_11 d_12)), Calls.mono (COpen_any _ hH0 (hC.wt hb' hhh).bs (hC.bsX hb' hx) hh32 hq (by omega) (by omega) (by omega) hr) (fun e w'' hR => by obtain ⟨A_1, c_1, rfl, ho_1, hH_1, hX_1⟩ := hR; exact ⟨_, rfl, ⟨_, _, rfl, ho_1.mono hb'.size⟩, hX_1, (by obtain ⟨N', h1, h2⟩ := hH_1; exact ⟨N', h1, fun j hj => (h2 j hj).imp id (Nat.le_trans hb'.size)⟩)⟩)⟩)),
(stepM_val rfl rfl (fun a' w' hb' hO hD => by
   have d_13 := hD 9 18 (by kernel_rfl) rfl
   obtain ⟨A_2, c_2, hv_1, hO_1⟩ := d_13
   exact .inl ⟨_, _, (o_move rfl hv_1), ⟨_, _, rfl, hO_1⟩, Below.refl _ _⟩)),
(stepM_val rfl rfl (fun a' w' hb' hO hD => by
   have d_14 := hD 10 8 (by kernel_rfl) rfl
   obtain ⟨A_3, c_3, hv_2, hO_2⟩ := d_14
   exact .inl ⟨_, _, (o_extract rfl hv_2 rfl), ⟨_, _, rfl, hO_2⟩, Below.refl _ _⟩)),
(stepM_val rfl rfl (fun a' w' hb' hO hD => by
   have d_15 := hD 10 8 (by kernel_rfl) rfl
   obtain ⟨A_4, c_4, hv_3, hO_3⟩ := d_15
   exact .inl ⟨_, _, (o_extract rfl hv_3 rfl), rfl, Below.refl _ _⟩)),
(stepM_val rfl rfl (fun a' w' hb' hO hD => by
   have d_16 := hD 11 19 (by kernel_rfl) rfl
   obtain ⟨A_5, c_5, hv_4, hO_4⟩ := d_16
   exact .inl ⟨_, _, (o_assign rfl hv_4), ⟨_, _, rfl, hO_4⟩, Below.refl _ _⟩)), trivial⟩ (fun a_1 w_1 hs_1 hd_1 hX_2 hH_2 hO_5 hV_1 => ?_)
 have ta_1_0 := fK 0 hO_5
 have ta_1_1 := fK 1 hO_5
 obtain ⟨N_1, hC_1, hNx_1⟩ := hH_2
 replace hB := hX_2.blk hB (fun e => hn0 (by rw [e]; exact hC.mem))
 replace hhh := hC.wt hX_2 hhh
 replace hx := hC.bsX hX_2 hx
 have HB_1 := HB0.step hX_2 (fun k hk (hY : k = gc) => .inr hY)
 have x_1 := hV_1 9 18 rfl rfl
 obtain ⟨A_6, c_6, hv_5, hO_6⟩ := x_1
 replace hO_6 := hO_6.mono HB0.size
 have x_2 := hV_1 10 8 rfl rfl
 obtain ⟨A_7, c_7, hv_6, hO_7⟩ := x_2
 replace hO_7 := hO_7.mono HB0.size
 have x_3 := hV_1 11 19 rfl rfl
 obtain ⟨A_8, c_8, hv_7, hO_8⟩ := x_3
 replace hO_8 := hO_8.mono HB0.size
 have ta_1_20 := fV 20 hV_1
 have x_4 := hV_1 13 6 rfl rfl
 obtain ⟨A_9, c_9, hv_8, hO_9⟩ := x_4
 replace hO_9 := hO_9.mono HB0.size
 simp only [List.drop_succ_cons, List.drop_zero]
 iterate 6 refine e1 ?_
 refine q_v 22 (.bool (true)) (o_eq (o_eql (m := r) (n := 0) rfl ev rfl) (by rw [hr0]; rfl)) ?_
 iterate 6 refine e1 ?_
 refine k_c Tryz.func42 (mixHash_any _ hB hhh hh32 hx hq (by omega)) ?_
 rintro e_1 w_2 ⟨A_10, c_10, rfl, hB_1, ho_2, hX_3⟩
 have spo_4 : Sep (blkA A_9) (blkA A_10) := Sep.new hO_9.lt ho_2.ge'
 replace ho_2 := ho_2.mono HB_1.size
 obtain ⟨hhh, hO_6, hO_7, hO_8, hO_9⟩ := kx5 hX_3 hhh hO_6 hO_7 hO_8 hO_9
 have HB_2 := HB_1.step hX_3 (fun k hk (hY : k = g) => .inl hY)
 refine ⟨_, rfl, ?_⟩
 iterate 10 refine e1 ?_
 exact ⟨A_9, c_9, A_10, c_10, rfl, hB_1, hO_9, ho_2, spo_4, HB_2⟩
theorem done_first {en : Nat} (w : World) (hB : Blk w g #[v0, v1, v2, v3, v4, .bool (false), v6, v7, v8, v9, v10] 72)  :
  Calls Tryz.prog 49 #[.pointer (some ⟨g, 0, none⟩), .int .i64 ((0 : Nat) : Int), .int .i64 ((nx : Nat) : Int)] w fun e w' => e = .returned (.tuple #[]) ∧ Blk w' g #[v0, v1, v2, v3, .int .i64 ((nx : Nat) : Int), .bool (true), v6, v7, v8, v9, v10] 72 ∧ BelowX (fun k => k = g) w w' := by
 refine x_enter 27 Tryz.func49 rfl rfl (fun a hs hd ha0 => ?_)
 have t0 := tA 0 ha0
 have t1 := tA 1 ha0
 have t2 := tA 2 ha0
 clear ha0
 have HB0 : BelowX (fun k => k = g) w w := BelowX.refl _ _
 iterate 4 refine e1 ?_
 refine q_v 15 (.bool (false)) (o_eq (o_neq (m := 0) (n := 0) rfl ev rfl) rfl) ?_
 iterate 7 refine e1 ?_
 refine q_fb 5 ?_
 refine q_ld (v := .bool (false)) (pe hs rfl rfl) hB rfl ?_
 iterate 8 refine e1 ?_
 refine q_fb 5 ?_
 refine q_d (o_store1 rfl ev rfl rfl rfl hB (by simp only [List.length_cons, List.length_nil]; omega) ⟨by kernel_rfl, by kernel_rfl⟩) (fun w_1 hR_1 => ?_)
 obtain ⟨hB_1, hX_1⟩ := hR_1
 have HB_1 := HB0.step hX_1 (fun k hk (hY : k = g) => hY)
 simp only [List.set_cons_zero, List.set_cons_succ] at hB_1
 refine e1 ?_
 refine q_fb 4 ?_
 refine q_d (o_store1 rfl ev ev rfl rfl hB_1 (by simp only [List.length_cons, List.length_nil]; omega) ⟨by kernel_rfl, by kernel_rfl⟩) (fun w_2 hR_2 => ?_)
 obtain ⟨hB_2, hX_2⟩ := hR_2
 have HB_2 := HB_1.step hX_2 (fun k hk (hY : k = g) => hY)
 simp only [List.set_cons_zero, List.set_cons_succ] at hB_2
 refine e1 ?_
 refine end0 rfl hd ?_
 exact ⟨rfl, hB_2, HB_2⟩
theorem ready_ok (w : World) (hB : Blk w g #[v0, v1, v2, v3, .int .i64 ((t : Nat) : Int), v5, v6, v7, v8, v9, v10] 72) (h3 : ¬ t = 3) :
  Calls Tryz.prog 46 #[.pointer (some ⟨g, 0, none⟩), .int .i64 ((t : Nat) : Int)] w fun e w' => e = .returned (.int .i64 0) ∧ w = w' := by
 refine x_enter 21 Tryz.func46 rfl rfl (fun a hs hd ha0 => ?_)
 have t0 := tA 0 ha0
 have t1 := tA 1 ha0
 clear ha0
 iterate 2 refine e1 ?_
 refine q_as (.int .i64 ((0 : Nat) : Int)) rfl ?_
 iterate 6 refine e1 ?_
 refine q_v 7 (.bool (false)) (o_nil (b := false) rfl ev rfl rfl ⟨72, fun _ => by kernel_rfl⟩) ?_
 iterate 7 refine e1 ?_
 refine q_fb 4 ?_
 refine q_ld (v := .int .i64 ((t : Nat) : Int)) (pe hs rfl rfl) hB rfl ?_
 refine q_v 13 (.bool (false)) (o_eq (o_eql (m := t) (n := 3) rfl ev rfl) (by congr 1; exact decide_eq_false h3)) ?_
 iterate 7 refine e1 ?_
 refine q_fb 4 ?_
 refine q_ld (v := .int .i64 ((t : Nat) : Int)) (pe hs rfl rfl) hB rfl ?_
 refine e1 ?_
 refine q_v 20 (.bool (false)) (o_eq (o_neq (m := t) (n := t) rfl ev ev) (by simp)) ?_
 iterate 8 refine e1 ?_
 refine q_as (.int .i64 ((0 : Nat) : Int)) rfl ?_
 iterate 3 refine e1 ?_
 exact ⟨rfl, rfl⟩
end Go.Proofs.YtkhbihnnkflfkaaGreat
