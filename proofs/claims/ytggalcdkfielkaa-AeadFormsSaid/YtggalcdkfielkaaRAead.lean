/-
 WALKS: the reference's aead: mac, Seal, Open; both, of any key.
-/
import Derived.Test.YtggalcdkfielkaaRXor
import Derived.Test.YtggalcdkfielkaaRTag
import Derived.Test.YtggalcdkfielkaaMem9
import Derived.Test.YtggalcdkfielkaaOpsM
namespace Go.Proofs.Ytggalcdkfielkaa
open Go.RowKit
set_option linter.unusedVariables false
set_option linter.unusedSimpArgs false
set_option maxRecDepth 100000
attribute [local irreducible] wpList wpListIn putsR

/-- A value that is a row of slices, by what they hold. -/
def PartsN (xss : List (List Nat)) (w : World) (v : Value) : Prop := ∃ (g : Nat) (ps : List Part), v = .slice (some ⟨g, 0, none⟩) ps.length ps.length ∧ Blk w g (ps.map Part.val).toArray 22 ∧ (∀ p ∈ ps, Bs w p.A p.c p.xs) ∧ ps.map (fun p => p.xs) = xss
theorem stParts {xss : List (List Nat)} : StP (PartsN xss) := fun _ _ _ ⟨g, ps, hv, hB, hP, hx⟩ hb => ⟨g, ps, hv, hB.nx hb, fun p hp => (hP p hp).below hb, hx⟩
theorem joinP_flat (ps : List Part) : joinP ps ps.length = (ps.map (fun p => p.xs)).flatten := by
 have key : ∀ k, k ≤ ps.length → joinP ps k = ((ps.take k).map (fun p => p.xs)).flatten := by
  intro k
  induction k with
  | zero => intro _; rw [List.take_zero]; rfl
  | succ k ih =>
   intro h
   rw [joinP, ih (by omega), List.take_add_one, List.map_append, List.flatten_append]
   congr 1
   unfold Part.at
   rw [List.getD_eq_getElem?_getD, List.getElem?_eq_getElem (show k < ps.length by omega)]
   simp
 have h := key ps.length (Nat.le_refl _)
 rwa [List.take_length] at h
theorem joinX {xss : List (List Nat)} {g : Nat} {ps : List Part} (w : World) (hB : Blk w g (ps.map Part.val).toArray 22) (hP : ∀ p ∈ ps, Bs w p.A p.c p.xs) (hx : ps.map (fun p => p.xs) = xss) (hl : xss.flatten.length ≤ 70368744177664) (hl2 : xss.length ≤ 4611686018427387904) :
  Calls Try.prog 61 #[.slice (some ⟨g, 0, none⟩) ps.length ps.length] w fun e w' => ∃ A c, e = .returned (.slice A xss.flatten.length c) ∧ Own w' w.heap.size A c xss.flatten ∧ Below w.heap.size w w' := by
 subst hx
 rw [← joinP_flat] at hl
 have h9 := joinW_any w hB hP hl (by rwa [List.length_map] at hl2)
 rw [joinP_flat] at h9
 exact h9
set_option maxHeartbeats 1000000 in
theorem macW_any {A B C E : Option Addr} {c d f g m k p q : Nat} {ks ns zs bs : List Nat} (w : World) (ha : Bs w A c ks) (hb : Bs w B d ns) (hc : Bs w C f zs) (he : Bs w E g bs) (hm : ks.length = m) (hk : ns.length = k) (hp : zs.length = p) (hq : bs.length = q) (hm32 : m = 32) (hk12 : k = 12) (hpl : p ≤ 17592186044416) (hql : q ≤ 17592186044416) :
  Calls Try.prog 33 #[.slice A (m) (c), .slice B (k) (d), .slice C (p) (f), .slice E (q) (g)] w fun e w' => ∃ A c, e = .returned (.slice A 16 c) ∧ Own w' w.heap.size A c (macL ks ns zs bs) ∧ Below w.heap.size w w' := by
 refine x_enter 40 Try.func33 rfl rfl (fun a hs hd ha0 => ?_)
 have t0 : a.eval (.tmp 0) = .slice A (m) (c) := ha0 0 _ rfl
 have t1 : a.eval (.tmp 1) = .slice B (k) (d) := ha0 1 _ rfl
 have t2 : a.eval (.tmp 2) = .slice C (p) (f) := ha0 2 _ rfl
 have t3 : a.eval (.tmp 3) = .slice E (q) (g) := ha0 3 _ rfl
 clear ha0
 refine w2_sr (fun K_1 hK_1 => ?_)
 refine q_as (.slice none (0) (0)) rfl ?_
 refine x_nil (hK_1 _ _ ?_)
 refine w2_sr (fun K_2 hK_2 => ?_)
 refine q_mv ((pm rfl).trans t0) ?_
 refine q_mv ((pm rfl).trans t1) ?_
 refine q_ca (vs := #[.slice A (m) (c), .slice B (k) (d), .int .u32 ((0 : Nat) : Int)]) Try.func58 (args3 (pe hs rfl rfl) (pe hs rfl rfl) rfl) (BlockW_ok 0 _ ha hb hm hk (by decide) hm32 hk12) (fun e_1 w_1 hR_1 => ?_)
 obtain ⟨A_1, c_1, rfl, ho_1, hb_1⟩ := hR_1
 refine ⟨_, rfl, ?_⟩
 refine q_mv (pe hs rfl rfl) ?_
 refine q_ex (v := .slice A_1 (64) (c_1)) (pe hs rfl rfl) rfl ?_
 refine q_ex (v := .int .i64 ((0 : Nat) : Int)) (pe hs rfl rfl) rfl ?_
 refine q_at (pe hs rfl rfl) ?_
 refine q_at (v := .int .i64 ((0 : Nat) : Int)) (pe hs rfl rfl) ?_
 refine x_nil (hK_2 _ _ ?_)
 refine w2_seq (fun K_3 hK_3 => ?_)
 have hS_1 := Bs.sub ho_1.bs (l := 0) (q := 32) (m := c_1) (by omega) (by have := ho_1.bs.le; rw [blockL_length] at this; omega) (Nat.le_refl _)
 rw [subA_zero, List.drop_zero, Nat.sub_zero, Nat.sub_zero] at hS_1
 have hfa := fillL_length zs
 have hfb := fillL_length bs
 have hfl : ([fillL zs, fillL bs, putL p 8, putL q 8].flatten).length = (fillL zs).length + (fillL bs).length + 16 := by simp only [List.flatten_cons, List.flatten_nil, List.length_append, List.length_nil, putL_length]; omega
 rw [hp] at hfa; rw [hq] at hfb
 refine x_drawn2 21 [fun _ v => v = .slice A_1 (64) (c_1), fun _ v => v = .slice A_1 (32) (c_1), fun _ v => v = .slice C (p) (f), fun ww vv => OwnN w_1.heap.size ((fillL zs).length) (fillL zs) ww vv, fun _ v => v = .slice E (q) (g), fun ww vv => OwnN w_1.heap.size ((fillL bs).length) (fillL bs) ww vv, fun _ v => v = .slice C (p) (f), fun _ v => v = .int .i64 ((p : Nat) : Int), fun _ v => v = .int .u64 ((p : Nat) : Int), fun ww vv => OwnN w_1.heap.size (8) (putL p 8) ww vv, fun _ v => v = .slice E (q) (g), fun _ v => v = .int .i64 ((q : Nat) : Int), fun _ v => v = .int .u64 ((q : Nat) : Int), fun ww vv => OwnN w_1.heap.size (8) (putL q 8) ww vv, fun ww vv => PartsN [fillL zs, fillL bs, putL p 8, putL q 8] ww vv, fun ww vv => OwnN w_1.heap.size ([fillL zs, fillL bs, putL p 8, putL q 8].flatten.length) ([fillL zs, fillL bs, putL p 8, putL q 8].flatten) ww vv, fun ww vv => TupN w_1.heap.size (16) (tagL ((blockL ks ns 0).take 32) ([fillL zs, fillL bs, putL p 8, putL q 8].flatten)) (0) ww vv, fun ww vv => TupN w_1.heap.size (16) (tagL ((blockL ks ns 0).take 32) ([fillL zs, fillL bs, putL p 8, putL q 8].flatten)) (0) ww vv, fun ww vv => OwnN w_1.heap.size (16) (tagL ((blockL ks ns 0).take 32) ([fillL zs, fillL bs, putL p 8, putL q 8].flatten)) ww vv, fun _ v => v = .int .i64 ((0 : Nat) : Int), fun ww vv => OwnN w_1.heap.size (16) (tagL ((blockL ks ns 0).take 32) ([fillL zs, fillL bs, putL p 8, putL q 8].flatten)) ww vv] [20, 21, 22, 23, 24, 25, 26, 27, 28, 29, 30, 31, 32, 33, 34, 35, 36, 19, 37, 38, 11] hs hd (by kernel_rfl) (by kernel_rfl) (by kernel_rfl) (by kernel_rfl) (by kernel_rfl) ⟨stLit, stLit, stLit, stOwn, stLit, stOwn, stLit, stLit, stLit, stOwn, stLit, stLit, stLit, stOwn, stParts, stOwn, stTup, stTup, stOwn, stLit, stOwn, trivial⟩ ⟨(step_ok rfl (fun a' w' hb' hO hD => by
   have d_1 : a'.eval (.tmp 9) = .slice A_1 (64) (c_1) := (hO 9 (by decide)).trans (pe hs rfl rfl)
   exact .inl ⟨_, _, (o_move rfl d_1), rfl, Below.refl _ _⟩)),
(step_ok rfl (fun a' w' hb' hO hD => by
   have d_2 : a'.eval (.tmp 20) = .slice A_1 (64) (c_1) := hD 0 20 (by kernel_rfl) rfl
   exact .inl ⟨_, _, (o_eq (o_sliceH (h := 32) rfl d_2 rfl (by have := ho_1.bs.le; rw [blockL_length] at this; omega)) (by rw [subA_zero])), rfl, Below.refl _ _⟩)),
(step_ok rfl (fun a' w' hb' hO hD => by
   have d_3 := (hO 2 (by decide)).trans ((pm rfl).trans t2)
   exact .inl ⟨_, _, (o_move rfl d_3), rfl, Below.refl _ _⟩)),
(step_ok rfl (fun a' w' hb' hO hD => by
   have d_4 : a'.eval (.tmp 22) = .slice C (p) (f) := hD 2 22 (by kernel_rfl) rfl
   exact .inr ⟨_, #[.slice C (p) (f)], (exec_call Try.func62 (by kernel_rfl) (by kernel_rfl) _ rfl _ _ (args1 d_4)), Calls.mono (filledW_any _ (hc.below (below_from hb_1 hb')) hp (by omega)) (fun e w'' hR => by obtain ⟨A_2, c_2, rfl, ho_2, hb_2⟩ := hR; exact ⟨_, rfl, ⟨_, _, rfl, ho_2.mono hb'.size⟩, hb_2⟩)⟩)),
(step_ok rfl (fun a' w' hb' hO hD => by
   have d_5 := (hO 3 (by decide)).trans ((pm rfl).trans t3)
   exact .inl ⟨_, _, (o_move rfl d_5), rfl, Below.refl _ _⟩)),
(step_ok rfl (fun a' w' hb' hO hD => by
   have d_6 : a'.eval (.tmp 24) = .slice E (q) (g) := hD 4 24 (by kernel_rfl) rfl
   exact .inr ⟨_, #[.slice E (q) (g)], (exec_call Try.func62 (by kernel_rfl) (by kernel_rfl) _ rfl _ _ (args1 d_6)), Calls.mono (filledW_any _ (he.below (below_from hb_1 hb')) hq (by omega)) (fun e w'' hR => by obtain ⟨A_3, c_3, rfl, ho_3, hb_3⟩ := hR; exact ⟨_, rfl, ⟨_, _, rfl, ho_3.mono hb'.size⟩, hb_3⟩)⟩)),
(step_ok rfl (fun a' w' hb' hO hD => by
   have d_7 := (hO 2 (by decide)).trans ((pm rfl).trans t2)
   exact .inl ⟨_, _, (o_move rfl d_7), rfl, Below.refl _ _⟩)),
(step_ok rfl (fun a' w' hb' hO hD => by
   have d_8 : a'.eval (.tmp 26) = .slice C (p) (f) := hD 6 26 (by kernel_rfl) rfl
   exact .inl ⟨_, _, (o_len rfl d_8), rfl, Below.refl _ _⟩)),
(step_ok rfl (fun a' w' hb' hO hD => by
   have d_9 : a'.eval (.tmp 27) = .int .i64 ((p : Nat) : Int) := hD 7 27 (by kernel_rfl) rfl
   exact .inl ⟨_, _, (o_conv (m := p) (r := p) rfl d_9 ⟨.int .i64, fun _ => by kernel_rfl⟩ (fun _ => by kernel_rfl) (by rw [IntKind.wrap_u64]; omega)), rfl, Below.refl _ _⟩)),
(step_ok rfl (fun a' w' hb' hO hD => by
   have d_10 : a'.eval (.tmp 28) = .int .u64 ((p : Nat) : Int) := hD 8 28 (by kernel_rfl) rfl
   exact .inr ⟨_, #[.int .u64 ((p : Nat) : Int), .int .i64 ((8 : Nat) : Int)], (exec_call Try.func35 (by kernel_rfl) (by kernel_rfl) _ rfl _ _ (args2 d_10 rfl)), Calls.mono (PutLowW_any p 8 _ (by omega) (by decide)) (fun e w'' hR => by obtain ⟨A_4, c_4, rfl, ho_4, hb_4⟩ := hR; exact ⟨_, rfl, ⟨_, _, rfl, ho_4.mono hb'.size⟩, hb_4⟩)⟩)),
(step_ok rfl (fun a' w' hb' hO hD => by
   have d_11 := (hO 3 (by decide)).trans ((pm rfl).trans t3)
   exact .inl ⟨_, _, (o_move rfl d_11), rfl, Below.refl _ _⟩)),
(step_ok rfl (fun a' w' hb' hO hD => by
   have d_12 : a'.eval (.tmp 30) = .slice E (q) (g) := hD 10 30 (by kernel_rfl) rfl
   exact .inl ⟨_, _, (o_len rfl d_12), rfl, Below.refl _ _⟩)),
(step_ok rfl (fun a' w' hb' hO hD => by
   have d_13 : a'.eval (.tmp 31) = .int .i64 ((q : Nat) : Int) := hD 11 31 (by kernel_rfl) rfl
   exact .inl ⟨_, _, (o_conv (m := q) (r := q) rfl d_13 ⟨.int .i64, fun _ => by kernel_rfl⟩ (fun _ => by kernel_rfl) (by rw [IntKind.wrap_u64]; omega)), rfl, Below.refl _ _⟩)),
(step_ok rfl (fun a' w' hb' hO hD => by
   have d_14 : a'.eval (.tmp 32) = .int .u64 ((q : Nat) : Int) := hD 12 32 (by kernel_rfl) rfl
   exact .inr ⟨_, #[.int .u64 ((q : Nat) : Int), .int .i64 ((8 : Nat) : Int)], (exec_call Try.func35 (by kernel_rfl) (by kernel_rfl) _ rfl _ _ (args2 d_14 rfl)), Calls.mono (PutLowW_any q 8 _ (by omega) (by decide)) (fun e w'' hR => by obtain ⟨A_5, c_5, rfl, ho_5, hb_5⟩ := hR; exact ⟨_, rfl, ⟨_, _, rfl, ho_5.mono hb'.size⟩, hb_5⟩)⟩)),
(step_ok rfl (fun a' w' hb' hO hD => by
   have d_15 := hD 3 23 (by kernel_rfl) rfl
   obtain ⟨A_6, c_6, hv_1, hO_1⟩ := d_15
   have d_16 := hD 5 25 (by kernel_rfl) rfl
   obtain ⟨A_7, c_7, hv_2, hO_2⟩ := d_16
   have d_17 := hD 9 29 (by kernel_rfl) rfl
   obtain ⟨A_8, c_8, hv_3, hO_3⟩ := d_17
   have d_18 := hD 13 33 (by kernel_rfl) rfl
   obtain ⟨A_9, c_9, hv_4, hO_4⟩ := d_18
   exact out_new (o_bldS (vs := #[(0, .slice A_6 ((fillL zs).length) (c_6)), (1, .slice A_7 ((fillL bs).length) (c_7)), (2, .slice A_8 (8) (c_8)), (3, .slice A_9 (8) (c_9))]) (cs := #[.slice A_6 ((fillL zs).length) (c_6), .slice A_7 ((fillL bs).length) (c_7), .slice A_8 (8) (c_8), .slice A_9 (8) (c_9)]) (e := 22) rfl (bld4 hv_1 hv_2 hv_3 hv_4) (fun _ => by kernel_rfl)) (fun v w_2 hR => by obtain ⟨g_1, rfl, hle_1, hB_1, hb_6⟩ := hR; exact ⟨⟨g_1, [⟨A_6, c_6, fillL zs⟩, ⟨A_7, c_7, fillL bs⟩, ⟨A_8, c_8, putL p 8⟩, ⟨A_9, c_9, putL q 8⟩], rfl, (by simp only [List.map_cons, List.map_nil, Part.val, putL_length]; exact hB_1), (by intro p hp; simp only [List.mem_cons, List.not_mem_nil, or_false] at hp; rcases hp with rfl | rfl | rfl | rfl <;> first | exact ((hO_1).bs).below hb_6 | exact ((hO_2).bs).below hb_6 | exact ((hO_3).bs).below hb_6 | exact ((hO_4).bs).below hb_6), rfl⟩, hb_6⟩))),
(step_ok rfl (fun a' w' hb' hO hD => by
   have d_19 := hD 14 34 (by kernel_rfl) rfl
   obtain ⟨g_2, ps_1, hv_5, hB_2, hP_1, hx_1⟩ := d_19
   exact .inr ⟨_, #[.slice ((some ⟨g_2, 0, none⟩)) (ps_1.length) (ps_1.length)], (exec_call Try.func61 (by kernel_rfl) (by kernel_rfl) _ rfl _ _ (args1 hv_5)), Calls.mono (joinX _ hB_2 hP_1 hx_1 (by omega) (by simp)) (fun e w'' hR => by obtain ⟨A_10, c_10, rfl, ho_6, hb_7⟩ := hR; exact ⟨_, rfl, ⟨_, _, rfl, ho_6.mono hb'.size⟩, hb_7⟩)⟩)),
(step_ok rfl (fun a' w' hb' hO hD => by
   have d_20 : a'.eval (.tmp 21) = .slice A_1 (32) (c_1) := hD 1 21 (by kernel_rfl) rfl
   have d_21 := hD 15 35 (by kernel_rfl) rfl
   obtain ⟨A_11, c_11, hv_6, hO_5⟩ := d_21
   exact .inr ⟨_, #[.slice A_1 (32) (c_1), .slice A_11 ([fillL zs, fillL bs, putL p 8, putL q 8].flatten.length) (c_11)], (exec_call Try.func60 (by kernel_rfl) (by kernel_rfl) _ rfl _ _ (args2 d_20 hv_6)), Calls.mono (TagW_any _ (hS_1.nx hb') (hO_5).bs (by rw [List.length_take, blockL_length]; rfl) rfl rfl (by omega)) (fun e w'' hR => by obtain ⟨A_12, c_12, rfl, ho_7, hb_8⟩ := hR; exact ⟨_, rfl, ⟨_, _, rfl, ho_7.mono hb'.size⟩, hb_8⟩)⟩)),
(step_ok rfl (fun a' w' hb' hO hD => by
   have d_22 := hD 16 36 (by kernel_rfl) rfl
   obtain ⟨A_13, c_13, hv_7, hO_6⟩ := d_22
   exact .inl ⟨_, _, (o_move rfl hv_7), ⟨_, _, rfl, hO_6⟩, Below.refl _ _⟩)),
(step_ok rfl (fun a' w' hb' hO hD => by
   have d_23 := hD 17 19 (by kernel_rfl) rfl
   obtain ⟨A_14, c_14, hv_8, hO_7⟩ := d_23
   exact .inl ⟨_, _, (o_extract rfl hv_8 rfl), ⟨_, _, rfl, hO_7⟩, Below.refl _ _⟩)),
(step_ok rfl (fun a' w' hb' hO hD => by
   have d_24 := hD 17 19 (by kernel_rfl) rfl
   obtain ⟨A_15, c_15, hv_9, hO_8⟩ := d_24
   exact .inl ⟨_, _, (o_extract rfl hv_9 rfl), rfl, Below.refl _ _⟩)),
(step_ok rfl (fun a' w' hb' hO hD => by
   have d_25 := hD 18 37 (by kernel_rfl) rfl
   obtain ⟨A_16, c_16, hv_10, hO_9⟩ := d_25
   exact .inl ⟨_, _, (o_assign rfl hv_10), ⟨_, _, rfl, hO_9⟩, Below.refl _ _⟩)), trivial⟩ (fun a_1 w_3 hs_1 hd_1 hb_9 hO_10 hV_1 => ?_)
 clear t0 t1 t2 t3 hd
 replace hS_1 := hS_1.nx hb_9
 have HB_1 := below_from hb_1 hb_9
 have x_1 := hV_1 3 23 rfl rfl
 obtain ⟨A_17, c_17, hv_11, hO_11⟩ := x_1
 replace hO_11 := hO_11.mono hb_1.size
 have x_2 := hV_1 5 25 rfl rfl
 obtain ⟨A_18, c_18, hv_12, hO_12⟩ := x_2
 replace hO_12 := hO_12.mono hb_1.size
 have x_3 := hV_1 9 29 rfl rfl
 obtain ⟨A_19, c_19, hv_13, hO_13⟩ := x_3
 replace hO_13 := hO_13.mono hb_1.size
 have x_4 := hV_1 13 33 rfl rfl
 obtain ⟨A_20, c_20, hv_14, hO_14⟩ := x_4
 replace hO_14 := hO_14.mono hb_1.size
 have x_5 := hV_1 14 34 rfl rfl
 obtain ⟨g_3, ps_2, hv_15, hB_3, hP_2, hx_2⟩ := x_5
 have x_6 := hV_1 15 35 rfl rfl
 obtain ⟨A_21, c_21, hv_16, hO_15⟩ := x_6
 replace hO_15 := hO_15.mono hb_1.size
 have x_7 := hV_1 16 36 rfl rfl
 obtain ⟨A_22, c_22, hv_17, hO_16⟩ := x_7
 replace hO_16 := hO_16.mono hb_1.size
 have x_8 := hV_1 17 19 rfl rfl
 obtain ⟨A_23, c_23, hv_18, hO_17⟩ := x_8
 replace hO_17 := hO_17.mono hb_1.size
 have x_9 := hV_1 18 37 rfl rfl
 obtain ⟨A_24, c_24, hv_19, hO_18⟩ := x_9
 replace hO_18 := hO_18.mono hb_1.size
 have ta_1_38 : a_1.eval (.tmp 38) = .int .i64 ((0 : Nat) : Int) := hV_1 19 38 rfl rfl
 have x_10 := hV_1 20 11 rfl rfl
 obtain ⟨A_25, c_25, hv_20, hO_19⟩ := x_10
 replace hO_19 := hO_19.mono hb_1.size
 clear hV_1 hO_10
 simp only [List.drop_succ_cons, List.drop_zero]
 refine q_at (v := .int .i64 ((0 : Nat) : Int)) ((pm rfl).trans ta_1_38) ?_
 refine x_nil (hK_3 _ _ ?_)
 refine w2_sr (fun K_4 hK_4 => ?_)
 refine q_mv ((pm rfl).trans hv_20) ?_
 refine q_at (pe hs_1 rfl rfl) ?_
 refine x_nil (hK_4 _ _ ?_)
 refine w2_ret ?_
 refine ret1 rfl hd_1 (pe hs_1 rfl rfl) ?_
 exact ⟨_, _, rfl, (by have h9 := hO_19; simp only [List.flatten_cons, List.flatten_nil, List.append_nil] at h9; unfold macL macIn; rw [hp, hq, List.append_assoc, List.append_assoc]; exact h9), HB_1⟩
set_option maxHeartbeats 1000000 in
theorem SealW_ok {A B C E : Option Addr} {c d f g m k p q : Nat} {ks ns zs bs : List Nat} (w : World) (ha : Bs w A c ks) (hb : Bs w B d ns) (hc : Bs w C f zs) (he : Bs w E g bs) (hm : ks.length = m) (hk : ns.length = k) (hp : zs.length = p) (hq : bs.length = q) (hm32 : m = 32) (hk12 : k = 12) (hpl : p ≤ 17592186044416) (hql : q ≤ 17592186044416) :
  Calls Try.prog 8 #[.slice A (m) (c), .slice B (k) (d), .slice C (p) (f), .slice E (q) (g)] w fun e w' => ∃ A c, e = .returned (.tuple #[.slice A (q + 16) c, .int .i64 0]) ∧ Own w' w.heap.size A c (sealL ks ns zs bs) ∧ Below w.heap.size w w' := by
 refine x_enter 29 Try.func8 rfl rfl (fun a hs hd ha0 => ?_)
 have t0 : a.eval (.tmp 0) = .slice A (m) (c) := ha0 0 _ rfl
 have t1 : a.eval (.tmp 1) = .slice B (k) (d) := ha0 1 _ rfl
 have t2 : a.eval (.tmp 2) = .slice C (p) (f) := ha0 2 _ rfl
 have t3 : a.eval (.tmp 3) = .slice E (q) (g) := ha0 3 _ rfl
 clear ha0
 refine w2_sr (fun K_1 hK_1 => ?_)
 refine q_as (.slice none (0) (0)) rfl ?_
 refine q_as (.int .i64 ((0 : Nat) : Int)) rfl ?_
 refine x_nil (hK_1 _ _ ?_)
 refine w2_sr (fun K_2 hK_2 => ?_)
 refine q_mv ((pm rfl).trans t0) ?_
 refine q_mv ((pm rfl).trans t1) ?_
 refine q_mv ((pm rfl).trans t3) ?_
 refine q_ca (vs := #[.slice A (m) (c), .slice B (k) (d), .int .u32 ((1 : Nat) : Int), .slice E (q) (g)]) Try.func32 (args4 (pe hs rfl rfl) (pe hs rfl rfl) rfl (pe hs rfl rfl)) (XorChaW_ok 1 _ ha hb he hm hk hq (by omega) hm32 hk12 (by omega)) (fun e_1 w_1 hR_1 => ?_)
 obtain ⟨A_1, c_1, rfl, ho_1, hb_1⟩ := hR_1
 refine ⟨_, rfl, ?_⟩
 refine q_mv (pe hs rfl rfl) ?_
 refine q_ex (v := .slice A_1 (q) (c_1)) (pe hs rfl rfl) rfl ?_
 refine q_ex (v := .int .i64 ((0 : Nat) : Int)) (pe hs rfl rfl) rfl ?_
 refine q_at (pe hs rfl rfl) ?_
 refine q_at (v := .int .i64 ((0 : Nat) : Int)) (pe hs rfl rfl) ?_
 refine x_nil (hK_2 _ _ ?_)
 refine w2_seq (fun K_3 hK_3 => ?_)
 refine w2_sr (fun K_4 hK_4 => ?_)
 refine q_mv (v := .int .i64 ((0 : Nat) : Int)) (pe hs rfl rfl) ?_
 refine q_v 20 (.bool (false)) (o_eq (o_neq (m := 0) (n := 0) rfl (pe hs rfl rfl) rfl) rfl) ?_
 refine x_nil (hK_4 _ _ ?_)
 refine w2_condF (pe hs rfl rfl) ?_
 refine w2_skip ?_
 refine hK_3 _ _ ?_
 refine w2_sr (fun K_5 hK_5 => ?_)
 refine q_mv (pe hs rfl rfl) ?_
 refine q_mv ((pm rfl).trans t0) ?_
 refine q_mv ((pm rfl).trans t1) ?_
 refine q_mv ((pm rfl).trans t2) ?_
 refine q_mv (pe hs rfl rfl) ?_
 refine q_ca (vs := #[.slice A (m) (c), .slice B (k) (d), .slice C (p) (f), .slice A_1 (q) (c_1)]) Try.func33 (args4 (pe hs rfl rfl) (pe hs rfl rfl) (pe hs rfl rfl) (pe hs rfl rfl)) (macW_any _ (ha.below hb_1) (hb.below hb_1) (hc.below hb_1) (ho_1).bs hm hk hp (by simp only [xorS_length, hq]) hm32 hk12 (by omega) (by omega)) (fun e_2 w_2 hR_2 => ?_)
 obtain ⟨A_2, c_2, rfl, ho_2, hb_2⟩ := hR_2
 replace ho_2 := ho_2.mono hb_1.size
 replace ho_1 := ho_1.nx hb_2
 have HB_1 := below_from hb_1 hb_2
 refine ⟨_, rfl, ?_⟩
 refine op_ex (d := 28) rfl rfl (o_append rfl (pe hs rfl rfl) (pe hs rfl rfl) ho_1 (ho_2).bs (by rw [xorS_length, hq]) (by simp only [macL_length]) (by omega) HB_1.size) (fun v_1 w_3 hR_3 => ?_)
 obtain ⟨A_3, c_3, rfl, ho_3, hb_3, hg_1, hat_1⟩ := hR_3
 have HB_2 : Below w.heap.size w w_3 := (HB_1).trans hb_3
 clear hg_1 hat_1 ho_1
 refine q_at (pe hs rfl rfl) ?_
 refine q_as (.int .i64 ((0 : Nat) : Int)) rfl ?_
 refine x_nil (hK_5 _ _ ?_)
 refine w2_ret ?_
 refine ret2 rfl hd (pe hs rfl rfl) (pe hs rfl rfl) ?_
 exact ⟨_, _, rfl, ho_3, HB_2⟩
set_option maxHeartbeats 1000000 in
theorem OpenW_ok {A B C E : Option Addr} {c d f g m k p q : Nat} {ks ns zs bs : List Nat} (w : World) (ha : Bs w A c ks) (hb : Bs w B d ns) (hc : Bs w C f zs) (he : Bs w E g bs) (hm : ks.length = m) (hk : ns.length = k) (hp : zs.length = p) (hq : bs.length = q) (hm32 : m = 32) (hk12 : k = 12) (hpl : p ≤ 17592186044416) (hql : q ≤ 17592186044416) :
  Calls Try.prog 13 #[.slice A (m) (c), .slice B (k) (d), .slice C (p) (f), .slice E (q) (g)] w fun e w' => ∃ A c, e = .returned (.tuple #[.slice A (openL ks ns zs bs).1.length c, .int .i64 (((openL ks ns zs bs).2 : Nat) : Int)]) ∧ Own w' w.heap.size A c (openL ks ns zs bs).1 ∧ Below w.heap.size w w' := by
 have hle := he.le
 have hbn : Bs w (subA E 0 g) g (bs.take (q - 16)) := by
  have h := he.sub (l := 0) (q := q - 16) (m := g) (by omega) (by omega) (Nat.le_refl _)
  simpa using h
 have hbt : Bs w (subA E (q - 16) g) (g - (q - 16)) (bs.drop (q - 16)) := by
  have h := he.sub (l := q - 16) (q := q) (m := g) (by omega) (by omega) (Nat.le_refl _)
  rwa [show (bs.drop (q - 16)).take (q - (q - 16)) = bs.drop (q - 16) from List.take_of_length_le (by rw [List.length_drop]; omega)] at h
 have hnl : (bs.take (q - 16)).length = q - 16 := by rw [List.length_take]; omega
 have htl : (bs.drop (q - 16)).length = q - (q - 16) := by rw [List.length_drop, hq]
 refine x_enter 46 Try.func13 rfl rfl (fun a hs hd ha0 => ?_)
 have t0 : a.eval (.tmp 0) = .slice A (m) (c) := ha0 0 _ rfl
 have t1 : a.eval (.tmp 1) = .slice B (k) (d) := ha0 1 _ rfl
 have t2 : a.eval (.tmp 2) = .slice C (p) (f) := ha0 2 _ rfl
 have t3 : a.eval (.tmp 3) = .slice E (q) (g) := ha0 3 _ rfl
 clear ha0
 refine w2_sr (fun K_1 hK_1 => ?_)
 refine q_as (.slice none (0) (0)) rfl ?_
 refine q_as (.int .i64 ((0 : Nat) : Int)) rfl ?_
 refine x_nil (hK_1 _ _ ?_)
 refine w2_seq (fun K_2 hK_2 => ?_)
 refine w2_sr (fun K_3 hK_3 => ?_)
 refine q_mv ((pm rfl).trans t0) ?_
 refine q_v 12 (.int .i64 ((m : Nat) : Int)) (o_len rfl (pe hs rfl rfl)) ?_
 refine q_v 13 (.bool (false)) (o_eq (o_neq (m := m) (n := 32) rfl (pe hs rfl rfl) rfl) (by rw [decide_eq_true hm32]; rfl)) ?_
 refine q_mv (pe hs rfl rfl) ?_
 refine op_valG (e := 14) (d := 15) (v := .slice B (k) (d)) rfl rfl (by kernel_rfl) (pe hs rfl rfl) (o_move rfl ((pm rfl).trans t1)) ?_
 refine op_valG (e := 14) (d := 16) (v := .int .i64 ((k : Nat) : Int)) rfl rfl (by kernel_rfl) (pe hs rfl rfl) (o_len rfl (pe hs rfl rfl)) ?_
 refine op_valG (e := 14) (d := 17) (v := .bool (false)) rfl rfl (by kernel_rfl) (pe hs rfl rfl) (o_eq (o_neq (m := k) (n := 12) rfl (pe hs rfl rfl) rfl) (by rw [decide_eq_true hk12]; rfl)) ?_
 refine q_v 18 (.bool (false)) (o_pickF rfl (pe hs rfl rfl) (pe hs rfl rfl)) ?_
 refine x_nil (hK_3 _ _ ?_)
 refine w2_condF (pe hs rfl rfl) ?_
 refine w2_skip ?_
 refine hK_2 _ _ ?_
 refine w2_seq (fun K_4 hK_4 => ?_)
 refine w2_sr (fun K_5 hK_5 => ?_)
 refine q_mv ((pm rfl).trans t3) ?_
 refine q_v 20 (.int .i64 ((q : Nat) : Int)) (o_len rfl (pe hs rfl rfl)) ?_
 refine q_v 21 (.bool (decide (q < 16))) (o_lss (m := q) (n := 16) rfl (pe hs rfl rfl) rfl) ?_
 refine x_nil (hK_5 _ _ ?_)
 refine w2_split (pe hs rfl rfl) (fun h_1 => ?_) (fun h_1 => ?_)
 ·simp only [DD9] at h_1
  have ho : openL ks ns zs bs = ([], 2) := if_pos (by omega)
  refine w2_sr (fun K_6 hK_6 => ?_)
  refine q_as (.slice none (0) (0)) rfl ?_
  refine q_as (.int .i64 ((2 : Nat) : Int)) rfl ?_
  refine x_nil (hK_6 _ _ ?_)
  refine w2_ret ?_
  refine thn_ret ?_
  refine ret2 rfl hd (pe hs rfl rfl) (pe hs rfl rfl) ?_
  exact ⟨none, 0, by rw [ho]; rfl, by rw [ho]; exact Own.nil _ _, Below.refl _ _⟩
 ·simp only [DD9] at h_1
  refine w2_skip ?_
  refine hK_4 _ _ ?_
  refine w2_sr (fun K_7 hK_7 => ?_)
  refine q_mv ((pm rfl).trans t3) ?_
  refine q_mv ((pm rfl).trans t3) ?_
  refine q_v 24 (.int .i64 ((q : Nat) : Int)) (o_len rfl (pe hs rfl rfl)) ?_
  refine q_v 25 (.int .i64 ((q - 16 : Nat) : Int)) (o_sub64 (m := q) (n := 16) rfl (pe hs rfl rfl) rfl (by omega) (by omega)) ?_
  refine q_v 26 (.slice ((subA E 0 g)) (q - 16) (g)) (o_sliceH (h := q - 16) rfl (pe hs rfl rfl) (pe hs rfl rfl) (by omega)) ?_
  refine q_at (pe hs rfl rfl) ?_
  refine x_nil (hK_7 _ _ ?_)
  refine w2_seq (fun K_8 hK_8 => ?_)
  refine w2_seq (fun K_9 hK_9 => ?_)
  refine x_drawn 12 [fun _ v => v = .slice A (m) (c), fun _ v => v = .slice B (k) (d), fun _ v => v = .slice C (p) (f), fun _ v => v = .slice ((subA E 0 g)) (q - 16) (g), fun ww vv => OwnN w.heap.size (16) (macL ks ns zs (bs.take (q - 16))) ww vv, fun _ v => v = .string (strB (macL ks ns zs (bs.take (q - 16)))), fun _ v => v = .slice E (q) (g), fun _ v => v = .slice E (q) (g), fun _ v => v = .int .i64 ((q : Nat) : Int), fun _ v => v = .int .i64 ((q - 16 : Nat) : Int), fun _ v => v = .slice ((subA E (q - 16) g)) (q - (q - 16)) (g - (q - 16)), fun _ v => v = .string (strB (bs.drop (q - 16)))] [27, 28, 29, 30, 31, 32, 33, 34, 35, 36, 37, 38] hs hd (by kernel_rfl) (by kernel_rfl) (by kernel_rfl) (by kernel_rfl) (by kernel_rfl) ⟨stLit, stLit, stLit, stLit, stOwn, stLit, stLit, stLit, stLit, stLit, stLit, stLit, trivial⟩ ⟨(step_ok rfl (fun a' w' hb' hO hD => by
    have d_1 := (hO 0 (by decide)).trans ((pm rfl).trans t0)
    exact .inl ⟨_, _, (o_move rfl d_1), rfl, Below.refl _ _⟩)),
(step_ok rfl (fun a' w' hb' hO hD => by
    have d_2 := (hO 1 (by decide)).trans ((pm rfl).trans t1)
    exact .inl ⟨_, _, (o_move rfl d_2), rfl, Below.refl _ _⟩)),
(step_ok rfl (fun a' w' hb' hO hD => by
    have d_3 := (hO 2 (by decide)).trans ((pm rfl).trans t2)
    exact .inl ⟨_, _, (o_move rfl d_3), rfl, Below.refl _ _⟩)),
(step_ok rfl (fun a' w' hb' hO hD => by
    have d_4 : a'.eval (.tmp 10) = .slice ((subA E 0 g)) (q - 16) (g) := (hO 10 (by decide)).trans (pe hs rfl rfl)
    exact .inl ⟨_, _, (o_move rfl d_4), rfl, Below.refl _ _⟩)),
(step_ok rfl (fun a' w' hb' hO hD => by
    have d_5 : a'.eval (.tmp 27) = .slice A (m) (c) := hD 0 27 (by kernel_rfl) rfl
    have d_6 : a'.eval (.tmp 28) = .slice B (k) (d) := hD 1 28 (by kernel_rfl) rfl
    have d_7 : a'.eval (.tmp 29) = .slice C (p) (f) := hD 2 29 (by kernel_rfl) rfl
    have d_8 : a'.eval (.tmp 30) = .slice ((subA E 0 g)) (q - 16) (g) := hD 3 30 (by kernel_rfl) rfl
    exact .inr ⟨_, #[.slice A (m) (c), .slice B (k) (d), .slice C (p) (f), .slice ((subA E 0 g)) (q - 16) (g)], (exec_call Try.func33 (by kernel_rfl) (by kernel_rfl) _ rfl _ _ (args4 d_5 d_6 d_7 d_8)), Calls.mono (macW_any _ (ha.below hb') (hb.below hb') (hc.below hb') (hbn.below hb') hm hk hp hnl hm32 hk12 (by omega) (by omega)) (fun e w'' hR => by obtain ⟨A_1, c_1, rfl, ho_1, hb_1⟩ := hR; exact ⟨_, rfl, ⟨_, _, rfl, ho_1.mono hb'.size⟩, hb_1⟩)⟩)),
(step_ok rfl (fun a' w' hb' hO hD => by
    have d_9 := hD 4 31 (by kernel_rfl) rfl
    obtain ⟨A_2, c_2, hv_1, hO_1⟩ := d_9
    exact .inl ⟨_, _, (o_str rfl hv_1 (hO_1).bs (by simp only [macL_length])), rfl, Below.refl _ _⟩)),
(step_ok rfl (fun a' w' hb' hO hD => by
    have d_10 := (hO 3 (by decide)).trans ((pm rfl).trans t3)
    exact .inl ⟨_, _, (o_move rfl d_10), rfl, Below.refl _ _⟩)),
(step_ok rfl (fun a' w' hb' hO hD => by
    have d_11 := (hO 3 (by decide)).trans ((pm rfl).trans t3)
    exact .inl ⟨_, _, (o_move rfl d_11), rfl, Below.refl _ _⟩)),
(step_ok rfl (fun a' w' hb' hO hD => by
    have d_12 : a'.eval (.tmp 34) = .slice E (q) (g) := hD 7 34 (by kernel_rfl) rfl
    exact .inl ⟨_, _, (o_len rfl d_12), rfl, Below.refl _ _⟩)),
(step_ok rfl (fun a' w' hb' hO hD => by
    have d_13 : a'.eval (.tmp 35) = .int .i64 ((q : Nat) : Int) := hD 8 35 (by kernel_rfl) rfl
    exact .inl ⟨_, _, (o_sub64 (m := q) (n := 16) rfl d_13 rfl (by omega) (by omega)), rfl, Below.refl _ _⟩)),
(step_ok rfl (fun a' w' hb' hO hD => by
    have d_14 : a'.eval (.tmp 33) = .slice E (q) (g) := hD 6 33 (by kernel_rfl) rfl
    have d_15 : a'.eval (.tmp 36) = .int .i64 ((q - 16 : Nat) : Int) := hD 9 36 (by kernel_rfl) rfl
    exact .inl ⟨_, _, (o_sliceL (l := q - 16) rfl d_14 d_15 (by omega)), rfl, Below.refl _ _⟩)),
(step_ok rfl (fun a' w' hb' hO hD => by
    have d_16 : a'.eval (.tmp 37) = .slice ((subA E (q - 16) g)) (q - (q - 16)) (g - (q - 16)) := hD 10 37 (by kernel_rfl) rfl
    exact .inl ⟨_, _, (o_str rfl d_16 (hbt.below hb') htl), rfl, Below.refl _ _⟩)), trivial⟩ (fun a_1 w_1 hs_1 hd_1 hb_2 hO_2 hV_1 => ?_)
  have ta_1_0 := (hO_2 0 (by decide)).trans ((pm rfl).trans t0)
  have ta_1_1 := (hO_2 1 (by decide)).trans ((pm rfl).trans t1)
  have ta_1_10 : a_1.eval (.tmp 10) = .slice ((subA E 0 g)) (q - 16) (g) := (hO_2 10 (by decide)).trans (pe hs rfl rfl)
  clear t0 t1 t2 t3 hd
  have x_1 := hV_1 4 31 rfl rfl
  obtain ⟨A_3, c_3, hv_2, hO_3⟩ := x_1
  have ta_1_32 : a_1.eval (.tmp 32) = .string (strB (macL ks ns zs (bs.take (q - 16)))) := hV_1 5 32 rfl rfl
  have ta_1_38 : a_1.eval (.tmp 38) = .string (strB (bs.drop (q - 16))) := hV_1 11 38 rfl rfl
  clear hV_1 hO_2
  simp only [List.drop_succ_cons, List.drop_zero]
  refine q_v 39 (.bool (!decide (strB (macL ks ns zs (bs.take (q - 16))) = strB (bs.drop (q - 16))))) (o_neSD rfl ((pm rfl).trans ta_1_32) ((pm rfl).trans ta_1_38)) ?_
  refine x_nil (hK_9 _ _ ?_)
  refine w2_split (pe hs_1 rfl rfl) (fun h_2 => ?_) (fun h_2 => ?_)
  ·simp only [DD9] at h_2
   have hne : ¬ macL ks ns zs (bs.take (q - 16)) = bs.drop (q - 16) := by
    intro h9; have h8 := h_2; rw [h9] at h8; simp at h8
   have ho : openL ks ns zs bs = ([], 4) := by
    unfold openL; rw [if_neg (by omega), if_neg (by rw [hq]; exact hne)]
   refine w2_sr (fun K_10 hK_10 => ?_)
   refine q_as (.slice none (0) (0)) rfl ?_
   refine q_as (.int .i64 ((4 : Nat) : Int)) rfl ?_
   refine x_nil (hK_10 _ _ ?_)
   refine w2_ret ?_
   refine thn_ret ?_
   refine ret2 rfl hd_1 (pe hs_1 rfl rfl) (pe hs_1 rfl rfl) ?_
   exact ⟨none, 0, by rw [ho]; rfl, by rw [ho]; exact Own.nil _ _, hb_2⟩
  ·simp only [DD9] at h_2
   have hne : macL ks ns zs (bs.take (q - 16)) = bs.drop (q - 16) := by
    exact (strB_inj (xs := macL ks ns zs (bs.take (q - 16))) (fun x hx => tagL_lt _ _ x hx) (fun x hx => he.b8 x (List.mem_of_mem_drop hx))).mp h_2
   have ho : openL ks ns zs bs = (xorS ks ns 1 (bs.take (q - 16)), 0) := by
    unfold openL; rw [if_neg (by omega), hq, if_pos hne]
   refine w2_skip ?_
   refine hK_8 _ _ ?_
   refine w2_sr (fun K_11 hK_11 => ?_)
   refine q_mv ((pm rfl).trans ta_1_0) ?_
   refine q_mv ((pm rfl).trans ta_1_1) ?_
   refine q_mv ((pm rfl).trans ta_1_10) ?_
   refine q_ca (vs := #[.slice A (m) (c), .slice B (k) (d), .int .u32 ((1 : Nat) : Int), .slice ((subA E 0 g)) (q - 16) (g)]) Try.func32 (args4 (pe hs_1 rfl rfl) (pe hs_1 rfl rfl) rfl (pe hs_1 rfl rfl)) (XorChaW_ok 1 _ (ha.below hb_2) (hb.below hb_2) (hbn.below hb_2) hm hk hnl (by omega) hm32 hk12 (by omega)) (fun e_1 w_2 hR_1 => ?_)
   obtain ⟨A_4, c_4, rfl, ho_2, hb_3⟩ := hR_1
   replace ho_2 := ho_2.mono hb_2.size
   replace hO_3 := hO_3.nx hb_3
   have HB_1 := below_from hb_2 hb_3
   refine ⟨_, rfl, ?_⟩
   refine q_ex (v := .slice A_4 (q - 16) (c_4)) (pe hs_1 rfl rfl) rfl ?_
   refine q_ex (v := .int .i64 ((0 : Nat) : Int)) (pe hs_1 rfl rfl) rfl ?_
   refine q_at (pe hs_1 rfl rfl) ?_
   refine q_at (v := .int .i64 ((0 : Nat) : Int)) (pe hs_1 rfl rfl) ?_
   refine x_nil (hK_11 _ _ ?_)
   refine w2_ret ?_
   refine ret2 rfl hd_1 (pe hs_1 rfl rfl) (pe hs_1 rfl rfl) ?_
   exact ⟨_, _, by rw [ho, xorS_length, List.length_take, hq, Nat.min_eq_left (by omega)], by rw [ho]; exact ho_2, HB_1⟩
end Go.Proofs.Ytggalcdkfielkaa
