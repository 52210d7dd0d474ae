/-
 WALKS: the reference's cipher.
-/
import Derived.Test.YtkhbihnnkflfkaaGreatEz
import Derived.Test.YtkhbihnnkflfkaaGreatCiph
import Derived.Test.YtkhbihnnkflfkaaGreatRTgM
namespace Go.Proofs.YtkhbihnnkflfkaaGreat
open Go.RowKit
set_option maxHeartbeats 8000000
set_option linter.unusedVariables false
set_option linter.unusedSimpArgs false
set_option maxRecDepth 100000
attribute [local irreducible] wpList wpListIn putsR

variable {w w' : World} {M : Nat → Prop} {c d g n num p q r : Nat} {ad bs k ks xs : List Nat} {A B : Option Addr} {ps : List Part}
structure CipherRt (w : World) (M : Nat → Prop) (g : Nat) (k : List Nat) (n : Nat) : Prop where
 key : k.length = 32
 num : n < 18446744073709551616
 lt : Lt w M
 row : ∃ A c, Blk w g #[.slice A 32 c, .int .u64 ((n : Nat) : Int)] 40 ∧ Wt w A c k ∧ M g ∧ ∀ j, blkA A j → M j
theorem CipherRt.mem (h : CipherRt w M g k n) : M g := by obtain ⟨_, _, _, _, h, _⟩ := h.row; exact h
theorem CipherRt.blk (h : CipherRt w M g k n) : ∃ cur, Blk w g cur 40 := by obtain ⟨_, _, h, _⟩ := h.row; exact ⟨_, h⟩
theorem CipherRt.keep (h : CipherRt w M g k n) (hb : KeptM M w w') (hs : w.heap.size ≤ w'.heap.size) : CipherRt w' M g k n := by
 obtain ⟨A, c, hB, hO, hg, hA⟩ := h.row
 exact ⟨h.key, h.num, h.lt.up hs, A, c, (hb g hg).trans hB, hO.keep (fun j hj => hb j (hA j hj)), hg, hA⟩
theorem CipherRt.nx (h : CipherRt w M g k n) (hb : Below w.heap.size w w') : CipherRt w' M g k n := h.keep (kept_of hb h.lt) hb.size
theorem CipherRt.keepM {X : Nat → Prop} (h : CipherRt w M g k n) (hb : BelowX X w w') (hs : Sep M X) : CipherRt w' M g k n := h.keep (hb.kept h.lt hs) hb.size
theorem CipherRt.own (h : CipherRt w M g k n) (hb : BelowX (fun j => j = g) w w') {B : Nat} (hO : Own w B A c xs) : Own w' B A c xs := by obtain ⟨cur, hB⟩ := h.blk; exact hO.keepX hB (by decide) hb
theorem CipherRt.wt (h : CipherRt w M g k n) (hb : BelowX (fun j => j = g) w w') (hO : Wt w A c xs) : Wt w' A c xs := by obtain ⟨cur, hB⟩ := h.blk; exact hO.keepX hB (by decide) hb
theorem CipherRt.rows (h : CipherRt w M g k n) (hb : BelowX (fun j => j = g) w w') {B : Nat} (hO : RowS w B A c ps) : RowS w' B A c ps := by obtain ⟨cur, hB⟩ := h.blk; exact hO.keepX hB (by decide) hb
theorem CipherRt.parts (h : CipherRt w M g k n) (hb : BelowX (fun j => j = g) w w') {B : Nat} (hO : AllOwn w B ps) : AllOwn w' B ps := by obtain ⟨cur, hB⟩ := h.blk; exact hO.keepX hB (by decide) hb
theorem Bs.keepHR {cur : List Value} {T : TypeId} (h : Bs w A c xs) (hB : Blk w g cur.toArray T) (hno : ∀ z : Int, Value.int .u8 z ∉ cur) (hb : BelowX (fun k => k = g) w w') : Bs w' A c xs := by
 refine ⟨h.le, h.max, h.b8, ?_⟩
 rcases h.cells with h0 | ⟨b, off, hA, hc⟩
 ·exact .inl h0
 ·refine .inr ⟨b, off, hA, fun i hi => ?_⟩
  have hcell := hc i hi
  have hlt := World.block_lt_of_cell? w _ hcell
  have hne : b ≠ g := by
   rintro rfl
   rw [hB.cell] at hcell
   exact hno _ (List.mem_of_getElem? (by simpa using hcell))
  unfold World.cell? at hcell ⊢
  rw [hb.block b hlt hne]
  exact hcell
theorem NewCipherW_any {A0 : Option Addr} {c0 : Nat} (w : World) (h0 : Bs w A0 c0 ks) (hm : ks.length = q) (hm32 : q = 32) :
  Calls Tryz.prog 7 #[.slice A0 (q) (c0)] w fun e w' => ∃ (M : Nat → Prop) (g : Nat), e = .returned (.tuple #[.pointer (some ⟨g, 0, none⟩), .int .i64 0]) ∧ CipherRt w' M g ks 0 ∧ Ge w M ∧ Below w.heap.size w w' := by
 refine x_enter 11 Tryz.func7 rfl rfl (fun a hs hd ha0 => ?_)
 have t0 := tA 0 ha0
 clear ha0
 iterate 3 refine e1 ?_
 refine q_as (.int .i64 ((0 : Nat) : Int)) rfl ?_
 iterate 5 refine e1 ?_
 refine q_w (o_len rfl ev) ?_
 refine q_v 6 (.bool (false)) (o_eq (o_neq (m := q) (n := 32) rfl ev rfl) (by rw [decide_eq_true hm32]; rfl)) ?_
 iterate 7 refine e1 ?_
 refine q_x (o_append rfl rfl (pe hs rfl rfl) (Own.nil w w.heap.size) h0 rfl hm (by omega) (Nat.le_refl _)) (fun v_1 w_1 hR_1 => ?_)
 obtain ⟨A_1, c_1, rfl, ho_1, hb_1, hg_1, hat_1⟩ := hR_1
 have HB_1 : Below w.heap.size w w_1 := hb_1
 refine q_v _ (.agg #[.slice A_1 (0 + q) (c_1), .int .u64 ((0 : Nat) : Int)]) (o_bld rfl (bld1 ev) (fun _ => by kernel_rfl)) ?_
 refine q_x (o_boxL (cs := #[.slice A_1 (0 + q) (c_1), .int .u64 ((0 : Nat) : Int)]) rfl ev) (fun v_2 w_2 hR_2 => ?_)
 obtain ⟨g_1, rfl, hle_1, hB_1, hb_2⟩ := hR_2
 have ge_1 : w.heap.size ≤ g_1 := Nat.le_trans HB_1.size hle_1
 replace ho_1 := ho_1.nx hb_2
 have HB_2 := below_from HB_1 hb_2
 refine e1 ?_
 refine q_as (.int .i64 ((0 : Nat) : Int)) rfl ?_
 iterate 3 refine e1 ?_
 subst hm32
 refine ⟨fun j => w.heap.size ≤ j ∧ j < w_2.heap.size, g_1, rfl, ⟨hm, by decide, fun j h => h.2, A_1, c_1, by (have h9 := hB_1; rw [Nat.zero_add] at h9; exact h9), by (have h9 := ho_1.wt; rw [List.nil_append] at h9; exact h9), ⟨ge_1, hB_1.lt⟩, fun j hj => ⟨ho_1.ge' j hj, ho_1.lt j hj⟩⟩, fun j h => h.1, HB_2⟩
theorem CSealWM_any (w : World) (hC : CipherRt w M g ks num) (ha : Bs w A c ad) (hb : Bs w B d bs) (hp : ad.length = p) (hq : bs.length = q) (hl : q ≤ 65519) (hpl : p ≤ 17592186044416) (hn : num < 18446744073709551615) :
  Calls Tryz.prog 10 #[.pointer (some ⟨g, 0, none⟩), .slice A (p) (c), .slice B (q) (d)] w fun e w' => ∃ A c, e = .returned (.tuple #[.slice A (q + 16) c, .int .i64 0]) ∧ Own w' w.heap.size A c (sealL ks (nonceL num) ad bs) ∧ CipherRt w' M g ks (num + 1) ∧ BelowX (fun j => j = g) w w' := by
 obtain ⟨hk32, hnum, hlt, A0, c0, hB, hKy, hMg, hMA⟩ := hC
 refine x_enter 40 Tryz.func10 rfl rfl (fun a hs hd ha0 => ?_)
 have t0 := tA 0 ha0
 have t1 := tA 1 ha0
 have t2 := tA 2 ha0
 clear ha0
 have HB0 : BelowX (fun j => j = g) w w := BelowX.refl _ _
 iterate 3 refine e1 ?_
 refine q_as (.int .i64 ((0 : Nat) : Int)) rfl ?_
 iterate 5 refine e1 ?_
 refine q_w (o_len rfl ev) ?_
 refine q_v 10 (.bool (false)) (o_eq (o_gtr (m := q) (n := 65519) rfl ev rfl) (by rw [decide_eq_false (by omega)])) ?_
 refine e1 ?_
 refine q_g 11 (.pointer (some ⟨g, 0, none⟩)) (o_move rfl ev) ?_
 refine q_g 11 (.pointer (some ⟨g, 0, none⟩)) (o_nilCheck rfl ev) ?_
 refine q_g 11 (.pointer (some ⟨g, 1, none⟩)) (o_field (k' := 1) rfl ev (fun _ => by kernel_rfl)) ?_
 refine q_g 11 (.int .u64 ((num : Nat) : Int)) (o_load1 rfl ev hB rfl ⟨by kernel_rfl, by kernel_rfl⟩) ?_
 refine q_g 11 (.bool (false)) (o_eq (o_eql (m := num) (n := 18446744073709551615) rfl ev rfl) (by rw [decide_eq_false (by omega)])) ?_
 refine q_w (o_pickF rfl ev ev) ?_
 iterate 8 refine e1 ?_
 refine q_fb 1 ?_
 refine q_ld (v := .int .u64 ((num : Nat) : Int)) (pe hs rfl rfl) hB rfl ?_
 refine q_w (o_addU (n := 1) (num + 1) rfl ev rfl (by rw [IntKind.wrap_u64]; omega)) ?_
 refine e1 ?_
 refine q_fb 1 ?_
 refine q_d (o_store1 rfl ev ev rfl rfl hB (by simp only [List.length_cons, List.length_nil]; omega) ⟨by kernel_rfl, by kernel_rfl⟩) (fun w_1 hR_1 => ?_)
 obtain ⟨hB_1, hX_1⟩ := hR_1
 replace hKy := hKy.keepX hB (by decide) hX_1
 replace ha := ha.keepHR hB (by intro z; simp) hX_1
 replace hb := hb.keepHR hB (by intro z; simp) hX_1
 have HB_1 := HB0.step hX_1 (fun k hk (hY : k = g) => hY)
 simp only [List.set_cons_zero, List.set_cons_succ] at hB_1
 iterate 2 refine e1 ?_
 refine y_drawn 15 [iP g 0, iP g 0, iP g 0, iV (.slice A0 (32) (c0)), iP g 0, iP g 0, iP g 1, iV (.int .u64 ((num + 1 : Nat) : Int)), iI .u64 num, fun ww vv => OwnN w_1.heap.size (12) (nonceL num) ww vv, iV (.slice A (p) (c)), iV (.slice B (q) (d)), fun ww vv => TupN w_1.heap.size (q + 16) (sealL ks (nonceL num) ad bs) (0) ww vv, fun ww vv => OwnN w_1.heap.size (q + 16) (sealL ks (nonceL num) ad bs) ww vv, iI .i64 0] [25, 26, 27, 28, 29, 30, 31, 32, 33, 34, 35, 36, 37, 38, 39] hs hd ⟨sx, sx, sx, sx, sx, sx, sx, sx,
(step_ok rfl (fun a' w' hb' hO hD => by
   have d_9 : a'.eval (.tmp 32) = .int .u64 ((num + 1 : Nat) : Int) := hD 7 32 (by kernel_rfl) rfl
   have e0 : (.int .u64 (((num + 1) - 1 : Nat) : Int) : Value) = .int .u64 ((num : Nat) : Int) := (congrArg (fun n : Nat => Value.int .u64 ((n : Nat) : Int)) (by omega))
   exact .inl ⟨_, _, (o_subU (m := (num + 1)) (n := 1) ((num + 1) - 1) rfl d_9 rfl (by rw [IntKind.wrap_u64]; omega)), e0, Below.refl _ _⟩)), (step_ok rfl fun a' w' hb' hO hD => oC (vs := #[.int .u64 ((num : Nat) : Int)]) Tryz.func12 rfl (args1 ed) (Calls.mono (NonceW_any num _ (by omega)) (fun e w'' hR => by obtain ⟨A_1, c_1, rfl, ho_1, hb_1⟩ := hR; exact ⟨_, rfl, ⟨_, _, rfl, ho_1.mono hb'.size⟩, hb_1⟩))), sx, sx,
(step_ok rfl (fun a' w' hb' hO hD => by
   have d_13 : a'.eval (.tmp 28) = .slice A0 (32) (c0) := hD 3 28 (by kernel_rfl) rfl
   have d_14 := hD 9 34 (by kernel_rfl) rfl
   obtain ⟨A_2, c_2, hv_1, hO_1⟩ := d_14
   have d_15 : a'.eval (.tmp 35) = .slice A (p) (c) := hD 10 35 (by kernel_rfl) rfl
   have d_16 : a'.eval (.tmp 36) = .slice B (q) (d) := hD 11 36 (by kernel_rfl) rfl
   exact .inr ⟨_, #[.slice A0 (32) (c0), .slice A_2 (12) (c_2), .slice A (p) (c), .slice B (q) (d)], (exec_call Tryz.func11 (by kernel_rfl) (by kernel_rfl) _ rfl _ _ (args4 d_13 hv_1 d_15 d_16)), Calls.mono (SealW_ok _ ((hKy.nx hb')).bs (hO_1).bs (ha.nx hb') (hb.nx hb') hk32 (by simp only [nonceL_length]) hp hq rfl rfl (by omega) (by omega)) (fun e w'' hR => by obtain ⟨A_3, c_3, rfl, ho_2, hb_2⟩ := hR; exact ⟨_, rfl, ⟨_, _, rfl, ho_2.mono hb'.size⟩, hb_2⟩)⟩)),
(step_ok rfl (fun a' w' hb' hO hD => by
   have d_17 := hD 12 37 (by kernel_rfl) rfl
   obtain ⟨A_4, c_4, hv_2, hO_2⟩ := d_17
   exact .inl ⟨_, _, (o_extract rfl hv_2 rfl), ⟨_, _, rfl, hO_2⟩, Below.refl _ _⟩)),
(step_ok rfl (fun a' w' hb' hO hD => by
   have d_18 := hD 12 37 (by kernel_rfl) rfl
   obtain ⟨A_5, c_5, hv_3, hO_3⟩ := d_18
   exact .inl ⟨_, _, (o_extract rfl hv_3 rfl), rfl, Below.refl _ _⟩)), trivial⟩ (fun a_1 w_2 hs_1 hd_1 hb_3 hO_4 hV_1 => ?_)
 obtain ⟨hKy, ha, hb, hB_1⟩ := nx4 hb_3 hKy ha hb hB_1
 have HB_2 := HB_1.then hb_3
 have x_1 := hV_1 9 34 rfl rfl
 obtain ⟨A_6, c_6, hv_4, hO_5⟩ := x_1
 replace hO_5 := hO_5.mono HB_1.size
 have x_2 := hV_1 12 37 rfl rfl
 obtain ⟨A_7, c_7, hv_5, hO_6⟩ := x_2
 replace hO_6 := hO_6.mono HB_1.size
 have x_3 := hV_1 13 38 rfl rfl
 obtain ⟨A_8, c_8, hv_6, hO_7⟩ := x_3
 replace hO_7 := hO_7.mono HB_1.size
 have ta_1_39 := fV 39 hV_1
 simp only [List.drop_succ_cons, List.drop_zero]
 iterate 5 refine e1 ?_
 exact ⟨_, _, rfl, hO_7, ⟨hk32, by omega, hlt.up HB_2.size, _, _, hB_1, hKy, hMg, hMA⟩, HB_2⟩
theorem OpenW_eq {C E : Option Addr} {f m k : Nat} {ns zs : List Nat} (w : World) (hr : openL ks ns zs bs = (xs, r)) (ha : Bs w A c ks) (hb : Bs w B d ns) (hc : Bs w C f zs) (he : Bs w E g bs) (hm : ks.length = m) (hk : ns.length = k) (hp : zs.length = p) (hq : bs.length = q) (hm32 : m = 32) (hk12 : k = 12) (hpl : p ≤ 17592186044416) (hql : q ≤ 17592186044416) :
  Calls Tryz.prog 40 #[.slice A (m) (c), .slice B (k) (d), .slice C (p) (f), .slice E (q) (g)] w fun e w' => ∃ A c, e = .returned (.tuple #[.slice A xs.length c, .int .i64 ((r : Nat) : Int)]) ∧ Own w' w.heap.size A c xs ∧ Below w.heap.size w w' := by
 have h := OpenW_ok w ha hb hc he hm hk hp hq hm32 hk12 hpl hql
 rw [hr] at h
 exact h
theorem COpenWM_any (w : World) (hC : CipherRt w M g ks num) (ha : Bs w A c ad) (hb : Bs w B d bs) (hp : ad.length = p) (hq : bs.length = q) (hl : q ≤ 65535) (hpl : p ≤ 17592186044416) (hn : num < 18446744073709551615) (hr : openL ks (nonceL num) ad bs = (xs, r)) :
  Calls Tryz.prog 14 #[.pointer (some ⟨g, 0, none⟩), .slice A (p) (c), .slice B (q) (d)] w fun e w' => ∃ A c, e = .returned (.tuple #[.slice A xs.length c, .int .i64 ((r : Nat) : Int)]) ∧ Own w' w.heap.size A c xs ∧ CipherRt w' M g ks (if r = 0 then num + 1 else num) ∧ BelowX (fun j => j = g) w w' := by
 obtain ⟨hk32, hnum, hlt, A0, c0, hB, hKy, hMg, hMA⟩ := hC
 refine x_enter 46 Tryz.func14 rfl rfl (fun a hs hd ha0 => ?_)
 have t0 := tA 0 ha0
 have t1 := tA 1 ha0
 have t2 := tA 2 ha0
 clear ha0
 have HB0 : BelowX (fun j => j = g) w w := BelowX.refl _ _
 iterate 3 refine e1 ?_
 refine q_as (.int .i64 ((0 : Nat) : Int)) rfl ?_
 iterate 5 refine e1 ?_
 refine q_w (o_len rfl ev) ?_
 refine q_v 12 (.bool (false)) (o_eq (o_gtr (m := q) (n := 65535) rfl ev rfl) (by rw [decide_eq_false (by omega)])) ?_
 refine e1 ?_
 refine q_g 13 (.pointer (some ⟨g, 0, none⟩)) (o_move rfl ev) ?_
 refine q_g 13 (.pointer (some ⟨g, 0, none⟩)) (o_nilCheck rfl ev) ?_
 refine q_g 13 (.pointer (some ⟨g, 1, none⟩)) (o_field (k' := 1) rfl ev (fun _ => by kernel_rfl)) ?_
 refine q_g 13 (.int .u64 ((num : Nat) : Int)) (o_load1 rfl ev hB rfl ⟨by kernel_rfl, by kernel_rfl⟩) ?_
 refine q_g 13 (.bool (false)) (o_eq (o_eql (m := num) (n := 18446744073709551615) rfl ev rfl) (by rw [decide_eq_false (by omega)])) ?_
 refine q_w (o_pickF rfl ev ev) ?_
 iterate 5 refine e1 ?_
 refine y_drawn2 16 [iP g 0, iP g 0, iP g 0, iV (.slice A0 (32) (c0)), iP g 0, iP g 0, iP g 1, iI .u64 num, fun ww vv => OwnN w.heap.size (12) (nonceL num) ww vv, iV (.slice A (p) (c)), iV (.slice B (q) (d)), fun ww vv => TupN w.heap.size (xs.length) (xs) (r) ww vv, fun ww vv => TupN w.heap.size (xs.length) (xs) (r) ww vv, fun ww vv => OwnN w.heap.size (xs.length) (xs) ww vv, iI .i64 r, fun ww vv => OwnN w.heap.size (xs.length) (xs) ww vv] [21, 22, 23, 24, 25, 26, 27, 28, 29, 30, 31, 32, 20, 33, 34, 8] hs hd ⟨sx, sx, sx, sx, sx, sx, sx, sx, (step_ok rfl fun a' w' hb' hO hD => oC (vs := #[.int .u64 ((num : Nat) : Int)]) Tryz.func12 rfl (args1 ed) (Calls.mono (NonceW_any num _ (by omega)) (fun e w'' hR => by obtain ⟨A_1, c_1, rfl, ho_1, hb_1⟩ := hR; exact ⟨_, rfl, ⟨_, _, rfl, ho_1.mono hb'.size⟩, hb_1⟩))), sx, sx,
(step_ok rfl (fun a' w' hb' hO hD => by
   have d_12 : a'.eval (.tmp 24) = .slice A0 (32) (c0) := hD 3 24 (by kernel_rfl) rfl
   have d_13 := hD 8 29 (by kernel_rfl) rfl
   obtain ⟨A_2, c_2, hv_1, hO_1⟩ := d_13
   have d_14 : a'.eval (.tmp 30) = .slice A (p) (c) := hD 9 30 (by kernel_rfl) rfl
   have d_15 : a'.eval (.tmp 31) = .slice B (q) (d) := hD 10 31 (by kernel_rfl) rfl
   exact .inr ⟨_, #[.slice A0 (32) (c0), .slice A_2 (12) (c_2), .slice A (p) (c), .slice B (q) (d)], (exec_call Tryz.func40 (by kernel_rfl) (by kernel_rfl) _ rfl _ _ (args4 d_12 hv_1 d_14 d_15)), Calls.mono (OpenW_eq _ hr ((hKy.nx hb')).bs (hO_1).bs (ha.nx hb') (hb.nx hb') hk32 (by simp only [nonceL_length]) hp hq rfl rfl (by omega) (by omega)) (fun e w'' hR => by obtain ⟨A_3, c_3, rfl, ho_2, hb_2⟩ := hR; exact ⟨_, rfl, ⟨_, _, rfl, ho_2.mono hb'.size⟩, hb_2⟩)⟩)),
(step_ok rfl (fun a' w' hb' hO hD => by
   have d_16 := hD 11 32 (by kernel_rfl) rfl
   obtain ⟨A_4, c_4, hv_2, hO_2⟩ := d_16
   exact .inl ⟨_, _, (o_move rfl hv_2), ⟨_, _, rfl, hO_2⟩, Below.refl _ _⟩)),
(step_ok rfl (fun a' w' hb' hO hD => by
   have d_17 := hD 12 20 (by kernel_rfl) rfl
   obtain ⟨A_5, c_5, hv_3, hO_3⟩ := d_17
   exact .inl ⟨_, _, (o_extract rfl hv_3 rfl), ⟨_, _, rfl, hO_3⟩, Below.refl _ _⟩)),
(step_ok rfl (fun a' w' hb' hO hD => by
   have d_18 := hD 12 20 (by kernel_rfl) rfl
   obtain ⟨A_6, c_6, hv_4, hO_4⟩ := d_18
   exact .inl ⟨_, _, (o_extract rfl hv_4 rfl), rfl, Below.refl _ _⟩)),
(step_ok rfl (fun a' w' hb' hO hD => by
   have d_19 := hD 13 33 (by kernel_rfl) rfl
   obtain ⟨A_7, c_7, hv_5, hO_5⟩ := d_19
   exact .inl ⟨_, _, (o_assign rfl hv_5), ⟨_, _, rfl, hO_5⟩, Below.refl _ _⟩)), trivial⟩ (fun a_1 w_1 hs_1 hd_1 hb_3 hO_6 hV_1 => ?_)
 have ta_1_0 := fK 0 hO_6
 obtain ⟨hB, hKy, ha, hb⟩ := nx4 hb_3 hB hKy ha hb
 have HB_1 := HB0.then hb_3
 have x_1 := hV_1 8 29 rfl rfl
 obtain ⟨A_8, c_8, hv_6, hO_7⟩ := x_1
 replace hO_7 := hO_7.mono HB0.size
 have x_2 := hV_1 11 32 rfl rfl
 obtain ⟨A_9, c_9, hv_7, hO_8⟩ := x_2
 replace hO_8 := hO_8.mono HB0.size
 have x_3 := hV_1 12 20 rfl rfl
 obtain ⟨A_10, c_10, hv_8, hO_9⟩ := x_3
 replace hO_9 := hO_9.mono HB0.size
 have x_4 := hV_1 13 33 rfl rfl
 obtain ⟨A_11, c_11, hv_9, hO_10⟩ := x_4
 replace hO_10 := hO_10.mono HB0.size
 have ta_1_34 := fV 34 hV_1
 have x_5 := hV_1 15 8 rfl rfl
 obtain ⟨A_12, c_12, hv_10, hO_11⟩ := x_5
 replace hO_11 := hO_11.mono HB0.size
 simp only [List.drop_succ_cons, List.drop_zero]
 iterate 6 refine e1 ?_
 refine q_w (o_eql (n := 0) rfl ev rfl) ?_
 refine e1 ?_
 refine w2_split (pe hs_1 rfl rfl) (fun h_1 => ?_) (fun h_1 => ?_)
 ·simp only [DD9] at h_1
  have hr0 : r = 0 := h_1
  iterate 3 refine e1 ?_
  refine q_fb 1 ?_
  refine q_ld (v := .int .u64 ((num : Nat) : Int)) (pe hs_1 rfl rfl) hB rfl ?_
  refine q_w (o_addU (n := 1) (num + 1) rfl ev rfl (by rw [IntKind.wrap_u64]; omega)) ?_
  refine e1 ?_
  refine q_fb 1 ?_
  refine q_d (o_store1 rfl ev ev rfl rfl hB (by simp only [List.length_cons, List.length_nil]; omega) ⟨by kernel_rfl, by kernel_rfl⟩) (fun w_2 hR_1 => ?_)
  obtain ⟨hB_1, hX_1⟩ := hR_1
  replace hKy := hKy.keepX hB (by decide) hX_1
  replace ha := ha.keepHR hB (by intro z; simp) hX_1
  replace hb := hb.keepHR hB (by intro z; simp) hX_1
  obtain ⟨hO_7, hO_8, hO_9, hO_10, hO_11⟩ := kx5 hX_1 hO_7 hO_8 hO_9 hO_10 hO_11
  have HB_2 := HB_1.step hX_1 (fun k hk (hY : k = g) => hY)
  simp only [List.set_cons_zero, List.set_cons_succ] at hB_1
  iterate 10 refine e1 ?_
  exact ⟨_, _, rfl, hO_11, ⟨hk32, by rw [if_pos hr0]; omega, hlt.up HB_2.size, _, _, by rw [if_pos hr0]; exact hB_1, hKy, hMg, hMA⟩, HB_2⟩
 ·simp only [DD9] at h_1
  have hr0 : ¬ r = 0 := h_1
  iterate 11 refine e1 ?_
  exact ⟨_, _, rfl, hO_11, ⟨hk32, by rw [if_neg hr0]; exact hnum, hlt.up HB_1.size, _, _, by rw [if_neg hr0]; exact hB, hKy, hMg, hMA⟩, HB_1⟩
theorem Wt.pre (h : Wt w A c xs) (n : Nat) : Wt w A c (xs.take n) := by
 refine ⟨fun x hx => h.b8 x (List.mem_of_mem_take hx), by rw [List.length_take]; have := h.le; omega, h.max, ?_⟩
 rcases h.row with ⟨hA, hc⟩ | ⟨g, off, cur, hA, hh, hsz, hx⟩
 ·exact .inl ⟨hA, hc⟩
 ·refine .inr ⟨g, off, cur, hA, hh, hsz, fun i hi => ?_⟩
  rw [List.length_take] at hi
  rw [hx i (by omega)]
  simp only [List.getD_eq_getElem?_getD, List.getElem?_take]
  rw [if_pos (by omega)]
theorem CRekeyW_any (w : World) (hC : CipherRt w M g ks num) :
  Calls Tryz.prog 16 #[.pointer (some ⟨g, 0, none⟩)] w fun e w' => e = .returned (.tuple #[]) ∧ (∃ M', CipherRt w' M' g (rekeyL ks) num ∧ NextM w M M') ∧ BelowX (fun j => j = g) w w' := by
 obtain ⟨hk32, hnum, hlt, A0, c0, hB, hKy, hMg, hMA⟩ := hC
 refine x_enter 19 Tryz.func16 rfl rfl (fun a hs hd ha0 => ?_)
 have t0 := tA 0 ha0
 clear ha0
 have HB0 : BelowX (fun j => j = g) w w := BelowX.refl _ _
 refine e1 ?_
 refine y_drawn2 11 [iP g 0, iP g 0, iP g 0, iV (.slice A0 (32) (c0)), fun ww vv => OwnN w.heap.size (12) (nonceL 18446744073709551615) ww vv, fun ww vv => OwnN w.heap.size (32) (List.replicate 32 0) ww vv, fun ww vv => TupN w.heap.size (32 + 16) (sealL ks (nonceL 18446744073709551615) ([]) (List.replicate 32 0)) (0) ww vv, fun ww vv => TupN w.heap.size (32 + 16) (sealL ks (nonceL 18446744073709551615) ([]) (List.replicate 32 0)) (0) ww vv, fun ww vv => OwnN w.heap.size (32 + 16) (sealL ks (nonceL 18446744073709551615) ([]) (List.replicate 32 0)) ww vv, iI .i64 0, fun ww vv => OwnN w.heap.size (32 + 16) (sealL ks (nonceL 18446744073709551615) ([]) (List.replicate 32 0)) ww vv] [5, 6, 7, 8, 9, 10, 11, 4, 12, 13, 2] hs hd ⟨sx, sx, sx, sx, (step_ok rfl fun a' w' hb' hO hD => oC (vs := #[.int .u64 ((18446744073709551615 : Nat) : Int)]) Tryz.func12 rfl (args1 rfl) (Calls.mono (NonceW_any 18446744073709551615 _ (by omega)) (fun e w'' hR => by obtain ⟨A_1, c_1, rfl, ho_1, hb_1⟩ := hR; exact ⟨_, rfl, ⟨_, _, rfl, ho_1.mono hb'.size⟩, hb_1⟩))),
(step_ok rfl (fun a' w' hb' hO hD => by
   exact out_new (o_make (n := 32) rfl rfl rfl (fun _ => by kernel_rfl) (by omega)) (fun v w_1 hR => by obtain ⟨g_1, rfl, ho_2, hb_2⟩ := hR; exact ⟨⟨_, _, rfl, ho_2.mono hb'.size⟩, hb_2⟩))),
(step_ok rfl (fun a' w' hb' hO hD => by
   have d_5 : a'.eval (.tmp 8) = .slice A0 (32) (c0) := hD 3 8 (by kernel_rfl) rfl
   have d_6 := hD 4 9 (by kernel_rfl) rfl
   obtain ⟨A_2, c_2, hv_1, hO_1⟩ := d_6
   have d_7 := hD 5 10 (by kernel_rfl) rfl
   obtain ⟨A_3, c_3, hv_2, hO_2⟩ := d_7
   exact .inr ⟨_, #[.slice A0 (32) (c0), .slice A_2 (12) (c_2), .slice none (0) (0), .slice A_3 (32) (c_3)], (exec_call Tryz.func11 (by kernel_rfl) (by kernel_rfl) _ rfl _ _ (args4 d_5 hv_1 rfl hv_2)), Calls.mono (SealW_ok _ ((hKy.nx hb')).bs (hO_1).bs (Bs.nil _) (hO_2).bs hk32 (by simp only [nonceL_length]) (by simp only [List.length_nil]) (by simp only [List.length_replicate]) rfl rfl (by omega) (by omega)) (fun e w'' hR => by obtain ⟨A_4, c_4, rfl, ho_3, hb_3⟩ := hR; exact ⟨_, rfl, ⟨_, _, rfl, ho_3.mono hb'.size⟩, hb_3⟩)⟩)),
(step_ok rfl (fun a' w' hb' hO hD => by
   have d_8 := hD 6 11 (by kernel_rfl) rfl
   obtain ⟨A_5, c_5, hv_3, hO_3⟩ := d_8
   exact .inl ⟨_, _, (o_move rfl hv_3), ⟨_, _, rfl, hO_3⟩, Below.refl _ _⟩)),
(step_ok rfl (fun a' w' hb' hO hD => by
   have d_9 := hD 7 4 (by kernel_rfl) rfl
   obtain ⟨A_6, c_6, hv_4, hO_4⟩ := d_9
   exact .inl ⟨_, _, (o_extract rfl hv_4 rfl), ⟨_, _, rfl, hO_4⟩, Below.refl _ _⟩)),
(step_ok rfl (fun a' w' hb' hO hD => by
   have d_10 := hD 7 4 (by kernel_rfl) rfl
   obtain ⟨A_7, c_7, hv_5, hO_5⟩ := d_10
   exact .inl ⟨_, _, (o_extract rfl hv_5 rfl), rfl, Below.refl _ _⟩)),
(step_ok rfl (fun a' w' hb' hO hD => by
   have d_11 := hD 8 12 (by kernel_rfl) rfl
   obtain ⟨A_8, c_8, hv_6, hO_6⟩ := d_11
   exact .inl ⟨_, _, (o_assign rfl hv_6), ⟨_, _, rfl, hO_6⟩, Below.refl _ _⟩)), trivial⟩ (fun a_1 w_2 hs_1 hd_1 hb_4 hO_7 hV_1 => ?_)
 have ta_1_0 := fK 0 hO_7
 obtain ⟨hB, hKy⟩ := nx2 hb_4 hB hKy
 have HB_1 := HB0.then hb_4
 have x_1 := hV_1 4 9 rfl rfl
 obtain ⟨A_9, c_9, hv_7, hO_8⟩ := x_1
 replace hO_8 := hO_8.mono HB0.size
 have x_2 := hV_1 5 10 rfl rfl
 obtain ⟨A_10, c_10, hv_8, hO_9⟩ := x_2
 replace hO_9 := hO_9.mono HB0.size
 have x_3 := hV_1 6 11 rfl rfl
 obtain ⟨A_11, c_11, hv_9, hO_10⟩ := x_3
 replace hO_10 := hO_10.mono HB0.size
 have x_4 := hV_1 7 4 rfl rfl
 obtain ⟨A_12, c_12, hv_10, hO_11⟩ := x_4
 replace hO_11 := hO_11.mono HB0.size
 have x_5 := hV_1 8 12 rfl rfl
 obtain ⟨A_13, c_13, hv_11, hO_12⟩ := x_5
 replace hO_12 := hO_12.mono HB0.size
 have ta_1_13 := fV 13 hV_1
 have x_6 := hV_1 10 2 rfl rfl
 obtain ⟨A_14, c_14, hv_12, hO_13⟩ := x_6
 replace hO_13 := hO_13.mono HB0.size
 simp only [List.drop_succ_cons, List.drop_zero]
 iterate 2 refine e1 ?_
 have hc48 : 48 ≤ c_14 := by have h9 := hO_13.bs.le; rw [sealL_length, List.length_replicate] at h9; exact h9
 iterate 3 refine e1 ?_
 refine q_w (o_sliceH (h := 32) rfl ev rfl (by omega)) ?_
 refine e1 ?_
 refine q_fb 0 ?_
 refine q_d (o_store1 rfl ev ev rfl rfl hB (by simp only [List.length_cons, List.length_nil]; omega) ⟨by kernel_rfl, by kernel_rfl⟩) (fun w_3 hR_1 => ?_)
 obtain ⟨hB_1, hX_1⟩ := hR_1
 obtain ⟨hKy, hO_8, hO_9, hO_10, hO_11, hO_12, hO_13⟩ := kx7 hX_1 hKy hO_8 hO_9 hO_10 hO_11 hO_12 hO_13
 have HB_2 := HB_1.step hX_1 (fun k hk (hY : k = g) => hY)
 simp only [List.set_cons_zero, List.set_cons_succ] at hB_1
 refine x_nil ?_
 refine end0 rfl hd_1 ?_
 exact ⟨rfl, ⟨MX w M w_3, ⟨rekeyL_length _, hnum, hlt.mx HB_2.size, _, _, by have h9 := hB_1; rwa [subA_zero] at h9, hO_13.wt.pre 32, .inl hMg, fun j hj => .inr ⟨hO_13.ge' j hj, hO_13.lt j hj⟩⟩, fun j hj => hj.imp id (fun h => h.1)⟩, HB_2⟩
end Go.Proofs.YtkhbihnnkflfkaaGreat
