/-
 WALKS: noise.Cipher.
-/
import Derived.Test.YtkhbihnnkflfkaaGreatEz
import Derived.Test.YtkhbihnnkflfkaaGreatAeadMath
import Derived.Test.YtkhbihnnkflfkaaGreatMem9
import Derived.Test.YtkhbihnnkflfkaaGreatOpsM
namespace Go.Proofs.YtkhbihnnkflfkaaGreat
open Go.RowKit
set_option maxHeartbeats 8000000
set_option linter.unusedVariables false
set_option linter.unusedSimpArgs false
set_option maxRecDepth 100000
attribute [local irreducible] wpList wpListIn putsR

variable {w w' : World} {M M' N : Nat → Prop} {B c c0 d g n num p q r : Nat} {ad bs k ks xs : List Nat} {A A0 : Option Addr} {cur : Array Value} {T : TypeId} {ps : List Part}
structure CipherAt (w : World) (M : Nat → Prop) (g : Nat) (k : List Nat) (n : Nat) : Prop where
 key : k.length = 32
 num : n < 18446744073709551616
 lt : Lt w M
 row : ∃ A c, Blk w g #[.slice A 32 c, .int .u64 ((n : Nat) : Int)] 65 ∧ Wt w A c k ∧ M g ∧ ∀ j, blkA A j → M j
theorem CipherAt.mem (h : CipherAt w M g k n) : M g := by obtain ⟨_, _, _, _, h, _⟩ := h.row; exact h
theorem CipherAt.blk (h : CipherAt w M g k n) : ∃ cur, Blk w g cur 65 := by obtain ⟨_, _, h, _⟩ := h.row; exact ⟨_, h⟩
theorem CipherAt.keep (h : CipherAt w M g k n) (hb : KeptM M w w') (hs : w.heap.size ≤ w'.heap.size) : CipherAt w' M g k n := by
 obtain ⟨A, c, hB, hO, hg, hA⟩ := h.row
 exact ⟨h.key, h.num, h.lt.up hs, A, c, (hb g hg).trans hB, hO.keep (fun j hj => hb j (hA j hj)), hg, hA⟩
theorem CipherAt.nx (h : CipherAt w M g k n) (hb : Below w.heap.size w w') : CipherAt w' M g k n := h.keep (kept_of hb h.lt) hb.size
theorem CipherAt.keepM {X : Nat → Prop} (h : CipherAt w M g k n) (hb : BelowX X w w') (hs : Sep M X) : CipherAt w' M g k n := h.keep (hb.kept h.lt hs) hb.size
theorem CipherAt.keepX {g' : Nat} (h : CipherAt w M g k n) (hb : BelowX (fun j => j = g') w w') (hs : ¬ M g') : CipherAt w' M g k n := h.keepM hb (fun j hj e => hs (e ▸ hj))
theorem CipherAt.wide (h : CipherAt w M g k n) (hN : Lt w N) (hs : ∀ j, M j → N j) : CipherAt w N g k n := by
 obtain ⟨A, c, hB, hO, hg, hA⟩ := h.row
 exact ⟨h.key, h.num, hN, A, c, hB, hO, hs _ hg, fun j hj => hs j (hA j hj)⟩
theorem Wt.keepX (h : Wt w A c xs) (hB : Blk w g cur T) (hT : T ≠ 5) (hb : BelowX (fun k => k = g) w w') : Wt w' A c xs := h.keep (hb.kept h.lt (fun j hj e => h.sepB hB hT (e ▸ hj)))
theorem RowS.keepX (h : RowS w B A c ps) (hB : Blk w g cur T) (hT : T ≠ 22) (hb : BelowX (fun k => k = g) w w') : RowS w' B A c ps := h.keep (hb.kept h.lt (fun j hj e => h.sepB hB hT (e ▸ hj)))
theorem AllOwn.keepX (h : AllOwn w B ps) (hB : Blk w g cur T) (hT : T ≠ 5) (hb : BelowX (fun k => k = g) w w') : AllOwn w' B ps := fun p hp => (h p hp).keepX hB hT hb
theorem CipherAt.own (h : CipherAt w M g k n) (hb : BelowX (fun j => j = g) w w') (hO : Own w B A c xs) : Own w' B A c xs := by obtain ⟨cur, hB⟩ := h.blk; exact hO.keepX hB (by decide) hb
theorem CipherAt.wt (h : CipherAt w M g k n) (hb : BelowX (fun j => j = g) w w') (hO : Wt w A c xs) : Wt w' A c xs := by obtain ⟨cur, hB⟩ := h.blk; exact hO.keepX hB (by decide) hb
theorem CipherAt.rows (h : CipherAt w M g k n) (hb : BelowX (fun j => j = g) w w') (hO : RowS w B A c ps) : RowS w' B A c ps := by obtain ⟨cur, hB⟩ := h.blk; exact hO.keepX hB (by decide) hb
theorem CipherAt.parts (h : CipherAt w M g k n) (hb : BelowX (fun j => j = g) w w') (hO : AllOwn w B ps) : AllOwn w' B ps := by obtain ⟨cur, hB⟩ := h.blk; exact hO.keepX hB (by decide) hb
def NextM (w : World) (M M' : Nat → Prop) : Prop := ∀ j, M' j → M j ∨ w.heap.size ≤ j
theorem NextM.refl (w : World) (M : Nat → Prop) : NextM w M M := fun j h => .inl h
theorem NextM.trans {w1 : World} {M1 M2 : Nat → Prop} (h : NextM w M M1) (h2 : NextM w1 M1 M2) (hs : w.heap.size ≤ w1.heap.size) : NextM w M M2 := fun j hj => (h2 j hj).elim (h j) (fun h3 => .inr (Nat.le_trans hs h3))
theorem NextM.not (h : NextM w M M') (hg : ¬ M g) (hlt : g < w.heap.size) : ¬ M' g := fun hm => (h g hm).elim hg (fun h2 => absurd hlt (Nat.not_lt.2 h2))
theorem NextM.sep (h : NextM w M M') (hs : Sep N M) (hN : Lt w N) : Sep N M' := fun j hj hm => (h j hm).elim (hs j hj) (fun h2 => absurd (hN j hj) (Nat.not_lt.2 h2))
theorem NextM.ge {w0 : World} (h : NextM w M M') (hs : Ge w0 M) (hw : w0.heap.size ≤ w.heap.size) : Ge w0 M' := fun j hj => (h j hj).elim (hs j) (fun h2 => Nat.le_trans hw h2)
theorem Open_eq {B C E : Option Addr} {f m k : Nat} {ns zs : List Nat} (w : World) (hr : openL ks ns zs bs = (xs, r)) (ha : Bs w A c ks) (hb : Bs w B d ns) (hc : Bs w C f zs) (he : Bs w E g bs) (hm : ks.length = m) (hk : ns.length = k) (hp : zs.length = p) (hq : bs.length = q) (hm32 : m = 32) (hk12 : k = 12) (hpl : p ≤ 17592186044416) (hql : q ≤ 17592186044416) :
  Calls Tryz.prog 39 #[.slice A (m) (c), .slice B (k) (d), .slice C (p) (f), .slice E (q) (g)] w fun e w' => ∃ A c, e = .returned (.tuple #[.slice A xs.length c, .int .i64 ((r : Nat) : Int)]) ∧ Own w' w.heap.size A c xs ∧ Below w.heap.size w w' := by
 have h := Open_full w ha hb hc he hm hk hp hq hm32 hk12 hpl hql
 rw [hr] at h
 exact h
theorem may_ok (m l : Nat) (w : World) (hB : Blk w g #[.slice A0 32 c0, .int .u64 ((num : Nat) : Int)] 65) (hm : m ≤ l) (hn : num < 18446744073709551615) :
  Calls Tryz.prog 33 #[.pointer (some ⟨g, 0, none⟩), .int .i64 ((m : Nat) : Int), .int .i64 ((l : Nat) : Int)] w fun e w' => e = .returned (.int .i64 0) ∧ w = w' := by
 refine x_enter 21 Tryz.func33 rfl rfl (fun a hs hd ha0 => ?_)
 have t0 := tA 0 ha0
 have t1 := tA 1 ha0
 have t2 := tA 2 ha0
 clear ha0
 iterate 2 refine e1 ?_
 refine q_as (.int .i64 ((0 : Nat) : Int)) rfl ?_
 iterate 6 refine e1 ?_
 refine q_v 9 (.bool (false)) (o_nil (b := false) rfl ev rfl rfl ⟨65, fun _ => by kernel_rfl⟩) ?_
 iterate 7 refine e1 ?_
 refine q_v 13 (.bool (false)) (o_eq (o_gtr (m := m) (n := l) rfl ev ev) (by rw [decide_eq_false (by omega)])) ?_
 refine e1 ?_
 refine q_g 14 (.pointer (some ⟨g, 0, none⟩)) (o_move rfl ev) ?_
 refine q_g 14 (.pointer (some ⟨g, 0, none⟩)) (o_nilCheck rfl ev) ?_
 refine q_g 14 (.pointer (some ⟨g, 1, none⟩)) (o_field (k' := 1) rfl ev (fun _ => by kernel_rfl)) ?_
 refine q_g 14 (.int .u64 ((num : Nat) : Int)) (o_load1 rfl ev hB rfl ⟨by kernel_rfl, by kernel_rfl⟩) ?_
 refine q_g 14 (.bool (false)) (o_eq (o_eql (m := num) (n := 18446744073709551615) rfl ev rfl) (by rw [decide_eq_false (by omega)])) ?_
 refine q_w (o_pickF rfl ev ev) ?_
 iterate 8 refine e1 ?_
 refine q_as (.int .i64 ((0 : Nat) : Int)) rfl ?_
 iterate 3 refine e1 ?_
 exact ⟨rfl, rfl⟩
theorem NewCipher_any (w : World) (h0 : Bs w A0 c0 ks) (hm : ks.length = q) (hm32 : q = 32) :
  Calls Tryz.prog 6 #[.slice A0 (q) (c0)] w fun e w' => ∃ (M : Nat → Prop) (g : Nat), e = .returned (.tuple #[.pointer (some ⟨g, 0, none⟩), .int .i64 0]) ∧ CipherAt w' M g ks 0 ∧ Ge w M ∧ Below w.heap.size w w' := by
 refine x_enter 11 Tryz.func6 rfl rfl (fun a hs hd ha0 => ?_)
 have t0 := tA 0 ha0
 clear ha0
 iterate 3 refine e1 ?_
 refine q_as (.int .i64 ((0 : Nat) : Int)) rfl ?_
 iterate 5 refine e1 ?_
 refine q_w (o_len rfl ev) ?_
 refine q_v 6 (.bool (false)) (o_eq (o_neq (m := q) (n := 32) rfl ev rfl) (by rw [decide_eq_true hm32]; rfl)) ?_
 iterate 8 refine e1 ?_
 refine k_c Tryz.func32 (Clone_any _ h0 hm (by omega)) ?_
 rintro e_1 w_1 ⟨A_1, c_1, rfl, ho_1, hb_1⟩
 refine ⟨_, rfl, ?_⟩
 refine q_v _ (.agg #[.slice A_1 (q) (c_1), .int .u64 ((0 : Nat) : Int)]) (o_bld rfl (bld1 ev) (fun _ => by kernel_rfl)) ?_
 refine q_x (o_boxL (cs := #[.slice A_1 (q) (c_1), .int .u64 ((0 : Nat) : Int)]) rfl ev) (fun v_1 w_2 hR_2 => ?_)
 obtain ⟨g_1, rfl, hle_1, hB_1, hb_2⟩ := hR_2
 have ge_1 : w.heap.size ≤ g_1 := Nat.le_trans hb_1.size hle_1
 replace ho_1 := ho_1.nx hb_2
 have HB_1 := below_from hb_1 hb_2
 refine e1 ?_
 refine q_as (.int .i64 ((0 : Nat) : Int)) rfl ?_
 iterate 3 refine e1 ?_
 subst hm32
 refine ⟨fun j => w.heap.size ≤ j ∧ j < w_2.heap.size, g_1, rfl, ⟨hm, by decide, fun j h => h.2, A_1, c_1, hB_1, ho_1.wt, ⟨ge_1, hB_1.lt⟩, fun j hj => ⟨ho_1.ge' j hj, ho_1.lt j hj⟩⟩, fun j h => h.1, HB_1⟩
theorem CCount_blk (w : World) (hB : Blk w g #[.slice A0 32 c0, .int .u64 ((num : Nat) : Int)] 65) :
  Calls Tryz.prog 17 #[.pointer (some ⟨g, 0, none⟩)] w fun e w' => e = .returned (.int .u64 ((num : Nat) : Int)) ∧ w = w' := by
 refine x_enter 9 Tryz.func17 rfl rfl (fun a hs hd ha0 => ?_)
 have t0 := tA 0 ha0
 clear ha0
 iterate 2 refine e1 ?_
 refine q_as (.int .u64 ((0 : Nat) : Int)) rfl ?_
 iterate 5 refine e1 ?_
 refine q_v 4 (.bool (false)) (o_nil (b := false) rfl ev rfl rfl ⟨65, fun _ => by kernel_rfl⟩) ?_
 iterate 8 refine e1 ?_
 refine q_fb 1 ?_
 refine q_ld (v := .int .u64 ((num : Nat) : Int)) (pe hs rfl rfl) hB rfl ?_
 iterate 4 refine e1 ?_
 exact ⟨rfl, rfl⟩
theorem CCount_any (w : World) (hC : CipherAt w M g ks num) : Calls Tryz.prog 17 #[.pointer (some ⟨g, 0, none⟩)] w fun e w' => e = .returned (.int .u64 ((num : Nat) : Int)) ∧ w = w' := by
 obtain ⟨A, c, hB, _⟩ := hC.row
 exact CCount_blk w hB
theorem CSealM_any {B : Option Addr} (w : World) (hC : CipherAt w M g ks num) (ha : Bs w A c ad) (hb : Bs w B d bs) (hp : ad.length = p) (hq : bs.length = q) (hl : q ≤ 65519) (hpl : p ≤ 17592186044416) (hn : num < 18446744073709551615) :
  Calls Tryz.prog 9 #[.pointer (some ⟨g, 0, none⟩), .slice A (p) (c), .slice B (q) (d)] w fun e w' => ∃ A c, e = .returned (.tuple #[.slice A (q + 16) c, .int .i64 0]) ∧ Own w' w.heap.size A c (sealL ks (nonceL num) ad bs) ∧ CipherAt w' M g ks (num + 1) ∧ BelowX (fun j => j = g) w w' := by
 obtain ⟨hk32, hnum, hlt, A0, c0, hB, hKy, hMg, hMA⟩ := hC
 refine x_enter 42 Tryz.func9 rfl rfl (fun a hs hd ha0 => ?_)
 have t0 := tA 0 ha0
 have t1 := tA 1 ha0
 have t2 := tA 2 ha0
 clear ha0
 have HB0 : BelowX (fun j => j = g) w w := BelowX.refl _ _
 iterate 3 refine e1 ?_
 refine q_as (.int .i64 ((0 : Nat) : Int)) rfl ?_
 iterate 6 refine e1 ?_
 refine q_w (o_len rfl ev) ?_
 refine e1 ?_
 refine k_c Tryz.func33 (may_ok _ _ _ hB (by omega) hn) ?_
 rintro e_1 w_1 ⟨rfl, rfl⟩
 refine ⟨_, rfl, ?_⟩
 iterate 5 refine e1 ?_
 refine q_v 16 (.bool (false)) (o_eq (o_neq (m := 0) (n := 0) rfl ev rfl) rfl) ?_
 iterate 5 refine e1 ?_
 refine y_drawn2 16 [iP g 0, iP g 0, iP g 0, iV (.slice A0 (32) (c0)), iP g 0, iP g 0, iP g 1, iI .u64 num, fun ww vv => OwnN w.heap.size (12) (nonceL num) ww vv, iV (.slice A (p) (c)), iV (.slice B (q) (d)), fun ww vv => TupN w.heap.size (q + 16) (sealL ks (nonceL num) ad bs) (0) ww vv, fun ww vv => TupN w.heap.size (q + 16) (sealL ks (nonceL num) ad bs) (0) ww vv, fun ww vv => OwnN w.heap.size (q + 16) (sealL ks (nonceL num) ad bs) ww vv, iI .i64 0, fun ww vv => OwnN w.heap.size (q + 16) (sealL ks (nonceL num) ad bs) ww vv] [19, 20, 21, 22, 23, 24, 25, 26, 27, 28, 29, 30, 18, 31, 32, 9] hs hd ⟨sx, sx, sx, sx, sx, sx, sx, sx, (step_ok rfl fun a' w' hb' hO hD => oC (vs := #[.int .u64 ((num : Nat) : Int)]) Tryz.func35 rfl (args1 ed) (Calls.mono (Nonce_any num _ (by omega)) (fun e w'' hR => by obtain ⟨A_1, c_1, rfl, ho_1, hb_2⟩ := hR; exact ⟨_, rfl, ⟨_, _, rfl, ho_1.mono hb'.size⟩, hb_2⟩))), sx, sx,
(step_ok rfl (fun a' w' hb' hO hD => by
   have d_12 : a'.eval (.tmp 22) = .slice A0 (32) (c0) := hD 3 22 (by kernel_rfl) rfl
   have d_13 := hD 8 27 (by kernel_rfl) rfl
   obtain ⟨A_2, c_2, hv_1, hO_1⟩ := d_13
   have d_14 : a'.eval (.tmp 28) = .slice A (p) (c) := hD 9 28 (by kernel_rfl) rfl
   have d_15 : a'.eval (.tmp 29) = .slice B (q) (d) := hD 10 29 (by kernel_rfl) rfl
   exact .inr ⟨_, #[.slice A0 (32) (c0), .slice A_2 (12) (c_2), .slice A (p) (c), .slice B (q) (d)], (exec_call Tryz.func34 (by kernel_rfl) (by kernel_rfl) _ rfl _ _ (args4 d_12 hv_1 d_14 d_15)), Calls.mono (Seal_full _ ((hKy.nx hb')).bs (hO_1).bs (ha.nx hb') (hb.nx hb') hk32 (by simp only [nonceL_length]) hp hq rfl rfl (by omega) (by omega)) (fun e w'' hR => by obtain ⟨A_3, c_3, rfl, ho_2, hb_3⟩ := hR; exact ⟨_, rfl, ⟨_, _, rfl, ho_2.mono hb'.size⟩, hb_3⟩)⟩)),
(step_ok rfl (fun a' w' hb' hO hD => by
   have d_16 := hD 11 30 (by kernel_rfl) rfl
   obtain ⟨A_4, c_4, hv_2, hO_2⟩ := d_16
   exact .inl ⟨_, _, (o_move rfl hv_2), ⟨_, _, rfl, hO_2⟩, Below.refl _ _⟩)),
(step_ok rfl (fun a' w' hb' hO hD => by
   have d_17 := hD 12 18 (by kernel_rfl) rfl
   obtain ⟨A_5, c_5, hv_3, hO_3⟩ := d_17
   exact .inl ⟨_, _, (o_extract rfl hv_3 rfl), ⟨_, _, rfl, hO_3⟩, Below.refl _ _⟩)),
(step_ok rfl (fun a' w' hb' hO hD => by
   have d_18 := hD 12 18 (by kernel_rfl) rfl
   obtain ⟨A_6, c_6, hv_4, hO_4⟩ := d_18
   exact .inl ⟨_, _, (o_extract rfl hv_4 rfl), rfl, Below.refl _ _⟩)),
(step_ok rfl (fun a' w' hb' hO hD => by
   have d_19 := hD 13 31 (by kernel_rfl) rfl
   obtain ⟨A_7, c_7, hv_5, hO_5⟩ := d_19
   exact .inl ⟨_, _, (o_assign rfl hv_5), ⟨_, _, rfl, hO_5⟩, Below.refl _ _⟩)), trivial⟩ (fun a_1 w_2 hs_1 hd_1 hb_4 hO_6 hV_1 => ?_)
 have ta_1_0 := fK 0 hO_6
 obtain ⟨hB, hKy, ha, hb⟩ := nx4 hb_4 hB hKy ha hb
 have HB_1 := HB0.then hb_4
 have x_1 := hV_1 8 27 rfl rfl
 obtain ⟨A_8, c_8, hv_6, hO_7⟩ := x_1
 replace hO_7 := hO_7.mono HB0.size
 have x_2 := hV_1 11 30 rfl rfl
 obtain ⟨A_9, c_9, hv_7, hO_8⟩ := x_2
 replace hO_8 := hO_8.mono HB0.size
 have x_3 := hV_1 12 18 rfl rfl
 obtain ⟨A_10, c_10, hv_8, hO_9⟩ := x_3
 replace hO_9 := hO_9.mono HB0.size
 have x_4 := hV_1 13 31 rfl rfl
 obtain ⟨A_11, c_11, hv_9, hO_10⟩ := x_4
 replace hO_10 := hO_10.mono HB0.size
 have ta_1_32 := fV 32 hV_1
 have x_5 := hV_1 15 9 rfl rfl
 obtain ⟨A_12, c_12, hv_10, hO_11⟩ := x_5
 replace hO_11 := hO_11.mono HB0.size
 simp only [List.drop_succ_cons, List.drop_zero]
 iterate 6 refine e1 ?_
 refine q_fb 1 ?_
 refine q_ld (v := .int .u64 ((num : Nat) : Int)) (pe hs_1 rfl rfl) hB rfl ?_
 refine q_w (o_addU (n := 1) (num + 1) rfl ev rfl (by rw [IntKind.wrap_u64]; omega)) ?_
 refine e1 ?_
 refine q_fb 1 ?_
 refine q_d (o_store1 rfl ev ev rfl rfl hB (by simp only [List.length_cons, List.length_nil]; omega) ⟨by kernel_rfl, by kernel_rfl⟩) (fun w_3 hR_2 => ?_)
 obtain ⟨hB_1, hX_1⟩ := hR_2
 obtain ⟨hKy, hO_7, hO_8, hO_9, hO_10, hO_11⟩ := kx6 hX_1 hKy hO_7 hO_8 hO_9 hO_10 hO_11
 have HB_2 := HB_1.step hX_1 (fun k hk (hY : k = g) => hY)
 simp only [List.set_cons_zero, List.set_cons_succ] at hB_1
 iterate 10 refine e1 ?_
 exact ⟨_, _, rfl, hO_11, ⟨hk32, by omega, hlt.up HB_2.size, _, _, hB_1, hKy, hMg, hMA⟩, HB_2⟩
theorem COpenM_any {B : Option Addr} (w : World) (hC : CipherAt w M g ks num) (ha : Bs w A c ad) (hb : Bs w B d bs) (hp : ad.length = p) (hq : bs.length = q) (hl : q ≤ 65535) (hpl : p ≤ 17592186044416) (hn : num < 18446744073709551615) (hr : openL ks (nonceL num) ad bs = (xs, r)) :
  Calls Tryz.prog 13 #[.pointer (some ⟨g, 0, none⟩), .slice A (p) (c), .slice B (q) (d)] w fun e w' => ∃ A c, e = .returned (.tuple #[.slice A xs.length c, .int .i64 ((r : Nat) : Int)]) ∧ Own w' w.heap.size A c xs ∧ CipherAt w' M g ks (if r = 0 then num + 1 else num) ∧ BelowX (fun j => j = g) w w' := by
 obtain ⟨hk32, hnum, hlt, A0, c0, hB, hKy, hMg, hMA⟩ := hC
 refine x_enter 44 Tryz.func13 rfl rfl (fun a hs hd ha0 => ?_)
 have t0 := tA 0 ha0
 have t1 := tA 1 ha0
 have t2 := tA 2 ha0
 clear ha0
 have HB0 : BelowX (fun j => j = g) w w := BelowX.refl _ _
 iterate 3 refine e1 ?_
 refine q_as (.int .i64 ((0 : Nat) : Int)) rfl ?_
 iterate 6 refine e1 ?_
 refine q_w (o_len rfl ev) ?_
 refine e1 ?_
 refine k_c Tryz.func33 (may_ok _ _ _ hB (by omega) hn) ?_
 rintro e_1 w_1 ⟨rfl, rfl⟩
 refine ⟨_, rfl, ?_⟩
 iterate 5 refine e1 ?_
 refine q_v 16 (.bool (false)) (o_eq (o_neq (m := 0) (n := 0) rfl ev rfl) rfl) ?_
 iterate 5 refine e1 ?_
 refine y_drawn2 16 [iP g 0, iP g 0, iP g 0, iV (.slice A0 (32) (c0)), iP g 0, iP g 0, iP g 1, iI .u64 num, fun ww vv => OwnN w.heap.size (12) (nonceL num) ww vv, iV (.slice A (p) (c)), iV (.slice B (q) (d)), fun ww vv => TupN w.heap.size (xs.length) (xs) (r) ww vv, fun ww vv => TupN w.heap.size (xs.length) (xs) (r) ww vv, fun ww vv => OwnN w.heap.size (xs.length) (xs) ww vv, iI .i64 r, fun ww vv => OwnN w.heap.size (xs.length) (xs) ww vv] [19, 20, 21, 22, 23, 24, 25, 26, 27, 28, 29, 30, 18, 31, 32, 9] hs hd ⟨sx, sx, sx, sx, sx, sx, sx, sx, (step_ok rfl fun a' w' hb' hO hD => oC (vs := #[.int .u64 ((num : Nat) : Int)]) Tryz.func35 rfl (args1 ed) (Calls.mono (Nonce_any num _ (by omega)) (fun e w'' hR => by obtain ⟨A_1, c_1, rfl, ho_1, hb_2⟩ := hR; exact ⟨_, rfl, ⟨_, _, rfl, ho_1.mono hb'.size⟩, hb_2⟩))), sx, sx,
(step_ok rfl (fun a' w' hb' hO hD => by
   have d_12 : a'.eval (.tmp 22) = .slice A0 (32) (c0) := hD 3 22 (by kernel_rfl) rfl
   have d_13 := hD 8 27 (by kernel_rfl) rfl
   obtain ⟨A_2, c_2, hv_1, hO_1⟩ := d_13
   have d_14 : a'.eval (.tmp 28) = .slice A (p) (c) := hD 9 28 (by kernel_rfl) rfl
   have d_15 : a'.eval (.tmp 29) = .slice B (q) (d) := hD 10 29 (by kernel_rfl) rfl
   exact .inr ⟨_, #[.slice A0 (32) (c0), .slice A_2 (12) (c_2), .slice A (p) (c), .slice B (q) (d)], (exec_call Tryz.func39 (by kernel_rfl) (by kernel_rfl) _ rfl _ _ (args4 d_12 hv_1 d_14 d_15)), Calls.mono (Open_eq _ hr ((hKy.nx hb')).bs (hO_1).bs (ha.nx hb') (hb.nx hb') hk32 (by simp only [nonceL_length]) hp hq rfl rfl (by omega) (by omega)) (fun e w'' hR => by obtain ⟨A_3, c_3, rfl, ho_2, hb_3⟩ := hR; exact ⟨_, rfl, ⟨_, _, rfl, ho_2.mono hb'.size⟩, hb_3⟩)⟩)),
(step_ok rfl (fun a' w' hb' hO hD => by
   have d_16 := hD 11 30 (by kernel_rfl) rfl
   obtain ⟨A_4, c_4, hv_2, hO_2⟩ := d_16
   exact .inl ⟨_, _, (o_move rfl hv_2), ⟨_, _, rfl, hO_2⟩, Below.refl _ _⟩)),
(step_ok rfl (fun a' w' hb' hO hD => by
   have d_17 := hD 12 18 (by kernel_rfl) rfl
   obtain ⟨A_5, c_5, hv_3, hO_3⟩ := d_17
   exact .inl ⟨_, _, (o_extract rfl hv_3 rfl), ⟨_, _, rfl, hO_3⟩, Below.refl _ _⟩)),
(step_ok rfl (fun a' w' hb' hO hD => by
   have d_18 := hD 12 18 (by kernel_rfl) rfl
   obtain ⟨A_6, c_6, hv_4, hO_4⟩ := d_18
   exact .inl ⟨_, _, (o_extract rfl hv_4 rfl), rfl, Below.refl _ _⟩)),
(step_ok rfl (fun a' w' hb' hO hD => by
   have d_19 := hD 13 31 (by kernel_rfl) rfl
   obtain ⟨A_7, c_7, hv_5, hO_5⟩ := d_19
   exact .inl ⟨_, _, (o_assign rfl hv_5), ⟨_, _, rfl, hO_5⟩, Below.refl _ _⟩)), trivial⟩ (fun a_1 w_2 hs_1 hd_1 hb_4 hO_6 hV_1 => ?_)
 have ta_1_0 := fK 0 hO_6
 obtain ⟨hB, hKy, ha, hb⟩ := nx4 hb_4 hB hKy ha hb
 have HB_1 := HB0.then hb_4
 have x_1 := hV_1 8 27 rfl rfl
 obtain ⟨A_8, c_8, hv_6, hO_7⟩ := x_1
 replace hO_7 := hO_7.mono HB0.size
 have x_2 := hV_1 11 30 rfl rfl
 obtain ⟨A_9, c_9, hv_7, hO_8⟩ := x_2
 replace hO_8 := hO_8.mono HB0.size
 have x_3 := hV_1 12 18 rfl rfl
 obtain ⟨A_10, c_10, hv_8, hO_9⟩ := x_3
 replace hO_9 := hO_9.mono HB0.size
 have x_4 := hV_1 13 31 rfl rfl
 obtain ⟨A_11, c_11, hv_9, hO_10⟩ := x_4
 replace hO_10 := hO_10.mono HB0.size
 have ta_1_32 := fV 32 hV_1
 have x_5 := hV_1 15 9 rfl rfl
 obtain ⟨A_12, c_12, hv_10, hO_11⟩ := x_5
 replace hO_11 := hO_11.mono HB0.size
 simp only [List.drop_succ_cons, List.drop_zero]
 iterate 6 refine e1 ?_
 refine q_w (o_eql (n := 0) rfl ev rfl) ?_
 refine e1 ?_
 refine w2_split (pe hs_1 rfl rfl) (fun h_1 => ?_) (fun h_1 => ?_)
 ·simp only [DD9] at h_1
  have hr0 : r = 0 := h_1
  iterate 3 refine e1 ?_
  refine q_fb 1 ?_
  refine q_ld (v := .int .u64 ((num : Nat) : Int)) (pe hs_1 rfl rfl) hB rfl ?_
  refine q_w (o_addU (n := 1) (num + 1) rfl ev rfl (by rw [IntKind.wrap_u64]; omega)) ?_
  refine e1 ?_
  refine q_fb 1 ?_
  refine q_d (o_store1 rfl ev ev rfl rfl hB (by simp only [List.length_cons, List.length_nil]; omega) ⟨by kernel_rfl, by kernel_rfl⟩) (fun w_3 hR_2 => ?_)
  obtain ⟨hB_1, hX_1⟩ := hR_2
  obtain ⟨hKy, hO_7, hO_8, hO_9, hO_10, hO_11⟩ := kx6 hX_1 hKy hO_7 hO_8 hO_9 hO_10 hO_11
  have HB_2 := HB_1.step hX_1 (fun k hk (hY : k = g) => hY)
  simp only [List.set_cons_zero, List.set_cons_succ] at hB_1
  iterate 10 refine e1 ?_
  exact ⟨_, _, rfl, hO_11, ⟨hk32, by rw [if_pos hr0]; omega, hlt.up HB_2.size, _, _, by rw [if_pos hr0]; exact hB_1, hKy, hMg, hMA⟩, HB_2⟩
 ·simp only [DD9] at h_1
  have hr0 : ¬ r = 0 := h_1
  iterate 11 refine e1 ?_
  exact ⟨_, _, rfl, hO_11, ⟨hk32, by rw [if_neg hr0]; exact hnum, hlt.up HB_1.size, _, _, by rw [if_neg hr0]; exact hB, hKy, hMg, hMA⟩, HB_1⟩
theorem CSeal_any {B : Option Addr} (w : World) (hC : CipherAt w M g ks num) (ha : Bs w A c ad) (hb : Bs w B d bs) (hp : ad.length = p) (hq : bs.length = q) (hl : q ≤ 65519) (hpl : p ≤ 17592186044416) (hn : num < 18446744073709551615) :
  Calls Tryz.prog 9 #[.pointer (some ⟨g, 0, none⟩), .slice A (p) (c), .slice B (q) (d)] w fun e w' => ∃ A c, e = .returned (.tuple #[.slice A (q + 16) c, .int .i64 0]) ∧ Own w' w.heap.size A c (sealL ks (nonceL num) ad bs) ∧ (∃ M', CipherAt w' M' g ks (num + 1) ∧ NextM w M M') ∧ BelowX (fun j => j = g) w w' := by
 refine Calls.mono (CSealM_any w hC ha hb hp hq hl hpl hn) ?_
 rintro e w' ⟨A, c, h1, h2, h3, h4⟩
 exact ⟨A, c, h1, h2, ⟨M, h3, NextM.refl _ _⟩, h4⟩
theorem COpen_any {B : Option Addr} (w : World) (hC : CipherAt w M g ks num) (ha : Bs w A c ad) (hb : Bs w B d bs) (hp : ad.length = p) (hq : bs.length = q) (hl : q ≤ 65535) (hpl : p ≤ 17592186044416) (hn : num < 18446744073709551615) (hr : openL ks (nonceL num) ad bs = (xs, r)) :
  Calls Tryz.prog 13 #[.pointer (some ⟨g, 0, none⟩), .slice A (p) (c), .slice B (q) (d)] w fun e w' => ∃ A c, e = .returned (.tuple #[.slice A xs.length c, .int .i64 ((r : Nat) : Int)]) ∧ Own w' w.heap.size A c xs ∧ (∃ M', CipherAt w' M' g ks (if r = 0 then num + 1 else num) ∧ NextM w M M') ∧ BelowX (fun j => j = g) w w' := by
 refine Calls.mono (COpenM_any w hC ha hb hp hq hl hpl hn hr) ?_
 rintro e w' ⟨A, c, h1, h2, h3, h4⟩
 exact ⟨A, c, h1, h2, ⟨M, h3, NextM.refl _ _⟩, h4⟩
theorem Wt.cut (h : Wt w A c xs) (hn : n ≤ c) : Wt w A n (xs.take n) := by
 refine ⟨fun x hx => h.b8 x (List.mem_of_mem_take hx), by rw [List.length_take]; omega, Nat.le_trans hn h.max, ?_⟩
 rcases h.row with ⟨hA, hc⟩ | ⟨g, off, cur, hA, hh, hsz, hx⟩
 ·exact .inl ⟨hA, by omega⟩
 ·refine .inr ⟨g, off, cur, hA, hh, by omega, fun i hi => ?_⟩
  rw [List.length_take] at hi
  rw [hx i (by omega)]
  simp only [List.getD_eq_getElem?_getD, List.getElem?_take]
  rw [if_pos (by omega)]
theorem CRekey_any (w : World) (hC : CipherAt w M g ks num) :
  Calls Tryz.prog 15 #[.pointer (some ⟨g, 0, none⟩)] w fun e w' => e = .returned (.int .i64 0) ∧ (∃ M', CipherAt w' M' g (rekeyL ks) num ∧ NextM w M M') ∧ BelowX (fun j => j = g) w w' := by
 obtain ⟨hk32, hnum, hlt, A0, c0, hB, hKy, hMg, hMA⟩ := hC
 refine x_enter 22 Tryz.func15 rfl rfl (fun a hs hd ha0 => ?_)
 have t0 := tA 0 ha0
 clear ha0
 have HB0 : BelowX (fun j => j = g) w w := BelowX.refl _ _
 iterate 2 refine e1 ?_
 refine q_as (.int .i64 ((0 : Nat) : Int)) rfl ?_
 iterate 5 refine e1 ?_
 refine q_v 6 (.bool (false)) (o_nil (b := false) rfl ev rfl rfl ⟨65, fun _ => by kernel_rfl⟩) ?_
 iterate 5 refine e1 ?_
 refine y_drawn2 11 [iP g 0, iP g 0, iP g 0, iV (.slice A0 (32) (c0)), fun ww vv => OwnN w.heap.size (12) (nonceL 18446744073709551615) ww vv, fun ww vv => OwnN w.heap.size (32) (List.replicate 32 0) ww vv, fun ww vv => TupN w.heap.size (32 + 16) (sealL ks (nonceL 18446744073709551615) ([]) (List.replicate 32 0)) (0) ww vv, fun ww vv => TupN w.heap.size (32 + 16) (sealL ks (nonceL 18446744073709551615) ([]) (List.replicate 32 0)) (0) ww vv, fun ww vv => OwnN w.heap.size (32 + 16) (sealL ks (nonceL 18446744073709551615) ([]) (List.replicate 32 0)) ww vv, iI .i64 0, fun ww vv => OwnN w.heap.size (32 + 16) (sealL ks (nonceL 18446744073709551615) ([]) (List.replicate 32 0)) ww vv] [8, 9, 10, 11, 12, 13, 14, 7, 15, 16, 3] hs hd ⟨sx, sx, sx, sx, (step_ok rfl fun a' w' hb' hO hD => oC (vs := #[.int .u64 ((18446744073709551615 : Nat) : Int)]) Tryz.func35 rfl (args1 rfl) (Calls.mono (Nonce_any 18446744073709551615 _ (by omega)) (fun e w'' hR => by obtain ⟨A_1, c_1, rfl, ho_1, hb_1⟩ := hR; exact ⟨_, rfl, ⟨_, _, rfl, ho_1.mono hb'.size⟩, hb_1⟩))),
(step_ok rfl (fun a' w' hb' hO hD => by
   exact out_new (o_make (n := 32) rfl rfl rfl (fun _ => by kernel_rfl) (by omega)) (fun v w_1 hR => by obtain ⟨g_1, rfl, ho_2, hb_2⟩ := hR; exact ⟨⟨_, _, rfl, ho_2.mono hb'.size⟩, hb_2⟩))),
(step_ok rfl (fun a' w' hb' hO hD => by
   have d_5 : a'.eval (.tmp 11) = .slice A0 (32) (c0) := hD 3 11 (by kernel_rfl) rfl
   have d_6 := hD 4 12 (by kernel_rfl) rfl
   obtain ⟨A_2, c_2, hv_1, hO_1⟩ := d_6
   have d_7 := hD 5 13 (by kernel_rfl) rfl
   obtain ⟨A_3, c_3, hv_2, hO_2⟩ := d_7
   exact .inr ⟨_, #[.slice A0 (32) (c0), .slice A_2 (12) (c_2), .slice none (0) (0), .slice A_3 (32) (c_3)], (exec_call Tryz.func34 (by kernel_rfl) (by kernel_rfl) _ rfl _ _ (args4 d_5 hv_1 rfl hv_2)), Calls.mono (Seal_full _ ((hKy.nx hb')).bs (hO_1).bs (Bs.nil _) (hO_2).bs hk32 (by simp only [nonceL_length]) (by simp only [List.length_nil]) (by simp only [List.length_replicate]) rfl rfl (by omega) (by omega)) (fun e w'' hR => by obtain ⟨A_4, c_4, rfl, ho_3, hb_3⟩ := hR; exact ⟨_, rfl, ⟨_, _, rfl, ho_3.mono hb'.size⟩, hb_3⟩)⟩)),
(step_ok rfl (fun a' w' hb' hO hD => by
   have d_8 := hD 6 14 (by kernel_rfl) rfl
   obtain ⟨A_5, c_5, hv_3, hO_3⟩ := d_8
   exact .inl ⟨_, _, (o_move rfl hv_3), ⟨_, _, rfl, hO_3⟩, Below.refl _ _⟩)),
(step_ok rfl (fun a' w' hb' hO hD => by
   have d_9 := hD 7 7 (by kernel_rfl) rfl
   obtain ⟨A_6, c_6, hv_4, hO_4⟩ := d_9
   exact .inl ⟨_, _, (o_extract rfl hv_4 rfl), ⟨_, _, rfl, hO_4⟩, Below.refl _ _⟩)),
(step_ok rfl (fun a' w' hb' hO hD => by
   have d_10 := hD 7 7 (by kernel_rfl) rfl
   obtain ⟨A_7, c_7, hv_5, hO_5⟩ := d_10
   exact .inl ⟨_, _, (o_extract rfl hv_5 rfl), rfl, Below.refl _ _⟩)),
(step_ok rfl (fun a' w' hb' hO hD => by
   have d_11 := hD 8 15 (by kernel_rfl) rfl
   obtain ⟨A_8, c_8, hv_6, hO_6⟩ := d_11
   exact .inl ⟨_, _, (o_assign rfl hv_6), ⟨_, _, rfl, hO_6⟩, Below.refl _ _⟩)), trivial⟩ (fun a_1 w_2 hs_1 hd_1 hb_4 hO_7 hV_1 => ?_)
 have ta_1_0 := fK 0 hO_7
 obtain ⟨hB, hKy⟩ := nx2 hb_4 hB hKy
 have HB_1 := HB0.then hb_4
 have x_1 := hV_1 4 12 rfl rfl
 obtain ⟨A_9, c_9, hv_7, hO_8⟩ := x_1
 replace hO_8 := hO_8.mono HB0.size
 have x_2 := hV_1 5 13 rfl rfl
 obtain ⟨A_10, c_10, hv_8, hO_9⟩ := x_2
 replace hO_9 := hO_9.mono HB0.size
 have x_3 := hV_1 6 14 rfl rfl
 obtain ⟨A_11, c_11, hv_9, hO_10⟩ := x_3
 replace hO_10 := hO_10.mono HB0.size
 have x_4 := hV_1 7 7 rfl rfl
 obtain ⟨A_12, c_12, hv_10, hO_11⟩ := x_4
 replace hO_11 := hO_11.mono HB0.size
 have x_5 := hV_1 8 15 rfl rfl
 obtain ⟨A_13, c_13, hv_11, hO_12⟩ := x_5
 replace hO_12 := hO_12.mono HB0.size
 have ta_1_16 := fV 16 hV_1
 have x_6 := hV_1 10 3 rfl rfl
 obtain ⟨A_14, c_14, hv_12, hO_13⟩ := x_6
 replace hO_13 := hO_13.mono HB0.size
 simp only [List.drop_succ_cons, List.drop_zero]
 iterate 3 refine e1 ?_
 have hc48 : 48 ≤ c_14 := by have h9 := hO_13.bs.le; rw [sealL_length, List.length_replicate] at h9; exact h9
 iterate 3 refine e1 ?_
 refine q_v 19 (.slice ((subA A_14 0 32)) (32) (32)) (o_sliceHM (h := 32) (m := 32) rfl ev rfl rfl (by omega) (by omega)) ?_
 refine e1 ?_
 refine q_fb 0 ?_
 refine q_d (o_store1 rfl ev ev rfl rfl hB (by simp only [List.length_cons, List.length_nil]; omega) ⟨by kernel_rfl, by kernel_rfl⟩) (fun w_3 hR_1 => ?_)
 obtain ⟨hB_1, hX_1⟩ := hR_1
 obtain ⟨hKy, hO_8, hO_9, hO_10, hO_11, hO_12, hO_13⟩ := kx7 hX_1 hKy hO_8 hO_9 hO_10 hO_11 hO_12 hO_13
 have HB_2 := HB_1.step hX_1 (fun k hk (hY : k = g) => hY)
 simp only [List.set_cons_zero, List.set_cons_succ] at hB_1
 iterate 3 refine e1 ?_
 refine q_as (.int .i64 ((0 : Nat) : Int)) rfl ?_
 iterate 3 refine e1 ?_
 exact ⟨rfl, ⟨MX w M w_3, ⟨rekeyL_length _, hnum, hlt.mx HB_2.size, _, _, by have h9 := hB_1; rwa [subA_zero] at h9, hO_13.wt.cut (by omega), .inl hMg, fun j hj => .inr ⟨hO_13.ge' j hj, hO_13.lt j hj⟩⟩, fun j hj => hj.imp id (fun h => h.1)⟩, HB_2⟩
end Go.Proofs.YtkhbihnnkflfkaaGreat
