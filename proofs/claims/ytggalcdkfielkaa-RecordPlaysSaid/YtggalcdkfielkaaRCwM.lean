/-
 RCiph · RWrap, IN ONE TEXT.
-/
import Derived.Test.YtggalcdkfielkaaCiph
import Derived.Test.YtggalcdkfielkaaRTgM
import Derived.Test.YtggalcdkfielkaaPads
/-
 WALKS: the reference's cipher.
-/
namespace Go.Proofs.Ytggalcdkfielkaa
open Go.RowKit
set_option linter.unusedVariables false
set_option linter.unusedSimpArgs false
set_option maxRecDepth 100000
attribute [local irreducible] wpList wpListIn putsR

/-- A cipher lies at g: its key, its number; M: all its blocks. -/
structure CipherRt (w : World) (M : Nat → Prop) (g : Nat) (k : List Nat) (n : Nat) : Prop where
 key : k.length = 32
 num : n < 18446744073709551616
 lt : Lt w M
 row : ∃ A c, Blk w g #[.slice A 32 c, .int .u64 ((n : Nat) : Int)] 64 ∧ Wt w A c k ∧ M g ∧ ∀ j, blkA A j → M j
theorem CipherRt.mem {w : World} {M : Nat → Prop} {g n : Nat} {k : List Nat} (h : CipherRt w M g k n) : M g := by obtain ⟨_, _, _, _, h, _⟩ := h.row; exact h
theorem CipherRt.blk {w : World} {M : Nat → Prop} {g n : Nat} {k : List Nat} (h : CipherRt w M g k n) : ∃ cur, Blk w g cur 64 := by obtain ⟨_, _, h, _⟩ := h.row; exact ⟨_, h⟩
theorem CipherRt.keep {w w' : World} {M : Nat → Prop} {g n : Nat} {k : List Nat} (h : CipherRt w M g k n) (hb : KeptM M w w') (hs : w.heap.size ≤ w'.heap.size) : CipherRt w' M g k n := by
 obtain ⟨A, c, hB, hO, hg, hA⟩ := h.row
 exact ⟨h.key, h.num, h.lt.up hs, A, c, (hb g hg).trans hB, hO.keep (fun j hj => hb j (hA j hj)), hg, hA⟩
theorem CipherRt.nx {w w' : World} {M : Nat → Prop} {g n : Nat} {k : List Nat} (h : CipherRt w M g k n) (hb : Below w.heap.size w w') : CipherRt w' M g k n := h.keep (kept_of hb h.lt) hb.size
theorem CipherRt.keepM {w w' : World} {M X : Nat → Prop} {g n : Nat} {k : List Nat} (h : CipherRt w M g k n) (hb : BelowX X w w') (hs : Sep M X) : CipherRt w' M g k n := h.keep (hb.kept h.lt hs) hb.size
theorem CipherRt.own {w w' : World} {M : Nat → Prop} {g n : Nat} {k : List Nat} (h : CipherRt w M g k n) (hb : BelowX (fun j => j = g) w w') {B c : Nat} {A : Option Addr} {xs : List Nat} (hO : Own w B A c xs) : Own w' B A c xs := by obtain ⟨cur, hB⟩ := h.blk; exact hO.keepX hB (by decide) hb
theorem CipherRt.wt {w w' : World} {M : Nat → Prop} {g n : Nat} {k : List Nat} (h : CipherRt w M g k n) (hb : BelowX (fun j => j = g) w w') {c : Nat} {A : Option Addr} {xs : List Nat} (hO : Wt w A c xs) : Wt w' A c xs := by obtain ⟨cur, hB⟩ := h.blk; exact hO.keepX hB (by decide) hb
theorem CipherRt.rows {w w' : World} {M : Nat → Prop} {g n : Nat} {k : List Nat} (h : CipherRt w M g k n) (hb : BelowX (fun j => j = g) w w') {B c : Nat} {A : Option Addr} {ps : List Part} (hO : RowS w B A c ps) : RowS w' B A c ps := by obtain ⟨cur, hB⟩ := h.blk; exact hO.keepX hB (by decide) hb
theorem CipherRt.parts {w w' : World} {M : Nat → Prop} {g n : Nat} {k : List Nat} (h : CipherRt w M g k n) (hb : BelowX (fun j => j = g) w w') {B : Nat} {ps : List Part} (hO : AllOwn w B ps) : AllOwn w' B ps := by obtain ⟨cur, hB⟩ := h.blk; exact hO.keepX hB (by decide) hb
theorem Bs.keepH {w w' : World} {A : Option Addr} {c g : Nat} {xs : List Nat} {cur : List Value} {T : TypeId} (h : Bs w A c xs) (hB : Blk w g cur.toArray T) (hno : ∀ z : Int, Value.int .u8 z ∉ cur) (hb : BelowX (fun k => k = g) w w') : Bs w' A c xs := by
 refine ⟨h.le, h.max, h.b8, ?_⟩
 rcases h.cells with h0 | ⟨b, off, hA, hc⟩
 ·exact .inl h0
 ·refine .inr ⟨b, off, hA, fun i hi => ?_⟩
  have hcell := hc i hi
  have hlt := World.block_lt_of_cell? w _ hcell
  have hne : b ≠ g := by
   rintro rfl
   rw [hB.cell] at hcell
   exact hno _ (List.mem_of_getElem? (by simpa using hcell))
  unfold World.cell? at hcell ⊢
  rw [hb.block b hlt hne]
  exact hcell
theorem NewCipherW_any {A0 : Option Addr} {c0 q : Nat} {ks : List Nat} (w : World) (h0 : Bs w A0 c0 ks) (hm : ks.length = q) (hm32 : q = 32) :
  Calls Try.prog 16 #[.slice A0 (q) (c0)] w fun e w' => ∃ (M : Nat → Prop) (g : Nat), e = .returned (.tuple #[.pointer (some ⟨g, 0, none⟩), .int .i64 0]) ∧ CipherRt w' M g ks 0 ∧ Ge w M ∧ Below w.heap.size w w' := by
 refine x_enter 11 Try.func16 rfl rfl (fun a hs hd ha0 => ?_)
 have t0 : a.eval (.tmp 0) = .slice A0 (q) (c0) := ha0 0 _ rfl
 clear ha0
 refine w2_sr (fun K_1 hK_1 => ?_)
 refine q_as (.pointer none) rfl ?_
 refine q_as (.int .i64 ((0 : Nat) : Int)) rfl ?_
 refine x_nil (hK_1 _ _ ?_)
 refine w2_seq (fun K_2 hK_2 => ?_)
 refine w2_sr (fun K_3 hK_3 => ?_)
 refine q_mv ((pm rfl).trans t0) ?_
 refine q_v 5 (.int .i64 ((q : Nat) : Int)) (o_len rfl (pe hs rfl rfl)) ?_
 refine q_v 6 (.bool (false)) (o_eq (o_neq (m := q) (n := 32) rfl (pe hs rfl rfl) rfl) (by rw [decide_eq_true hm32]; rfl)) ?_
 refine x_nil (hK_3 _ _ ?_)
 refine w2_condF (pe hs rfl rfl) ?_
 refine w2_skip ?_
 refine hK_2 _ _ ?_
 refine w2_sr (fun K_4 hK_4 => ?_)
 refine q_mv ((pm rfl).trans t0) ?_
 refine op_ex (d := 8) rfl rfl (o_append rfl rfl (pe hs rfl rfl) (Own.nil w w.heap.size) h0 rfl hm (by omega) (Nat.le_refl _)) (fun v_1 w_1 hR_1 => ?_)
 obtain ⟨A_1, c_1, rfl, ho_1, hb_1, hg_1, hat_1⟩ := hR_1
 have HB_1 : Below w.heap.size w w_1 := hb_1
 clear hg_1 hat_1 
 refine q_v 9 (.agg #[.slice A_1 (0 + q) (c_1), .int .u64 ((0 : Nat) : Int)]) (o_bld (vs := #[(0, .slice A_1 (0 + q) (c_1))]) (v := .agg #[.slice A_1 (0 + q) (c_1), .int .u64 ((0 : Nat) : Int)]) rfl (bld1 (pe hs rfl rfl)) (fun _ => by kernel_rfl)) ?_
 refine op_ex (d := 10) rfl rfl (o_boxL (cs := #[.slice A_1 (0 + q) (c_1), .int .u64 ((0 : Nat) : Int)]) rfl (pe hs rfl rfl)) (fun v_2 w_2 hR_2 => ?_)
 obtain ⟨g_1, rfl, hle_1, hB_1, hb_2⟩ := hR_2
 have ge_1 : w.heap.size ≤ g_1 := Nat.le_trans HB_1.size hle_1
 replace ho_1 := ho_1.nx hb_2
 have HB_2 := below_from HB_1 hb_2
 refine q_at (pe hs rfl rfl) ?_
 refine q_as (.int .i64 ((0 : Nat) : Int)) rfl ?_
 refine x_nil (hK_4 _ _ ?_)
 refine w2_ret ?_
 refine ret2 rfl hd (pe hs rfl rfl) (pe hs rfl rfl) ?_
 subst hm32
 refine ⟨fun j => w.heap.size ≤ j ∧ j < w_2.heap.size, g_1, rfl, ⟨hm, by decide, fun j h => h.2, A_1, c_1, by (have h9 := hB_1; rw [Nat.zero_add] at h9; exact h9), by (have h9 := ho_1.wt; rw [List.nil_append] at h9; exact h9), ⟨ge_1, hB_1.lt⟩, fun j hj => ⟨ho_1.ge' j hj, ho_1.lt j hj⟩⟩, fun j h => h.1, HB_2⟩
theorem CSealWM_any {M : Nat → Prop} {g num : Nat} {ks : List Nat} {A B : Option Addr} {c d p q : Nat} {ad bs : List Nat} (w : World) (hC : CipherRt w M g ks num) (ha : Bs w A c ad) (hb : Bs w B d bs) (hp : ad.length = p) (hq : bs.length = q) (hl : q ≤ 65519) (hpl : p ≤ 17592186044416) (hn : num < 18446744073709551615) :
  Calls Try.prog 44 #[.pointer (some ⟨g, 0, none⟩), .slice A (p) (c), .slice B (q) (d)] w fun e w' => ∃ A c, e = .returned (.tuple #[.slice A (q + 16) c, .int .i64 0]) ∧ Own w' w.heap.size A c (sealL ks (nonceL num) ad bs) ∧ CipherRt w' M g ks (num + 1) ∧ BelowX (fun j => j = g) w w' := by
 obtain ⟨hk32, hnum, hlt, A0, c0, hB, hKy, hMg, hMA⟩ := hC
 refine x_enter 40 Try.func44 rfl rfl (fun a hs hd ha0 => ?_)
 have t0 : a.eval (.tmp 0) = .pointer (some ⟨g, 0, none⟩) := ha0 0 _ rfl
 have t1 : a.eval (.tmp 1) = .slice A (p) (c) := ha0 1 _ rfl
 have t2 : a.eval (.tmp 2) = .slice B (q) (d) := ha0 2 _ rfl
 clear ha0
 have HB0 : BelowX (fun j => j = g) w w := BelowX.refl _ _
 refine w2_sr (fun K_1 hK_1 => ?_)
 refine q_as (.slice none (0) (0)) rfl ?_
 refine q_as (.int .i64 ((0 : Nat) : Int)) rfl ?_
 refine x_nil (hK_1 _ _ ?_)
 refine w2_seq (fun K_2 hK_2 => ?_)
 refine w2_sr (fun K_3 hK_3 => ?_)
 refine q_mv ((pm rfl).trans t2) ?_
 refine q_v 9 (.int .i64 ((q : Nat) : Int)) (o_len rfl (pe hs rfl rfl)) ?_
 refine q_v 10 (.bool (false)) (o_eq (o_gtr (m := q) (n := 65519) rfl (pe hs rfl rfl) rfl) (by rw [decide_eq_false (by omega)])) ?_
 refine q_mv (pe hs rfl rfl) ?_
 refine op_valG (e := 11) (d := 12) (v := .pointer (some ⟨g, 0, none⟩)) rfl rfl (by kernel_rfl) (pe hs rfl rfl) (o_move rfl ((pm rfl).trans t0)) ?_
 refine op_valG (e := 11) (d := 13) (v := .pointer (some ⟨g, 0, none⟩)) rfl rfl (by kernel_rfl) (pe hs rfl rfl) (o_nilCheck rfl (pe hs rfl rfl)) ?_
 refine op_valG (e := 11) (d := 14) (v := .pointer (some ⟨g, 1, none⟩)) rfl rfl (by kernel_rfl) (pe hs rfl rfl) (o_field (k' := 1) rfl (pe hs rfl rfl) (fun _ => by kernel_rfl)) ?_
 refine op_valG (e := 11) (d := 15) (v := .int .u64 ((num : Nat) : Int)) rfl rfl (by kernel_rfl) (pe hs rfl rfl) (o_load1 rfl (pe hs rfl rfl) hB rfl ⟨by kernel_rfl, by kernel_rfl⟩) ?_
 refine op_valG (e := 11) (d := 16) (v := .bool (false)) rfl rfl (by kernel_rfl) (pe hs rfl rfl) (o_eq (o_eql (m := num) (n := 18446744073709551615) rfl (pe hs rfl rfl) rfl) (by rw [decide_eq_false (by omega)])) ?_
 refine q_v 17 (.bool (false)) (o_pickF rfl (pe hs rfl rfl) (pe hs rfl rfl)) ?_
 refine x_nil (hK_3 _ _ ?_)
 refine w2_condF (pe hs rfl rfl) ?_
 refine w2_skip ?_
 refine hK_2 _ _ ?_
 refine w2_sr (fun K_4 hK_4 => ?_)
 refine q_mv ((pm rfl).trans t0) ?_
 refine q_nc (pe hs rfl rfl) ?_
 refine q_fa 1 (pe hs rfl rfl) ?_
 refine q_ld (v := .int .u64 ((num : Nat) : Int)) (pe hs rfl rfl) hB rfl ?_
 refine q_v 22 (.int .u64 ((num + 1 : Nat) : Int)) (o_addU (m := num) (n := 1) (num + 1) rfl (pe hs rfl rfl) rfl (by rw [IntKind.wrap_u64]; omega)) ?_
 refine q_nc (pe hs rfl rfl) ?_
 refine q_fa 1 (pe hs rfl rfl) ?_
 refine op_do rfl rfl (o_store1 rfl (pe hs rfl rfl) (pe hs rfl rfl) rfl rfl hB (by simp only [List.length_cons, List.length_nil]; omega) ⟨by kernel_rfl, by kernel_rfl⟩) (fun w_1 hR_1 => ?_)
 obtain ⟨hB_1, hX_1⟩ := hR_1
 replace hKy := hKy.keepX hB (by decide) hX_1
 replace ha := ha.keepH hB (by intro z; simp) hX_1
 replace hb := hb.keepH hB (by intro z; simp) hX_1
 have HB_1 := HB0.step hX_1 (fun k hk (hY : k = g) => hY)
 clear hB
 simp only [List.set_cons_zero, List.set_cons_succ] at hB_1
 refine x_nil (hK_4 _ _ ?_)
 refine w2_seq (fun K_5 hK_5 => ?_)
 refine x_drawn 15 [fun _ v => v = .pointer (some ⟨g, 0, none⟩), fun _ v => v = .pointer (some ⟨g, 0, none⟩), fun _ v => v = .pointer (some ⟨g, 0, none⟩), fun _ v => v = .slice A0 (32) (c0), fun _ v => v = .pointer (some ⟨g, 0, none⟩), fun _ v => v = .pointer (some ⟨g, 0, none⟩), fun _ v => v = .pointer (some ⟨g, 1, none⟩), fun _ v => v = .int .u64 ((num + 1 : Nat) : Int), fun _ v => v = .int .u64 ((num : Nat) : Int), fun ww vv => OwnN w_1.heap.size (12) (nonceL num) ww vv, fun _ v => v = .slice A (p) (c), fun _ v => v = .slice B (q) (d), fun ww vv => TupN w_1.heap.size (q + 16) (sealL ks (nonceL num) ad bs) (0) ww vv, fun ww vv => OwnN w_1.heap.size (q + 16) (sealL ks (nonceL num) ad bs) ww vv, fun _ v => v = .int .i64 ((0 : Nat) : Int)] [25, 26, 27, 28, 29, 30, 31, 32, 33, 34, 35, 36, 37, 38, 39] hs hd (by kernel_rfl) (by kernel_rfl) (by kernel_rfl) (by kernel_rfl) (by kernel_rfl) ⟨stLit, stLit, stLit, stLit, stLit, stLit, stLit, stLit, stLit, stOwn, stLit, stLit, stTup, stOwn, stLit, trivial⟩ ⟨(step_ok rfl (fun a' w' hb' hO hD => by
   have d_1 := (hO 0 (by decide)).trans ((pm rfl).trans t0)
   exact .inl ⟨_, _, (o_move rfl d_1), rfl, Below.refl _ _⟩)),
(step_ok rfl (fun a' w' hb' hO hD => by
   have d_2 : a'.eval (.tmp 25) = .pointer (some ⟨g, 0, none⟩) := hD 0 25 (by kernel_rfl) rfl
   exact .inl ⟨_, _, (o_nilCheck rfl d_2), rfl, Below.refl _ _⟩)),
(step_ok rfl (fun a' w' hb' hO hD => by
   have d_3 : a'.eval (.tmp 26) = .pointer (some ⟨g, 0, none⟩) := hD 1 26 (by kernel_rfl) rfl
   exact .inl ⟨_, _, (o_field (k' := 0) rfl d_3 (fun _ => by kernel_rfl)), rfl, Below.refl _ _⟩)),
(step_ok rfl (fun a' w' hb' hO hD => by
   have d_4 : a'.eval (.tmp 27) = .pointer (some ⟨g, 0, none⟩) := hD 2 27 (by kernel_rfl) rfl
   exact .inl ⟨_, _, (o_load1 rfl d_4 (hB_1.nx hb') rfl ⟨by kernel_rfl, by kernel_rfl⟩), rfl, Below.refl _ _⟩)),
(step_ok rfl (fun a' w' hb' hO hD => by
   have d_5 := (hO 0 (by decide)).trans ((pm rfl).trans t0)
   exact .inl ⟨_, _, (o_move rfl d_5), rfl, Below.refl _ _⟩)),
(step_ok rfl (fun a' w' hb' hO hD => by
   have d_6 : a'.eval (.tmp 29) = .pointer (some ⟨g, 0, none⟩) := hD 4 29 (by kernel_rfl) rfl
   exact .inl ⟨_, _, (o_nilCheck rfl d_6), rfl, Below.refl _ _⟩)),
(step_ok rfl (fun a' w' hb' hO hD => by
   have d_7 : a'.eval (.tmp 30) = .pointer (some ⟨g, 0, none⟩) := hD 5 30 (by kernel_rfl) rfl
   exact .inl ⟨_, _, (o_field (k' := 1) rfl d_7 (fun _ => by kernel_rfl)), rfl, Below.refl _ _⟩)),
(step_ok rfl (fun a' w' hb' hO hD => by
   have d_8 : a'.eval (.tmp 31) = .pointer (some ⟨g, 1, none⟩) := hD 6 31 (by kernel_rfl) rfl
   exact .inl ⟨_, _, (o_load1 rfl d_8 (hB_1.nx hb') rfl ⟨by kernel_rfl, by kernel_rfl⟩), rfl, Below.refl _ _⟩)),
(step_ok rfl (fun a' w' hb' hO hD => by
   have d_9 : a'.eval (.tmp 32) = .int .u64 ((num + 1 : Nat) : Int) := hD 7 32 (by kernel_rfl) rfl
   have e0 : (.int .u64 (((num + 1) - 1 : Nat) : Int) : Value) = .int .u64 ((num : Nat) : Int) := (congrArg (fun n : Nat => Value.int .u64 ((n : Nat) : Int)) (by omega))
   exact .inl ⟨_, _, (o_subU (m := (num + 1)) (n := 1) ((num + 1) - 1) rfl d_9 rfl (by rw [IntKind.wrap_u64]; omega)), e0, Below.refl _ _⟩)),
(step_ok rfl (fun a' w' hb' hO hD => by
   have d_10 : a'.eval (.tmp 33) = .int .u64 ((num : Nat) : Int) := hD 8 33 (by kernel_rfl) rfl
   exact .inr ⟨_, #[.int .u64 ((num : Nat) : Int)], (exec_call Try.func10 (by kernel_rfl) (by kernel_rfl) _ rfl _ _ (args1 d_10)), Calls.mono (NonceW_any num _ (by omega)) (fun e w'' hR => by obtain ⟨A_1, c_1, rfl, ho_1, hb_1⟩ := hR; exact ⟨_, rfl, ⟨_, _, rfl, ho_1.mono hb'.size⟩, hb_1⟩)⟩)),
(step_ok rfl (fun a' w' hb' hO hD => by
   have d_11 := (hO 1 (by decide)).trans ((pm rfl).trans t1)
   exact .inl ⟨_, _, (o_move rfl d_11), rfl, Below.refl _ _⟩)),
(step_ok rfl (fun a' w' hb' hO hD => by
   have d_12 := (hO 2 (by decide)).trans ((pm rfl).trans t2)
   exact .inl ⟨_, _, (o_move rfl d_12), rfl, Below.refl _ _⟩)),
(step_ok rfl (fun a' w' hb' hO hD => by
   have d_13 : a'.eval (.tmp 28) = .slice A0 (32) (c0) := hD 3 28 (by kernel_rfl) rfl
   have d_14 := hD 9 34 (by kernel_rfl) rfl
   obtain ⟨A_2, c_2, hv_1, hO_1⟩ := d_14
   have d_15 : a'.eval (.tmp 35) = .slice A (p) (c) := hD 10 35 (by kernel_rfl) rfl
   have d_16 : a'.eval (.tmp 36) = .slice B (q) (d) := hD 11 36 (by kernel_rfl) rfl
   exact .inr ⟨_, #[.slice A0 (32) (c0), .slice A_2 (12) (c_2), .slice A (p) (c), .slice B (q) (d)], (exec_call Try.func8 (by kernel_rfl) (by kernel_rfl) _ rfl _ _ (args4 d_13 hv_1 d_15 d_16)), Calls.mono (SealW_ok _ ((hKy.nx hb')).bs (hO_1).bs (ha.nx hb') (hb.nx hb') hk32 (by simp only [nonceL_length]) hp hq rfl rfl (by omega) (by omega)) (fun e w'' hR => by obtain ⟨A_3, c_3, rfl, ho_2, hb_2⟩ := hR; exact ⟨_, rfl, ⟨_, _, rfl, ho_2.mono hb'.size⟩, hb_2⟩)⟩)),
(step_ok rfl (fun a' w' hb' hO hD => by
   have d_17 := hD 12 37 (by kernel_rfl) rfl
   obtain ⟨A_4, c_4, hv_2, hO_2⟩ := d_17
   exact .inl ⟨_, _, (o_extract rfl hv_2 rfl), ⟨_, _, rfl, hO_2⟩, Below.refl _ _⟩)),
(step_ok rfl (fun a' w' hb' hO hD => by
   have d_18 := hD 12 37 (by kernel_rfl) rfl
   obtain ⟨A_5, c_5, hv_3, hO_3⟩ := d_18
   exact .inl ⟨_, _, (o_extract rfl hv_3 rfl), rfl, Below.refl _ _⟩)), trivial⟩ (fun a_1 w_2 hs_1 hd_1 hb_3 hO_4 hV_1 => ?_)
 clear t0 t1 t2 hd
 replace hKy := hKy.nx hb_3
 replace ha := ha.nx hb_3
 replace hb := hb.nx hb_3
 replace hB_1 := hB_1.nx hb_3
 have HB_2 := HB_1.then hb_3
 have x_1 := hV_1 9 34 rfl rfl
 obtain ⟨A_6, c_6, hv_4, hO_5⟩ := x_1
 replace hO_5 := hO_5.mono HB_1.size
 have x_2 := hV_1 12 37 rfl rfl
 obtain ⟨A_7, c_7, hv_5, hO_6⟩ := x_2
 replace hO_6 := hO_6.mono HB_1.size
 have x_3 := hV_1 13 38 rfl rfl
 obtain ⟨A_8, c_8, hv_6, hO_7⟩ := x_3
 replace hO_7 := hO_7.mono HB_1.size
 have ta_1_39 : a_1.eval (.tmp 39) = .int .i64 ((0 : Nat) : Int) := hV_1 14 39 rfl rfl
 clear hV_1 hO_4
 simp only [List.drop_succ_cons, List.drop_zero]
 refine q_at ((pm rfl).trans hv_6) ?_
 refine q_at (v := .int .i64 ((0 : Nat) : Int)) ((pm rfl).trans ta_1_39) ?_
 refine x_nil (hK_5 _ _ ?_)
 refine w2_ret ?_
 refine ret2 rfl hd_1 (pe hs_1 rfl rfl) (pe hs_1 rfl rfl) ?_
 exact ⟨_, _, rfl, hO_7, ⟨hk32, by omega, hlt.up HB_2.size, _, _, hB_1, hKy, hMg, hMA⟩, HB_2⟩
theorem OpenW_eq {A B C E : Option Addr} {c d f g m k p q r : Nat} {ks ns zs bs xs : List Nat} (w : World) (hr : openL ks ns zs bs = (xs, r)) (ha : Bs w A c ks) (hb : Bs w B d ns) (hc : Bs w C f zs) (he : Bs w E g bs) (hm : ks.length = m) (hk : ns.length = k) (hp : zs.length = p) (hq : bs.length = q) (hm32 : m = 32) (hk12 : k = 12) (hpl : p ≤ 17592186044416) (hql : q ≤ 17592186044416) :
  Calls Try.prog 13 #[.slice A (m) (c), .slice B (k) (d), .slice C (p) (f), .slice E (q) (g)] w fun e w' => ∃ A c, e = .returned (.tuple #[.slice A xs.length c, .int .i64 ((r : Nat) : Int)]) ∧ Own w' w.heap.size A c xs ∧ Below w.heap.size w w' := by
 have h := OpenW_ok w ha hb hc he hm hk hp hq hm32 hk12 hpl hql
 rw [hr] at h
 exact h
theorem COpenWM_any {M : Nat → Prop} {g num : Nat} {ks : List Nat} {A B : Option Addr} {c d p q : Nat} {r : Nat} {xs ad bs : List Nat} (w : World) (hC : CipherRt w M g ks num) (ha : Bs w A c ad) (hb : Bs w B d bs) (hp : ad.length = p) (hq : bs.length = q) (hl : q ≤ 65535) (hpl : p ≤ 17592186044416) (hn : num < 18446744073709551615) (hr : openL ks (nonceL num) ad bs = (xs, r)) :
  Calls Try.prog 72 #[.pointer (some ⟨g, 0, none⟩), .slice A (p) (c), .slice B (q) (d)] w fun e w' => ∃ A c, e = .returned (.tuple #[.slice A xs.length c, .int .i64 ((r : Nat) : Int)]) ∧ Own w' w.heap.size A c xs ∧ CipherRt w' M g ks (if r = 0 then num + 1 else num) ∧ BelowX (fun j => j = g) w w' := by
 obtain ⟨hk32, hnum, hlt, A0, c0, hB, hKy, hMg, hMA⟩ := hC
 refine x_enter 46 Try.func72 rfl rfl (fun a hs hd ha0 => ?_)
 have t0 : a.eval (.tmp 0) = .pointer (some ⟨g, 0, none⟩) := ha0 0 _ rfl
 have t1 : a.eval (.tmp 1) = .slice A (p) (c) := ha0 1 _ rfl
 have t2 : a.eval (.tmp 2) = .slice B (q) (d) := ha0 2 _ rfl
 clear ha0
 have HB0 : BelowX (fun j => j = g) w w := BelowX.refl _ _
 refine w2_sr (fun K_1 hK_1 => ?_)
 refine q_as (.slice none (0) (0)) rfl ?_
 refine q_as (.int .i64 ((0 : Nat) : Int)) rfl ?_
 refine x_nil (hK_1 _ _ ?_)
 refine w2_seq (fun K_2 hK_2 => ?_)
 refine w2_sr (fun K_3 hK_3 => ?_)
 refine q_mv ((pm rfl).trans t2) ?_
 refine q_v 11 (.int .i64 ((q : Nat) : Int)) (o_len rfl (pe hs rfl rfl)) ?_
 refine q_v 12 (.bool (false)) (o_eq (o_gtr (m := q) (n := 65535) rfl (pe hs rfl rfl) rfl) (by rw [decide_eq_false (by omega)])) ?_
 refine q_mv (pe hs rfl rfl) ?_
 refine op_valG (e := 13) (d := 14) (v := .pointer (some ⟨g, 0, none⟩)) rfl rfl (by kernel_rfl) (pe hs rfl rfl) (o_move rfl ((pm rfl).trans t0)) ?_
 refine op_valG (e := 13) (d := 15) (v := .pointer (some ⟨g, 0, none⟩)) rfl rfl (by kernel_rfl) (pe hs rfl rfl) (o_nilCheck rfl (pe hs rfl rfl)) ?_
 refine op_valG (e := 13) (d := 16) (v := .pointer (some ⟨g, 1, none⟩)) rfl rfl (by kernel_rfl) (pe hs rfl rfl) (o_field (k' := 1) rfl (pe hs rfl rfl) (fun _ => by kernel_rfl)) ?_
 refine op_valG (e := 13) (d := 17) (v := .int .u64 ((num : Nat) : Int)) rfl rfl (by kernel_rfl) (pe hs rfl rfl) (o_load1 rfl (pe hs rfl rfl) hB rfl ⟨by kernel_rfl, by kernel_rfl⟩) ?_
 refine op_valG (e := 13) (d := 18) (v := .bool (false)) rfl rfl (by kernel_rfl) (pe hs rfl rfl) (o_eq (o_eql (m := num) (n := 18446744073709551615) rfl (pe hs rfl rfl) rfl) (by rw [decide_eq_false (by omega)])) ?_
 refine q_v 19 (.bool (false)) (o_pickF rfl (pe hs rfl rfl) (pe hs rfl rfl)) ?_
 refine x_nil (hK_3 _ _ ?_)
 refine w2_condF (pe hs rfl rfl) ?_
 refine w2_skip ?_
 refine hK_2 _ _ ?_
 refine w2_seq (fun K_4 hK_4 => ?_)
 refine x_drawn2 16 [fun _ v => v = .pointer (some ⟨g, 0, none⟩), fun _ v => v = .pointer (some ⟨g, 0, none⟩), fun _ v => v = .pointer (some ⟨g, 0, none⟩), fun _ v => v = .slice A0 (32) (c0), fun _ v => v = .pointer (some ⟨g, 0, none⟩), fun _ v => v = .pointer (some ⟨g, 0, none⟩), fun _ v => v = .pointer (some ⟨g, 1, none⟩), fun _ v => v = .int .u64 ((num : Nat) : Int), fun ww vv => OwnN w.heap.size (12) (nonceL num) ww vv, fun _ v => v = .slice A (p) (c), fun _ v => v = .slice B (q) (d), fun ww vv => TupN w.heap.size (xs.length) (xs) (r) ww vv, fun ww vv => TupN w.heap.size (xs.length) (xs) (r) ww vv, fun ww vv => OwnN w.heap.size (xs.length) (xs) ww vv, fun _ v => v = .int .i64 ((r : Nat) : Int), fun ww vv => OwnN w.heap.size (xs.length) (xs) ww vv] [21, 22, 23, 24, 25, 26, 27, 28, 29, 30, 31, 32, 20, 33, 34, 8] hs hd (by kernel_rfl) (by kernel_rfl) (by kernel_rfl) (by kernel_rfl) (by kernel_rfl) ⟨stLit, stLit, stLit, stLit, stLit, stLit, stLit, stLit, stOwn, stLit, stLit, stTup, stTup, stOwn, stLit, stOwn, trivial⟩ ⟨(step_ok rfl (fun a' w' hb' hO hD => by
   have d_1 := (hO 0 (by decide)).trans ((pm rfl).trans t0)
   exact .inl ⟨_, _, (o_move rfl d_1), rfl, Below.refl _ _⟩)),
(step_ok rfl (fun a' w' hb' hO hD => by
   have d_2 : a'.eval (.tmp 21) = .pointer (some ⟨g, 0, none⟩) := hD 0 21 (by kernel_rfl) rfl
   exact .inl ⟨_, _, (o_nilCheck rfl d_2), rfl, Below.refl _ _⟩)),
(step_ok rfl (fun a' w' hb' hO hD => by
   have d_3 : a'.eval (.tmp 22) = .pointer (some ⟨g, 0, none⟩) := hD 1 22 (by kernel_rfl) rfl
   exact .inl ⟨_, _, (o_field (k' := 0) rfl d_3 (fun _ => by kernel_rfl)), rfl, Below.refl _ _⟩)),
(step_ok rfl (fun a' w' hb' hO hD => by
   have d_4 : a'.eval (.tmp 23) = .pointer (some ⟨g, 0, none⟩) := hD 2 23 (by kernel_rfl) rfl
   exact .inl ⟨_, _, (o_load1 rfl d_4 (hB.nx hb') rfl ⟨by kernel_rfl, by kernel_rfl⟩), rfl, Below.refl _ _⟩)),
(step_ok rfl (fun a' w' hb' hO hD => by
   have d_5 := (hO 0 (by decide)).trans ((pm rfl).trans t0)
   exact .inl ⟨_, _, (o_move rfl d_5), rfl, Below.refl _ _⟩)),
(step_ok rfl (fun a' w' hb' hO hD => by
   have d_6 : a'.eval (.tmp 25) = .pointer (some ⟨g, 0, none⟩) := hD 4 25 (by kernel_rfl) rfl
   exact .inl ⟨_, _, (o_nilCheck rfl d_6), rfl, Below.refl _ _⟩)),
(step_ok rfl (fun a' w' hb' hO hD => by
   have d_7 : a'.eval (.tmp 26) = .pointer (some ⟨g, 0, none⟩) := hD 5 26 (by kernel_rfl) rfl
   exact .inl ⟨_, _, (o_field (k' := 1) rfl d_7 (fun _ => by kernel_rfl)), rfl, Below.refl _ _⟩)),
(step_ok rfl (fun a' w' hb' hO hD => by
   have d_8 : a'.eval (.tmp 27) = .pointer (some ⟨g, 1, none⟩) := hD 6 27 (by kernel_rfl) rfl
   exact .inl ⟨_, _, (o_load1 rfl d_8 (hB.nx hb') rfl ⟨by kernel_rfl, by kernel_rfl⟩), rfl, Below.refl _ _⟩)),
(step_ok rfl (fun a' w' hb' hO hD => by
   have d_9 : a'.eval (.tmp 28) = .int .u64 ((num : Nat) : Int) := hD 7 28 (by kernel_rfl) rfl
   exact .inr ⟨_, #[.int .u64 ((num : Nat) : Int)], (exec_call Try.func10 (by kernel_rfl) (by kernel_rfl) _ rfl _ _ (args1 d_9)), Calls.mono (NonceW_any num _ (by omega)) (fun e w'' hR => by obtain ⟨A_1, c_1, rfl, ho_1, hb_1⟩ := hR; exact ⟨_, rfl, ⟨_, _, rfl, ho_1.mono hb'.size⟩, hb_1⟩)⟩)),
(step_ok rfl (fun a' w' hb' hO hD => by
   have d_10 := (hO 1 (by decide)).trans ((pm rfl).trans t1)
   exact .inl ⟨_, _, (o_move rfl d_10), rfl, Below.refl _ _⟩)),
(step_ok rfl (fun a' w' hb' hO hD => by
   have d_11 := (hO 2 (by decide)).trans ((pm rfl).trans t2)
   exact .inl ⟨_, _, (o_move rfl d_11), rfl, Below.refl _ _⟩)),
(step_ok rfl (fun a' w' hb' hO hD => by
   have d_12 : a'.eval (.tmp 24) = .slice A0 (32) (c0) := hD 3 24 (by kernel_rfl) rfl
   have d_13 := hD 8 29 (by kernel_rfl) rfl
   obtain ⟨A_2, c_2, hv_1, hO_1⟩ := d_13
   have d_14 : a'.eval (.tmp 30) = .slice A (p) (c) := hD 9 30 (by kernel_rfl) rfl
   have d_15 : a'.eval (.tmp 31) = .slice B (q) (d) := hD 10 31 (by kernel_rfl) rfl
   exact .inr ⟨_, #[.slice A0 (32) (c0), .slice A_2 (12) (c_2), .slice A (p) (c), .slice B (q) (d)], (exec_call Try.func13 (by kernel_rfl) (by kernel_rfl) _ rfl _ _ (args4 d_12 hv_1 d_14 d_15)), Calls.mono (OpenW_eq _ hr ((hKy.nx hb')).bs (hO_1).bs (ha.nx hb') (hb.nx hb') hk32 (by simp only [nonceL_length]) hp hq rfl rfl (by omega) (by omega)) (fun e w'' hR => by obtain ⟨A_3, c_3, rfl, ho_2, hb_2⟩ := hR; exact ⟨_, rfl, ⟨_, _, rfl, ho_2.mono hb'.size⟩, hb_2⟩)⟩)),
(step_ok rfl (fun a' w' hb' hO hD => by
   have d_16 := hD 11 32 (by kernel_rfl) rfl
   obtain ⟨A_4, c_4, hv_2, hO_2⟩ := d_16
   exact .inl ⟨_, _, (o_move rfl hv_2), ⟨_, _, rfl, hO_2⟩, Below.refl _ _⟩)),
(step_ok rfl (fun a' w' hb' hO hD => by
   have d_17 := hD 12 20 (by kernel_rfl) rfl
   obtain ⟨A_5, c_5, hv_3, hO_3⟩ := d_17
   exact .inl ⟨_, _, (o_extract rfl hv_3 rfl), ⟨_, _, rfl, hO_3⟩, Below.refl _ _⟩)),
(step_ok rfl (fun a' w' hb' hO hD => by
   have d_18 := hD 12 20 (by kernel_rfl) rfl
   obtain ⟨A_6, c_6, hv_4, hO_4⟩ := d_18
   exact .inl ⟨_, _, (o_extract rfl hv_4 rfl), rfl, Below.refl _ _⟩)),
(step_ok rfl (fun a' w' hb' hO hD => by
   have d_19 := hD 13 33 (by kernel_rfl) rfl
   obtain ⟨A_7, c_7, hv_5, hO_5⟩ := d_19
   exact .inl ⟨_, _, (o_assign rfl hv_5), ⟨_, _, rfl, hO_5⟩, Below.refl _ _⟩)), trivial⟩ (fun a_1 w_1 hs_1 hd_1 hb_3 hO_6 hV_1 => ?_)
 have ta_1_0 := (hO_6 0 (by decide)).trans ((pm rfl).trans t0)
 clear t0 t1 t2 hd
 replace hB := hB.nx hb_3
 replace hKy := hKy.nx hb_3
 replace ha := ha.nx hb_3
 replace hb := hb.nx hb_3
 have HB_1 := HB0.then hb_3
 have x_1 := hV_1 8 29 rfl rfl
 obtain ⟨A_8, c_8, hv_6, hO_7⟩ := x_1
 replace hO_7 := hO_7.mono HB0.size
 have x_2 := hV_1 11 32 rfl rfl
 obtain ⟨A_9, c_9, hv_7, hO_8⟩ := x_2
 replace hO_8 := hO_8.mono HB0.size
 have x_3 := hV_1 12 20 rfl rfl
 obtain ⟨A_10, c_10, hv_8, hO_9⟩ := x_3
 replace hO_9 := hO_9.mono HB0.size
 have x_4 := hV_1 13 33 rfl rfl
 obtain ⟨A_11, c_11, hv_9, hO_10⟩ := x_4
 replace hO_10 := hO_10.mono HB0.size
 have ta_1_34 : a_1.eval (.tmp 34) = .int .i64 ((r : Nat) : Int) := hV_1 14 34 rfl rfl
 have x_5 := hV_1 15 8 rfl rfl
 obtain ⟨A_12, c_12, hv_10, hO_11⟩ := x_5
 replace hO_11 := hO_11.mono HB0.size
 clear hV_1 hO_6
 simp only [List.drop_succ_cons, List.drop_zero]
 refine q_at ((pm rfl).trans ta_1_34) ?_
 refine x_nil (hK_4 _ _ ?_)
 refine w2_seq (fun K_5 hK_5 => ?_)
 refine w2_sr (fun K_6 hK_6 => ?_)
 refine q_mv (pe hs_1 rfl rfl) ?_
 refine q_v 36 (.bool (decide (r = 0))) (o_eql (m := r) (n := 0) rfl (pe hs_1 rfl rfl) rfl) ?_
 refine x_nil (hK_6 _ _ ?_)
 refine w2_split (pe hs_1 rfl rfl) (fun h_1 => ?_) (fun h_1 => ?_)
 ·simp only [DD9] at h_1
  have hr0 : r = 0 := h_1
  refine x_region (by kernel_rfl) ?_
  refine q_mv ((pm rfl).trans ta_1_0) ?_
  refine q_nc (pe hs_1 rfl rfl) ?_
  refine q_fa 1 (pe hs_1 rfl rfl) ?_
  refine q_ld (v := .int .u64 ((num : Nat) : Int)) (pe hs_1 rfl rfl) hB rfl ?_
  refine q_v 41 (.int .u64 ((num + 1 : Nat) : Int)) (o_addU (m := num) (n := 1) (num + 1) rfl (pe hs_1 rfl rfl) rfl (by rw [IntKind.wrap_u64]; omega)) ?_
  refine q_nc (pe hs_1 rfl rfl) ?_
  refine q_fa 1 (pe hs_1 rfl rfl) ?_
  refine op_do rfl rfl (o_store1 rfl (pe hs_1 rfl rfl) (pe hs_1 rfl rfl) rfl rfl hB (by simp only [List.length_cons, List.length_nil]; omega) ⟨by kernel_rfl, by kernel_rfl⟩) (fun w_2 hR_1 => ?_)
  obtain ⟨hB_1, hX_1⟩ := hR_1
  replace hKy := hKy.keepX hB (by decide) hX_1
  replace ha := ha.keepH hB (by intro z; simp) hX_1
  replace hb := hb.keepH hB (by intro z; simp) hX_1
  replace hO_7 := hO_7.keepX hB (by decide) hX_1
  replace hO_8 := hO_8.keepX hB (by decide) hX_1
  replace hO_9 := hO_9.keepX hB (by decide) hX_1
  replace hO_10 := hO_10.keepX hB (by decide) hX_1
  replace hO_11 := hO_11.keepX hB (by decide) hX_1
  have HB_2 := HB_1.step hX_1 (fun k hk (hY : k = g) => hY)
  clear hB
  simp only [List.set_cons_zero, List.set_cons_succ] at hB_1
  refine x_nil (hK_5 _ _ ?_)
  refine w2_sr (fun K_7 hK_7 => ?_)
  refine q_mv ((pm rfl).trans hv_10) ?_
  refine q_mv (pe hs_1 rfl rfl) ?_
  refine q_at (pe hs_1 rfl rfl) ?_
  refine q_at (pe hs_1 rfl rfl) ?_
  refine x_nil (hK_7 _ _ ?_)
  refine w2_ret ?_
  refine ret2 rfl hd_1 (pe hs_1 rfl rfl) (pe hs_1 rfl rfl) ?_
  exact ⟨_, _, rfl, hO_11, ⟨hk32, by rw [if_pos hr0]; omega, hlt.up HB_2.size, _, _, by rw [if_pos hr0]; exact hB_1, hKy, hMg, hMA⟩, HB_2⟩
 ·simp only [DD9] at h_1
  have hr0 : ¬ r = 0 := h_1
  refine w2_skip ?_
  refine hK_5 _ _ ?_
  refine w2_sr (fun K_8 hK_8 => ?_)
  refine q_mv ((pm rfl).trans hv_10) ?_
  refine q_mv (pe hs_1 rfl rfl) ?_
  refine q_at (pe hs_1 rfl rfl) ?_
  refine q_at (pe hs_1 rfl rfl) ?_
  refine x_nil (hK_8 _ _ ?_)
  refine w2_ret ?_
  refine ret2 rfl hd_1 (pe hs_1 rfl rfl) (pe hs_1 rfl rfl) ?_
  exact ⟨_, _, rfl, hO_11, ⟨hk32, by rw [if_neg hr0]; exact hnum, hlt.up HB_1.size, _, _, by rw [if_neg hr0]; exact hB, hKy, hMg, hMA⟩, HB_1⟩
theorem CSealW_any {M : Nat → Prop} {g num : Nat} {ks : List Nat} {A B : Option Addr} {c d p q : Nat} {ad bs : List Nat} (w : World) (hC : CipherRt w M g ks num) (ha : Bs w A c ad) (hb : Bs w B d bs) (hp : ad.length = p) (hq : bs.length = q) (hl : q ≤ 65519) (hpl : p ≤ 17592186044416) (hn : num < 18446744073709551615) :
  Calls Try.prog 44 #[.pointer (some ⟨g, 0, none⟩), .slice A (p) (c), .slice B (q) (d)] w fun e w' => ∃ A c, e = .returned (.tuple #[.slice A (q + 16) c, .int .i64 0]) ∧ Own w' w.heap.size A c (sealL ks (nonceL num) ad bs) ∧ (∃ M', CipherRt w' M' g ks (num + 1) ∧ NextM w M M') ∧ BelowX (fun j => j = g) w w' := by
 refine Calls.mono (CSealWM_any w hC ha hb hp hq hl hpl hn) ?_
 rintro e w' ⟨A, c, h1, h2, h3, h4⟩
 exact ⟨A, c, h1, h2, ⟨M, h3, NextM.refl _ _⟩, h4⟩
theorem COpenW_any {M : Nat → Prop} {g num : Nat} {ks : List Nat} {A B : Option Addr} {c d p q : Nat} {r : Nat} {xs ad bs : List Nat} (w : World) (hC : CipherRt w M g ks num) (ha : Bs w A c ad) (hb : Bs w B d bs) (hp : ad.length = p) (hq : bs.length = q) (hl : q ≤ 65535) (hpl : p ≤ 17592186044416) (hn : num < 18446744073709551615) (hr : openL ks (nonceL num) ad bs = (xs, r)) :
  Calls Try.prog 72 #[.pointer (some ⟨g, 0, none⟩), .slice A (p) (c), .slice B (q) (d)] w fun e w' => ∃ A c, e = .returned (.tuple #[.slice A xs.length c, .int .i64 ((r : Nat) : Int)]) ∧ Own w' w.heap.size A c xs ∧ (∃ M', CipherRt w' M' g ks (if r = 0 then num + 1 else num) ∧ NextM w M M') ∧ BelowX (fun j => j = g) w w' := by
 refine Calls.mono (COpenWM_any w hC ha hb hp hq hl hpl hn hr) ?_
 rintro e w' ⟨A, c, h1, h2, h3, h4⟩
 exact ⟨A, c, h1, h2, ⟨M, h3, NextM.refl _ _⟩, h4⟩
theorem Wt.pre {w : World} {A : Option Addr} {c : Nat} {xs : List Nat} (h : Wt w A c xs) (n : Nat) : Wt w A c (xs.take n) := by
 refine ⟨fun x hx => h.b8 x (List.mem_of_mem_take hx), by rw [List.length_take]; have := h.le; omega, h.max, ?_⟩
 rcases h.row with ⟨hA, hc⟩ | ⟨g, off, cur, hA, hh, hsz, hx⟩
 ·exact .inl ⟨hA, hc⟩
 ·refine .inr ⟨g, off, cur, hA, hh, hsz, fun i hi => ?_⟩
  rw [List.length_take] at hi
  rw [hx i (by omega)]
  simp only [List.getD_eq_getElem?_getD, List.getElem?_take]
  rw [if_pos (by omega)]
theorem CRekeyW_any {M : Nat → Prop} {g num : Nat} {ks : List Nat} (w : World) (hC : CipherRt w M g ks num) :
  Calls Try.prog 69 #[.pointer (some ⟨g, 0, none⟩)] w fun e w' => e = .returned (.tuple #[]) ∧ (∃ M', CipherRt w' M' g (rekeyL ks) num ∧ NextM w M M') ∧ BelowX (fun j => j = g) w w' := by
 obtain ⟨hk32, hnum, hlt, A0, c0, hB, hKy, hMg, hMA⟩ := hC
 refine x_enter 19 Try.func69 rfl rfl (fun a hs hd ha0 => ?_)
 have t0 : a.eval (.tmp 0) = .pointer (some ⟨g, 0, none⟩) := ha0 0 _ rfl
 clear ha0
 have HB0 : BelowX (fun j => j = g) w w := BelowX.refl _ _
 refine w2_seq (fun K_1 hK_1 => ?_)
 refine x_drawn2 11 [fun _ v => v = .pointer (some ⟨g, 0, none⟩), fun _ v => v = .pointer (some ⟨g, 0, none⟩), fun _ v => v = .pointer (some ⟨g, 0, none⟩), fun _ v => v = .slice A0 (32) (c0), fun ww vv => OwnN w.heap.size (12) (nonceL 18446744073709551615) ww vv, fun ww vv => OwnN w.heap.size (32) (List.replicate 32 0) ww vv, fun ww vv => TupN w.heap.size (32 + 16) (sealL ks (nonceL 18446744073709551615) ([]) (List.replicate 32 0)) (0) ww vv, fun ww vv => TupN w.heap.size (32 + 16) (sealL ks (nonceL 18446744073709551615) ([]) (List.replicate 32 0)) (0) ww vv, fun ww vv => OwnN w.heap.size (32 + 16) (sealL ks (nonceL 18446744073709551615) ([]) (List.replicate 32 0)) ww vv, fun _ v => v = .int .i64 ((0 : Nat) : Int), fun ww vv => OwnN w.heap.size (32 + 16) (sealL ks (nonceL 18446744073709551615) ([]) (List.replicate 32 0)) ww vv] [5, 6, 7, 8, 9, 10, 11, 4, 12, 13, 2] hs hd (by kernel_rfl) (by kernel_rfl) (by kernel_rfl) (by kernel_rfl) (by kernel_rfl) ⟨stLit, stLit, stLit, stLit, stOwn, stOwn, stTup, stTup, stOwn, stLit, stOwn, trivial⟩ ⟨(step_ok rfl (fun a' w' hb' hO hD => by
   have d_1 := (hO 0 (by decide)).trans ((pm rfl).trans t0)
   exact .inl ⟨_, _, (o_move rfl d_1), rfl, Below.refl _ _⟩)),
(step_ok rfl (fun a' w' hb' hO hD => by
   have d_2 : a'.eval (.tmp 5) = .pointer (some ⟨g, 0, none⟩) := hD 0 5 (by kernel_rfl) rfl
   exact .inl ⟨_, _, (o_nilCheck rfl d_2), rfl, Below.refl _ _⟩)),
(step_ok rfl (fun a' w' hb' hO hD => by
   have d_3 : a'.eval (.tmp 6) = .pointer (some ⟨g, 0, none⟩) := hD 1 6 (by kernel_rfl) rfl
   exact .inl ⟨_, _, (o_field (k' := 0) rfl d_3 (fun _ => by kernel_rfl)), rfl, Below.refl _ _⟩)),
(step_ok rfl (fun a' w' hb' hO hD => by
   have d_4 : a'.eval (.tmp 7) = .pointer (some ⟨g, 0, none⟩) := hD 2 7 (by kernel_rfl) rfl
   exact .inl ⟨_, _, (o_load1 rfl d_4 (hB.nx hb') rfl ⟨by kernel_rfl, by kernel_rfl⟩), rfl, Below.refl _ _⟩)),
(step_ok rfl (fun a' w' hb' hO hD => by
   exact .inr ⟨_, #[.int .u64 ((18446744073709551615 : Nat) : Int)], (exec_call Try.func10 (by kernel_rfl) (by kernel_rfl) _ rfl _ _ (args1 rfl)), Calls.mono (NonceW_any 18446744073709551615 _ (by omega)) (fun e w'' hR => by obtain ⟨A_1, c_1, rfl, ho_1, hb_1⟩ := hR; exact ⟨_, rfl, ⟨_, _, rfl, ho_1.mono hb'.size⟩, hb_1⟩)⟩)),
(step_ok rfl (fun a' w' hb' hO hD => by
   exact out_new (o_make (n := 32) rfl rfl rfl (fun _ => by kernel_rfl) (by omega)) (fun v w_1 hR => by obtain ⟨g_1, rfl, ho_2, hb_2⟩ := hR; exact ⟨⟨_, _, rfl, ho_2.mono hb'.size⟩, hb_2⟩))),
(step_ok rfl (fun a' w' hb' hO hD => by
   have d_5 : a'.eval (.tmp 8) = .slice A0 (32) (c0) := hD 3 8 (by kernel_rfl) rfl
   have d_6 := hD 4 9 (by kernel_rfl) rfl
   obtain ⟨A_2, c_2, hv_1, hO_1⟩ := d_6
   have d_7 := hD 5 10 (by kernel_rfl) rfl
   obtain ⟨A_3, c_3, hv_2, hO_2⟩ := d_7
   exact .inr ⟨_, #[.slice A0 (32) (c0), .slice A_2 (12) (c_2), .slice none (0) (0), .slice A_3 (32) (c_3)], (exec_call Try.func8 (by kernel_rfl) (by kernel_rfl) _ rfl _ _ (args4 d_5 hv_1 rfl hv_2)), Calls.mono (SealW_ok _ ((hKy.nx hb')).bs (hO_1).bs (Bs.nil _) (hO_2).bs hk32 (by simp only [nonceL_length]) (by simp only [List.length_nil]) (by simp only [List.length_replicate]) rfl rfl (by omega) (by omega)) (fun e w'' hR => by obtain ⟨A_4, c_4, rfl, ho_3, hb_3⟩ := hR; exact ⟨_, rfl, ⟨_, _, rfl, ho_3.mono hb'.size⟩, hb_3⟩)⟩)),
(step_ok rfl (fun a' w' hb' hO hD => by
   have d_8 := hD 6 11 (by kernel_rfl) rfl
   obtain ⟨A_5, c_5, hv_3, hO_3⟩ := d_8
   exact .inl ⟨_, _, (o_move rfl hv_3), ⟨_, _, rfl, hO_3⟩, Below.refl _ _⟩)),
(step_ok rfl (fun a' w' hb' hO hD => by
   have d_9 := hD 7 4 (by kernel_rfl) rfl
   obtain ⟨A_6, c_6, hv_4, hO_4⟩ := d_9
   exact .inl ⟨_, _, (o_extract rfl hv_4 rfl), ⟨_, _, rfl, hO_4⟩, Below.refl _ _⟩)),
(step_ok rfl (fun a' w' hb' hO hD => by
   have d_10 := hD 7 4 (by kernel_rfl) rfl
   obtain ⟨A_7, c_7, hv_5, hO_5⟩ := d_10
   exact .inl ⟨_, _, (o_extract rfl hv_5 rfl), rfl, Below.refl _ _⟩)),
(step_ok rfl (fun a' w' hb' hO hD => by
   have d_11 := hD 8 12 (by kernel_rfl) rfl
   obtain ⟨A_8, c_8, hv_6, hO_6⟩ := d_11
   exact .inl ⟨_, _, (o_assign rfl hv_6), ⟨_, _, rfl, hO_6⟩, Below.refl _ _⟩)), trivial⟩ (fun a_1 w_2 hs_1 hd_1 hb_4 hO_7 hV_1 => ?_)
 have ta_1_0 := (hO_7 0 (by decide)).trans ((pm rfl).trans t0)
 clear t0 hd
 replace hB := hB.nx hb_4
 replace hKy := hKy.nx hb_4
 have HB_1 := HB0.then hb_4
 have x_1 := hV_1 4 9 rfl rfl
 obtain ⟨A_9, c_9, hv_7, hO_8⟩ := x_1
 replace hO_8 := hO_8.mono HB0.size
 have x_2 := hV_1 5 10 rfl rfl
 obtain ⟨A_10, c_10, hv_8, hO_9⟩ := x_2
 replace hO_9 := hO_9.mono HB0.size
 have x_3 := hV_1 6 11 rfl rfl
 obtain ⟨A_11, c_11, hv_9, hO_10⟩ := x_3
 replace hO_10 := hO_10.mono HB0.size
 have x_4 := hV_1 7 4 rfl rfl
 obtain ⟨A_12, c_12, hv_10, hO_11⟩ := x_4
 replace hO_11 := hO_11.mono HB0.size
 have x_5 := hV_1 8 12 rfl rfl
 obtain ⟨A_13, c_13, hv_11, hO_12⟩ := x_5
 replace hO_12 := hO_12.mono HB0.size
 have ta_1_13 : a_1.eval (.tmp 13) = .int .i64 ((0 : Nat) : Int) := hV_1 9 13 rfl rfl
 have x_6 := hV_1 10 2 rfl rfl
 obtain ⟨A_14, c_14, hv_12, hO_13⟩ := x_6
 replace hO_13 := hO_13.mono HB0.size
 clear hV_1 hO_7
 simp only [List.drop_succ_cons, List.drop_zero]
 refine q_at (v := .int .i64 ((0 : Nat) : Int)) ((pm rfl).trans ta_1_13) ?_
 refine x_nil (hK_1 _ _ ?_)
 have hc48 : 48 ≤ c_14 := by have h9 := hO_13.bs.le; rw [sealL_length, List.length_replicate] at h9; exact h9
 refine x_region (by kernel_rfl) ?_
 refine q_mv ((pm rfl).trans ta_1_0) ?_
 refine q_mv ((pm rfl).trans hv_12) ?_
 refine q_v 16 (.slice ((subA A_14 0 c_14)) (32) (c_14)) (o_sliceH (h := 32) rfl (pe hs_1 rfl rfl) rfl (by omega)) ?_
 refine q_nc (pe hs_1 rfl rfl) ?_
 refine q_fa 0 (pe hs_1 rfl rfl) ?_
 refine op_do rfl rfl (o_store1 rfl (pe hs_1 rfl rfl) (pe hs_1 rfl rfl) rfl rfl hB (by simp only [List.length_cons, List.length_nil]; omega) ⟨by kernel_rfl, by kernel_rfl⟩) (fun w_3 hR_1 => ?_)
 obtain ⟨hB_1, hX_1⟩ := hR_1
 replace hKy := hKy.keepX hB (by decide) hX_1
 replace hO_8 := hO_8.keepX hB (by decide) hX_1
 replace hO_9 := hO_9.keepX hB (by decide) hX_1
 replace hO_10 := hO_10.keepX hB (by decide) hX_1
 replace hO_11 := hO_11.keepX hB (by decide) hX_1
 replace hO_12 := hO_12.keepX hB (by decide) hX_1
 replace hO_13 := hO_13.keepX hB (by decide) hX_1
 have HB_2 := HB_1.step hX_1 (fun k hk (hY : k = g) => hY)
 clear hB
 simp only [List.set_cons_zero, List.set_cons_succ] at hB_1
 refine x_nil ?_
 refine end0 rfl hd_1 ?_
 exact ⟨rfl, ⟨MX w M w_3, ⟨rekeyL_length _, hnum, hlt.mx HB_2.size, _, _, by have h9 := hB_1; rwa [subA_zero] at h9, hO_13.wt.pre 32, .inl hMg, fun j hj => .inr ⟨hO_13.ge' j hj, hO_13.lt j hj⟩⟩, fun j hj => hj.imp id (fun h => h.1)⟩, HB_2⟩
end Go.Proofs.Ytggalcdkfielkaa
/-
 WALKS: the reference's Size, Wrap, Unwrap, PutHigh, High, Join.
-/
namespace Go.Proofs.Ytggalcdkfielkaa
open Go.RowKit
set_option linter.unusedVariables false
set_option linter.unusedSimpArgs false
set_option maxRecDepth 100000
attribute [local irreducible] wpList wpListIn putsR

theorem SizeW_le (n : Nat) (w : World) (hn : n ≤ 4096) :
  Calls Try.prog 68 #[.int .i64 ((n : Nat) : Int)] w fun e w' => e = .returned (.int .i64 ((sizeN n : Nat) : Int)) ∧ w = w' := by
 refine x_enter 17 Try.func68 rfl rfl (fun a hs hd ha0 => ?_)
 have t0 : a.eval (.tmp 0) = .int .i64 ((n : Nat) : Int) := ha0 0 _ rfl
 clear ha0
 refine w2_sr (fun K_1 hK_1 => ?_)
 refine q_as (.int .i64 ((0 : Nat) : Int)) rfl ?_
 refine x_nil (hK_1 _ _ ?_)
 refine w2_seq (fun K_2 hK_2 => ?_)
 refine w2_sr (fun K_3 hK_3 => ?_)
 refine q_mv ((pm rfl).trans t0) ?_
 refine q_v 5 (.bool (false)) (o_eq (o_lss (m := n) (n := 0) rfl (pe hs rfl rfl) rfl) (by rw [decide_eq_false (by omega)])) ?_
 refine q_mv (pe hs rfl rfl) ?_
 refine op_valG (e := 6) (d := 7) (v := .int .i64 ((n : Nat) : Int)) rfl rfl (by kernel_rfl) (pe hs rfl rfl) (o_move rfl ((pm rfl).trans t0)) ?_
 refine op_valG (e := 6) (d := 8) (v := .bool (false)) rfl rfl (by kernel_rfl) (pe hs rfl rfl) (o_eq (o_gtr (m := n) (n := 4096) rfl (pe hs rfl rfl) rfl) (by rw [decide_eq_false (by omega)])) ?_
 refine q_v 9 (.bool (false)) (o_pickF rfl (pe hs rfl rfl) (pe hs rfl rfl)) ?_
 refine x_nil (hK_3 _ _ ?_)
 refine w2_condF (pe hs rfl rfl) ?_
 refine w2_skip ?_
 refine hK_2 _ _ ?_
 refine w2_sr (fun K_4 hK_4 => ?_)
 refine q_as (.int .i64 ((64 : Nat) : Int)) rfl ?_
 refine x_nil (hK_4 _ _ ?_)
 refine w2_seq (fun K_5 hK_5 => ?_)
 refine w2_block (fun K_6 hK_6 => ?_)
 refine x_loop (fun nn aa ww => ∃ (K : Nat), nn = padK n - K ∧ aa.tmps.size = 17 ∧ aa.defers = [] ∧ aa.eval (.tmp 0) = .int .i64 ((n : Nat) : Int) ∧ aa.eval (.tmp 2) = .int .i64 ((0 : Nat) : Int) ∧ aa.eval (.tmp 3) = .int .i64 ((64 * 2 ^ K : Nat) : Int) ∧ aa.eval (.tmp 4) = .int .i64 ((n : Nat) : Int) ∧ aa.eval (.tmp 5) = .bool (false) ∧ aa.eval (.tmp 6) = .bool (false) ∧ aa.eval (.tmp 7) = .int .i64 ((n : Nat) : Int) ∧ aa.eval (.tmp 8) = .bool (false) ∧ aa.eval (.tmp 9) = .bool (false) ∧ K ≤ padK n ∧ w = ww) (padK n - 0) ?_ ?_
 ·exact ⟨0, rfl, (by rw [putsR_size]; exact hs), (by rw [putsR_defers]; exact hd), ((pm rfl).trans t0), (pe hs rfl rfl), (pe hs rfl rfl), (pe hs rfl rfl), (pe hs rfl rfl), (pe hs rfl rfl), (pe hs rfl rfl), (pe hs rfl rfl), (pe hs rfl rfl), Nat.zero_le _, rfl⟩
 ·skip
  clear t0 hd
  rintro nna_1 a_1 w_1 ⟨K, hm_1, hs_1, hd_1, ta_1_0, ta_1_2, ta_1_3, ta_1_4, ta_1_5, ta_1_6, ta_1_7, ta_1_8, ta_1_9, hK, hW⟩ K_7 hK_7
  subst hm_1
  refine w2_seq (fun K_8 hK_8 => ?_)
  refine w2_sr (fun K_9 hK_9 => ?_)
  refine q_mv ((pm rfl).trans ta_1_3) ?_
  refine q_mv ((pm rfl).trans ta_1_0) ?_
  refine q_v 12 (.int .i64 ((n + 2 : Nat) : Int)) (o_add64 (m := n) (n := 2) rfl (pe hs_1 rfl rfl) rfl (by omega)) ?_
  refine q_v 13 (.bool (decide ((64 * 2 ^ K) < (n + 2)))) (o_lss (m := (64 * 2 ^ K)) (n := (n + 2)) rfl (pe hs_1 rfl rfl) (pe hs_1 rfl rfl)) ?_
  refine x_nil (hK_9 _ _ ?_)
  refine w2_split (pe hs_1 rfl rfl) (fun h_1 => ?_) (fun h_1 => ?_)
  ·simp only [DD9] at h_1
   have hlt : 64 * 2 ^ K < n + 2 := h_1
   obtain ⟨hk, hk2⟩ := padK_lt n K hn hK hlt
   refine w2_skip ?_
   refine hK_8 _ _ ?_
   refine w2_block (fun K_10 hK_10 => ?_)
   refine x_region (by kernel_rfl) ?_
   refine q_mv ((pm rfl).trans ta_1_3) ?_
   refine q_v 15 (.int .i64 ((64 * 2 ^ (K + 1) : Nat) : Int)) (o_eq (o_mul64 (m := (64 * 2 ^ K)) (n := 2) rfl (pe hs_1 rfl rfl) rfl (by omega)) (by rw [Nat.pow_succ, Nat.mul_assoc])) ?_
   refine q_at (pe hs_1 rfl rfl) ?_
   refine x_nil (hK_10 _ _ ?_)
   refine hK_7 _ _ _ ⟨K + 1, rfl, (by rw [putsR_size]; exact hs_1), (by rw [putsR_defers]; exact hd_1), ((pm rfl).trans ta_1_0), ((pm rfl).trans ta_1_2), (pe hs_1 rfl rfl), ((pm rfl).trans ta_1_4), ((pm rfl).trans ta_1_5), ((pm rfl).trans ta_1_6), ((pm rfl).trans ta_1_7), ((pm rfl).trans ta_1_8), ((pm rfl).trans ta_1_9), (by omega), hW⟩ ?_
   omega
  ·simp only [DD9] at h_1
   have hge : n + 2 ≤ 64 * 2 ^ K := h_1
   have hKe : K = padK n := by rcases Nat.lt_or_ge K (padK n) with h9 | h9; (have := padK_min n K h9; omega); omega
   refine w2_exit ?_
   refine thn_exit ?_
   refine thn_exit ?_
   refine exb_hit ?_
   refine hK_6 _ _ ?_
   refine hK_5 _ _ ?_
   refine w2_sr (fun K_11 hK_11 => ?_)
   refine q_mv ((pm rfl).trans ta_1_3) ?_
   refine q_at (pe hs_1 rfl rfl) ?_
   refine x_nil (hK_11 _ _ ?_)
   refine w2_ret ?_
   refine ret1 rfl hd_1 (pe hs_1 rfl rfl) ?_
   exact ⟨by unfold sizeN; rw [if_neg (by omega), hKe], hW⟩
theorem SizeW_gt (n : Nat) (w : World) (hn : 4096 < n) :
  Calls Try.prog 68 #[.int .i64 ((n : Nat) : Int)] w fun e w' => e = .returned (.int .i64 0) ∧ w = w' := by
 refine x_enter 17 Try.func68 rfl rfl (fun a hs hd ha0 => ?_)
 have t0 : a.eval (.tmp 0) = .int .i64 ((n : Nat) : Int) := ha0 0 _ rfl
 clear ha0
 refine w2_sr (fun K_1 hK_1 => ?_)
 refine q_as (.int .i64 ((0 : Nat) : Int)) rfl ?_
 refine x_nil (hK_1 _ _ ?_)
 refine w2_seq (fun K_2 hK_2 => ?_)
 refine w2_sr (fun K_3 hK_3 => ?_)
 refine q_mv ((pm rfl).trans t0) ?_
 refine q_v 5 (.bool (false)) (o_eq (o_lss (m := n) (n := 0) rfl (pe hs rfl rfl) rfl) (by rw [decide_eq_false (by omega)])) ?_
 refine q_mv (pe hs rfl rfl) ?_
 refine op_valG (e := 6) (d := 7) (v := .int .i64 ((n : Nat) : Int)) rfl rfl (by kernel_rfl) (pe hs rfl rfl) (o_move rfl ((pm rfl).trans t0)) ?_
 refine op_valG (e := 6) (d := 8) (v := .bool (true)) rfl rfl (by kernel_rfl) (pe hs rfl rfl) (o_eq (o_gtr (m := n) (n := 4096) rfl (pe hs rfl rfl) rfl) (by rw [decide_eq_true hn])) ?_
 refine q_v 9 (.bool (true)) (o_pickF rfl (pe hs rfl rfl) (pe hs rfl rfl)) ?_
 refine x_nil (hK_3 _ _ ?_)
 refine w2_condT (pe hs rfl rfl) ?_
 refine w2_sr (fun K_4 hK_4 => ?_)
 refine q_as (.int .i64 ((0 : Nat) : Int)) rfl ?_
 refine x_nil (hK_4 _ _ ?_)
 refine w2_ret ?_
 refine thn_ret ?_
 refine ret1 rfl hd (pe hs rfl rfl) ?_
 exact ⟨rfl, rfl⟩
theorem SizeW_any (n : Nat) (w : World) : Calls Try.prog 68 #[.int .i64 (n : Int)] w fun e w' => e = .returned (.int .i64 ((sizeN n : Nat) : Int)) ∧ w = w' := by
 by_cases h : 4096 < n
 ·have h1 := SizeW_gt n w h
  unfold sizeN
  rw [if_pos h]
  exact h1
 ·exact SizeW_le n w (by omega)
theorem lenL_snoc (q K : Nat) (h : K < 2) : (lenL q).take K ++ [q / 2 ^ (8 * (1 - K)) % 256] = (lenL q).take (K + 1) := by
 rcases (by omega : K = 0 ∨ K = 1) with rfl | rfl
 ·rfl
 ·unfold lenL; simp
/-- So many bytes, high first. -/
def hiN (xs : List Nat) : Nat → Nat
 | 0 => 0
 | K + 1 => hiN xs K * 256 + xs.getD K 0
theorem hi_or (q p : Nat) (hp : p < 256) (hq : q < 65536) : bits .or .u64 ((q * 256 : Nat) : Int) ((p : Nat) : Int) = ((q * 256 + p : Nat) : Int) := by
 rw [u64_or_nat _ _ (by omega) (by omega), Nat.mul_comm q 256]
 congr 1
 exact (Nat.two_pow_add_eq_or_of_lt (i := 8) hp q).symm
theorem PutHighW_two (x : Nat) (w : World) (hx : x < 18446744073709551616) :
  Calls Try.prog 45 #[.int .u64 ((x : Nat) : Int), .int .i64 ((2 : Nat) : Int)] w fun e w' => ∃ A c, e = .returned (.slice A 2 c) ∧ Own w' w.heap.size A c (lenL x) ∧ Below w.heap.size w w' := by
 refine x_enter 25 Try.func45 rfl rfl (fun a hs hd ha0 => ?_)
 have t0 : a.eval (.tmp 0) = .int .u64 ((x : Nat) : Int) := ha0 0 _ rfl
 have t1 : a.eval (.tmp 1) = .int .i64 ((2 : Nat) : Int) := ha0 1 _ rfl
 clear ha0
 refine w2_sr (fun K_1 hK_1 => ?_)
 refine q_as (.slice none (0) (0)) rfl ?_
 refine x_nil (hK_1 _ _ ?_)
 refine w2_sr (fun K_2 hK_2 => ?_)
 refine q_as (.slice none (0) (0)) rfl ?_
 refine x_nil (hK_2 _ _ ?_)
 refine w2_seq (fun K_3 hK_3 => ?_)
 refine w2_sr (fun K_4 hK_4 => ?_)
 refine q_mv (v := .int .i64 ((2 : Nat) : Int)) ((pm rfl).trans t1) ?_
 refine q_v 8 (.int .i64 ((0 : Nat) : Int)) (o_move rfl rfl) ?_
 refine x_nil (hK_4 _ _ ?_)
 refine w2_block (fun K_5 hK_5 => ?_)
 refine x_loop (fun nn aa ww => ∃ (K : Nat) (A1 : Option Addr) (c1 : Nat), nn = 2 - K ∧ aa.tmps.size = 25 ∧ aa.defers = [] ∧ aa.eval (.tmp 0) = .int .u64 ((x : Nat) : Int) ∧ aa.eval (.tmp 1) = .int .i64 ((2 : Nat) : Int) ∧ aa.eval (.tmp 4) = .slice none (0) (0) ∧ aa.eval (.tmp 5) = .slice A1 (K) (c1) ∧ aa.eval (.tmp 7) = .int .i64 ((2 : Nat) : Int) ∧ aa.eval (.tmp 8) = .int .i64 ((K : Nat) : Int) ∧ K ≤ 2 ∧ Own ww w.heap.size A1 c1 ((lenL x).take K) ∧ Below w.heap.size w ww) (2) ?_ ?_
 ·exact ⟨0, none, 0, rfl, (by rw [putsR_size]; exact hs), (by rw [putsR_defers]; exact hd), ((pm rfl).trans t0), ((pm rfl).trans t1), (pe hs rfl rfl), (pe hs rfl rfl), (pe hs rfl rfl), (pe hs rfl rfl), Nat.zero_le _, Own.nil _ _, Below.refl _ _⟩
 ·skip
  clear t0 t1 hd
  rintro nna_1 a_1 w_1 ⟨K, A1, c1, hm_1, hs_1, hd_1, ta_1_0, ta_1_1, ta_1_4, ta_1_5, ta_1_7, ta_1_8, hK, hO, HBL⟩ K_6 hK_6
  subst hm_1
  have hlk : ((lenL x).take K).length = K := by rw [List.length_take, lenL_length]; omega
  refine w2_sr (fun K_7 hK_7 => ?_)
  refine q_v 9 (.bool (decide (K < 2))) (o_lss (m := K) (n := 2) rfl ((pm rfl).trans ta_1_8) ((pm rfl).trans ta_1_7)) ?_
  refine x_nil (hK_7 _ _ ?_)
  refine w2_seq (fun K_8 hK_8 => ?_)
  refine w2_split (pe hs_1 rfl rfl) (fun h_1 => ?_) (fun h_1 => ?_)
  ·simp only [DD9] at h_1
   have hlt : K < 2 := h_1
   refine w2_skip ?_
   refine hK_8 _ _ ?_
   refine w2_seq (fun K_9 hK_9 => ?_)
   refine w2_block (fun K_10 hK_10 => ?_)
   refine w2_sr (fun K_11 hK_11 => ?_)
   refine q_mv ((pm rfl).trans ta_1_8) ?_
   refine q_at (pe hs_1 rfl rfl) ?_
   refine x_nil (hK_11 _ _ ?_)
   refine x_region (by kernel_rfl) ?_
   refine q_mv ((pm rfl).trans ta_1_5) ?_
   refine q_mv ((pm rfl).trans ta_1_0) ?_
   refine q_mv (v := .int .i64 ((2 : Nat) : Int)) ((pm rfl).trans ta_1_1) ?_
   refine q_v 14 (.int .i64 ((1 : Nat) : Int)) (o_eq (o_sub64 (m := 2) (n := 1) rfl (pe hs_1 rfl rfl) rfl (by omega) (by omega)) rfl) ?_
   refine q_mv (pe hs_1 rfl rfl) ?_
   refine q_v 16 (.int .i64 ((1 - K : Nat) : Int)) (o_sub64 (m := 1) (n := K) rfl (pe hs_1 rfl rfl) (pe hs_1 rfl rfl) (by omega) (by omega)) ?_
   refine q_v 17 (.int .i64 ((8 * (1 - K) : Nat) : Int)) (o_mul64 (m := 8) (n := (1 - K)) rfl rfl (pe hs_1 rfl rfl) (by omega)) ?_
   refine q_v 18 (.int .u64 ((8 * (1 - K) : Nat) : Int)) (o_conv (m := (8 * (1 - K))) (r := 8 * (1 - K)) rfl (pe hs_1 rfl rfl) ⟨.int .i64, fun _ => by kernel_rfl⟩ (fun _ => by kernel_rfl) (by rw [IntKind.wrap_u64]; omega)) ?_
   refine q_v 19 (.int .u64 ((x / 2 ^ (8 * (1 - K)) : Nat) : Int)) (o_shr (m := x) (n := (8 * (1 - K))) rfl (pe hs_1 rfl rfl) (pe hs_1 rfl rfl) (by simp [IntKind.bits]; omega)) ?_
   refine q_v 20 (.int .u8 (((x / 2 ^ (8 * (1 - K))) % 256 : Nat) : Int)) (o_conv (m := (x / 2 ^ (8 * (1 - K)))) (r := (x / 2 ^ (8 * (1 - K))) % 256) rfl (pe hs_1 rfl rfl) ⟨.int .u64, fun _ => by kernel_rfl⟩ (fun _ => by kernel_rfl) (by rw [IntKind.wrap_u8]; omega)) ?_
   refine op_ex (d := 21) rfl rfl (o_build1 (m := (x / 2 ^ (8 * (1 - K))) % 256) rfl (pe hs_1 rfl rfl) (Nat.mod_lt _ (by decide))) (fun v_1 w_2 hR_1 => ?_)
   obtain ⟨g_1, rfl, ho_1, hb_1⟩ := hR_1
   replace ho_1 := ho_1.mono HBL.size
   replace hO := hO.nx hb_1
   have HB_1 := below_from HBL hb_1
   refine op_ex (d := 22) rfl rfl (o_append rfl (pe hs_1 rfl rfl) (pe hs_1 rfl rfl) hO (ho_1).bs (by rw [hlk]) (by simp only [List.length_cons, List.length_nil]) (by omega) HB_1.size) (fun v_2 w_3 hR_2 => ?_)
   obtain ⟨A_1, c_1, rfl, ho_2, hb_2, hg_1, hat_1⟩ := hR_2
   have HB_2 : Below w.heap.size w w_3 := (HB_1).trans hb_2
   clear hg_1 hat_1 hO
   refine q_at (pe hs_1 rfl rfl) ?_
   refine x_nil (hK_10 _ _ ?_)
   refine hK_9 _ _ ?_
   refine x_region (by kernel_rfl) ?_
   refine q_v 23 (.int .i64 ((K + 1 : Nat) : Int)) (o_add64 (m := K) (n := 1) rfl ((pm rfl).trans ta_1_8) rfl (by omega)) ?_
   refine q_mv (pe hs_1 rfl rfl) ?_
   refine x_nil ?_
   refine hK_6 _ _ _ ⟨K + 1, A_1, c_1, rfl, (by rw [putsR_size]; exact hs_1), (by rw [putsR_defers]; exact hd_1), ((pm rfl).trans ta_1_0), ((pm rfl).trans ta_1_1), ((pm rfl).trans ta_1_4), (pe hs_1 rfl rfl), ((pm rfl).trans ta_1_7), (pe hs_1 rfl rfl), (by omega), (by have h9 := ho_2; rwa [lenL_snoc x K (by omega)] at h9), HB_2⟩ ?_
   omega
  ·simp only [DD9] at h_1
   obtain rfl : K = 2 := by omega
   refine w2_exit ?_
   refine thn_exit ?_
   refine thn_exit ?_
   refine exb_hit ?_
   refine hK_5 _ _ ?_
   refine hK_3 _ _ ?_
   refine w2_sr (fun K_12 hK_12 => ?_)
   refine q_mv ((pm rfl).trans ta_1_5) ?_
   refine q_at (pe hs_1 rfl rfl) ?_
   refine x_nil (hK_12 _ _ ?_)
   refine w2_ret ?_
   refine ret1 rfl hd_1 (pe hs_1 rfl rfl) ?_
   exact ⟨_, _, rfl, hO, HBL⟩
theorem HighW_two {A : Option Addr} {c q : Nat} {xs : List Nat} (w : World) (h0 : Bs w A c xs) (hq : xs.length = q) :
  Calls Try.prog 74 #[.slice A (q) (c), .int .i64 ((0 : Nat) : Int), .int .i64 ((2 : Nat) : Int)] w fun e w' => e = .returned (.int .u64 ((lenOf xs : Nat) : Int)) ∧ w = w' := by
 refine x_enter 23 Try.func74 rfl rfl (fun a hs hd ha0 => ?_)
 have t0 : a.eval (.tmp 0) = .slice A (q) (c) := ha0 0 _ rfl
 have t1 : a.eval (.tmp 1) = .int .i64 ((0 : Nat) : Int) := ha0 1 _ rfl
 have t2 : a.eval (.tmp 2) = .int .i64 ((2 : Nat) : Int) := ha0 2 _ rfl
 clear ha0
 refine w2_sr (fun K_1 hK_1 => ?_)
 refine q_as (.int .u64 ((0 : Nat) : Int)) rfl ?_
 refine x_nil (hK_1 _ _ ?_)
 refine w2_sr (fun K_2 hK_2 => ?_)
 refine q_as (.int .u64 ((0 : Nat) : Int)) rfl ?_
 refine x_nil (hK_2 _ _ ?_)
 refine w2_seq (fun K_3 hK_3 => ?_)
 refine w2_sr (fun K_4 hK_4 => ?_)
 refine q_mv (v := .int .i64 ((2 : Nat) : Int)) ((pm rfl).trans t2) ?_
 refine q_v 10 (.int .i64 ((0 : Nat) : Int)) (o_move rfl rfl) ?_
 refine x_nil (hK_4 _ _ ?_)
 refine w2_block (fun K_5 hK_5 => ?_)
 refine x_loop (fun nn aa ww => ∃ (K : Nat), nn = 2 - K ∧ aa.tmps.size = 23 ∧ aa.defers = [] ∧ aa.eval (.tmp 0) = .slice A (q) (c) ∧ aa.eval (.tmp 1) = .int .i64 ((0 : Nat) : Int) ∧ aa.eval (.tmp 2) = .int .i64 ((2 : Nat) : Int) ∧ aa.eval (.tmp 6) = .int .u64 ((0 : Nat) : Int) ∧ aa.eval (.tmp 7) = .int .u64 ((hiN xs K : Nat) : Int) ∧ aa.eval (.tmp 9) = .int .i64 ((2 : Nat) : Int) ∧ aa.eval (.tmp 10) = .int .i64 ((K : Nat) : Int) ∧ K ≤ 2 ∧ hiN xs K < 65536 ∧ (K < 2 → hiN xs K < 256) ∧ w = ww) (2) ?_ ?_
 ·exact ⟨0, rfl, (by rw [putsR_size]; exact hs), (by rw [putsR_defers]; exact hd), ((pm rfl).trans t0), ((pm rfl).trans t1), ((pm rfl).trans t2), (pe hs rfl rfl), (pe hs rfl rfl), (pe hs rfl rfl), (pe hs rfl rfl), (Nat.zero_le _), (by show 0 < 65536; decide), (fun _ => by show 0 < 256; decide), rfl⟩
 ·skip
  clear t0 t1 t2 hd
  rintro nna_1 a_1 w_1 ⟨K, hm_1, hs_1, hd_1, ta_1_0, ta_1_1, ta_1_2, ta_1_6, ta_1_7, ta_1_9, ta_1_10, hK, hv, hv2, hW⟩ K_6 hK_6
  subst hm_1
  subst hW
  have hp8 := getD_lt h0.b8 K
  refine w2_sr (fun K_7 hK_7 => ?_)
  refine q_v 11 (.bool (decide (K < 2))) (o_lss (m := K) (n := 2) rfl ((pm rfl).trans ta_1_10) ((pm rfl).trans ta_1_9)) ?_
  refine x_nil (hK_7 _ _ ?_)
  refine w2_seq (fun K_8 hK_8 => ?_)
  refine w2_split (pe hs_1 rfl rfl) (fun h_1 => ?_) (fun h_1 => ?_)
  ·simp only [DD9] at h_1
   have hlt : K < 2 := h_1
   refine w2_skip ?_
   refine hK_8 _ _ ?_
   refine w2_seq (fun K_9 hK_9 => ?_)
   refine w2_block (fun K_10 hK_10 => ?_)
   refine w2_sr (fun K_11 hK_11 => ?_)
   refine q_mv ((pm rfl).trans ta_1_10) ?_
   refine q_at (pe hs_1 rfl rfl) ?_
   refine x_nil (hK_11 _ _ ?_)
   refine x_region (by kernel_rfl) ?_
   refine q_mv ((pm rfl).trans ta_1_7) ?_
   refine q_v 14 (.int .u64 ((hiN xs K * 256 : Nat) : Int)) (o_shl (m := hiN xs K) (n := 8) (hiN xs K * 256) rfl (pe hs_1 rfl rfl) rfl (by decide) (by rw [IntKind.wrap_u64]; have := hv2 hlt; omega)) ?_
   refine q_mv ((pm rfl).trans ta_1_0) ?_
   refine q_mv (v := .int .i64 ((0 : Nat) : Int)) ((pm rfl).trans ta_1_1) ?_
   refine q_mv (pe hs_1 rfl rfl) ?_
   refine q_ca (vs := #[.slice A (q) (c), .int .i64 ((0 : Nat) : Int), .int .i64 ((K : Nat) : Int)]) Try.func92 (args3 (pe hs_1 rfl rfl) (pe hs_1 rfl rfl) (pe hs_1 rfl rfl)) ((by have h9 := atW_any _ h0 hq 0 K (by omega) (by omega); rwa [Nat.zero_add] at h9)) (fun e_1 w_2 hR_1 => ?_)
   obtain ⟨rfl, rfl⟩ := hR_1
   refine ⟨_, rfl, ?_⟩
   refine q_v 19 (.int .u64 ((xs.getD K 0 : Nat) : Int)) (o_conv (m := (xs.getD K 0)) (r := xs.getD K 0) rfl (pe hs_1 rfl rfl) ⟨.int .u8, fun _ => by kernel_rfl⟩ (fun _ => by kernel_rfl) (by rw [IntKind.wrap_u64]; omega)) ?_
   refine q_v 20 (.int .u64 ((hiN xs (K + 1) : Nat) : Int)) (o_bits (m := hiN xs K * 256) (n := xs.getD K 0) (hiN xs (K + 1)) rfl (pe hs_1 rfl rfl) (pe hs_1 rfl rfl) (by decide) (hi_or _ _ hp8 hv)) ?_
   refine q_at (pe hs_1 rfl rfl) ?_
   refine x_nil (hK_10 _ _ ?_)
   refine hK_9 _ _ ?_
   refine x_region (by kernel_rfl) ?_
   refine q_v 21 (.int .i64 ((K + 1 : Nat) : Int)) (o_add64 (m := K) (n := 1) rfl ((pm rfl).trans ta_1_10) rfl (by omega)) ?_
   refine q_mv (pe hs_1 rfl rfl) ?_
   refine x_nil ?_
   refine hK_6 _ _ _ ⟨K + 1, rfl, (by rw [putsR_size]; exact hs_1), (by rw [putsR_defers]; exact hd_1), ((pm rfl).trans ta_1_0), ((pm rfl).trans ta_1_1), ((pm rfl).trans ta_1_2), ((pm rfl).trans ta_1_6), (pe hs_1 rfl rfl), ((pm rfl).trans ta_1_9), (pe hs_1 rfl rfl), (by omega), (by show hiN xs K * 256 + xs.getD K 0 < _; have := hv2 hlt; omega), (fun h => by obtain rfl : K = 0 := (by omega); simp only [hiN]; omega), rfl⟩ ?_
   omega
  ·simp only [DD9] at h_1
   obtain rfl : K = 2 := by omega
   refine w2_exit ?_
   refine thn_exit ?_
   refine thn_exit ?_
   refine exb_hit ?_
   refine hK_5 _ _ ?_
   refine hK_3 _ _ ?_
   refine w2_sr (fun K_12 hK_12 => ?_)
   refine q_mv ((pm rfl).trans ta_1_7) ?_
   refine q_at (pe hs_1 rfl rfl) ?_
   refine x_nil (hK_12 _ _ ?_)
   refine w2_ret ?_
   refine ret1 rfl hd_1 (pe hs_1 rfl rfl) ?_
   exact ⟨by rw [show hiN xs 2 = lenOf xs by unfold lenOf; show (0 * 256 + _) * 256 + _ = _; rw [Nat.zero_mul, Nat.zero_add]], rfl⟩
theorem JoinW_any {ps : List Part} {gs : Nat} (w : World) (hB : Blk w gs (ps.map Part.val).toArray 22) (hP : ∀ p ∈ ps, Bs w p.A p.c p.xs) (hl : (joinP ps ps.length).length ≤ 70368744177664) (hl2 : ps.length ≤ 4611686018427387904) :
  Calls Try.prog 47 #[.slice ((some ⟨gs, 0, none⟩)) (ps.length) (ps.length)] w fun e w' => ∃ A c, e = .returned (.slice A (joinP ps ps.length).length c) ∧ Own w' w.heap.size A c (joinP ps ps.length) ∧ Below w.heap.size w w' := by
 refine x_enter 5 Try.func47 rfl rfl (fun a hs hd ha0 => ?_)
 have t0 : a.eval (.tmp 0) = .slice ((some ⟨gs, 0, none⟩)) (ps.length) (ps.length) := ha0 0 _ rfl
 clear ha0
 refine w2_sr (fun K_1 hK_1 => ?_)
 refine q_as (.slice none (0) (0)) rfl ?_
 refine x_nil (hK_1 _ _ ?_)
 refine w2_sr (fun K_2 hK_2 => ?_)
 refine q_mv ((pm rfl).trans t0) ?_
 refine q_ca (vs := #[.slice ((some ⟨gs, 0, none⟩)) (ps.length) (ps.length)]) Try.func61 (args1 (pe hs rfl rfl)) (joinW_any _ hB hP hl hl2) (fun e_1 w_1 hR_1 => ?_)
 obtain ⟨A_1, c_1, rfl, ho_1, hb_1⟩ := hR_1
 refine ⟨_, rfl, ?_⟩
 refine q_at (pe hs rfl rfl) ?_
 refine x_nil (hK_2 _ _ ?_)
 refine w2_ret ?_
 refine ret1 rfl hd (pe hs rfl rfl) ?_
 exact ⟨_, _, rfl, ho_1, hb_1⟩
theorem JoinW2 {A1 A2 : Option Addr} {c1 n1 c2 n2 gs : Nat} {x1 x2 : List Nat} (w : World) (hB : Blk w gs #[.slice A1 n1 c1, .slice A2 n2 c2] 22) (h1 : Bs w A1 c1 x1) (e1 : x1.length = n1) (h2 : Bs w A2 c2 x2) (e2 : x2.length = n2) (hl : n1 + n2 ≤ 70368744177664) :
  Calls Try.prog 47 #[.slice (some ⟨gs, 0, none⟩) 2 2] w fun e w' => ∃ A c, e = .returned (.slice A (n1 + n2) c) ∧ Own w' w.heap.size A c (x1 ++ x2) ∧ Below w.heap.size w w' := by
 subst e1 e2
 have hj : joinP [⟨A1, c1, x1⟩, ⟨A2, c2, x2⟩] 2 = x1 ++ x2 := by simp [joinP, Part.at]
 have h := JoinW_any (ps := [⟨A1, c1, x1⟩, ⟨A2, c2, x2⟩]) (gs := gs) w hB (by intro p hp; simp only [List.mem_cons, List.not_mem_nil, or_false] at hp; rcases hp with rfl | rfl <;> assumption) (by show (joinP _ 2).length ≤ _; rw [hj]; simp only [List.length_append]; omega) (by simp)
 have hlen : (joinP [⟨A1, c1, x1⟩, ⟨A2, c2, x2⟩] 2).length = x1.length + x2.length := by rw [hj]; simp only [List.length_append]
 simp only [List.length_cons, List.length_nil, Nat.zero_add, Nat.reduceAdd] at h
 rw [hlen, hj] at h
 exact h
theorem WrapW_any {A0 : Option Addr} {c0 q : Nat} {bs : List Nat} (w : World) (h0 : Bs w A0 c0 bs) (hq : bs.length = q) (hl : q ≤ 4096) :
  Calls Try.prog 43 #[.slice A0 (q) (c0)] w fun e w' => ∃ A c, e = .returned (.tuple #[.slice A (sizeN q) c, .int .i64 0]) ∧ Own w' w.heap.size A c (wrapL bs) ∧ Below w.heap.size w w' := by
 have hs := sizeN_pos hl
 have hs2 := sizeN_top q
 have hs3 := sizeN_fit hl
 refine x_enter 23 Try.func43 rfl rfl (fun a hs hd ha0 => ?_)
 have t0 : a.eval (.tmp 0) = .slice A0 (q) (c0) := ha0 0 _ rfl
 clear ha0
 refine w2_sr (fun K_1 hK_1 => ?_)
 refine q_as (.slice none (0) (0)) rfl ?_
 refine q_as (.int .i64 ((0 : Nat) : Int)) rfl ?_
 refine x_nil (hK_1 _ _ ?_)
 refine w2_seq (fun K_2 hK_2 => ?_)
 refine w2_sr (fun K_3 hK_3 => ?_)
 refine q_mv ((pm rfl).trans t0) ?_
 refine q_v 6 (.int .i64 ((q : Nat) : Int)) (o_len rfl (pe hs rfl rfl)) ?_
 refine q_v 7 (.bool (false)) (o_eq (o_gtr (m := q) (n := 4096) rfl (pe hs rfl rfl) rfl) (by rw [decide_eq_false (by omega)])) ?_
 refine x_nil (hK_3 _ _ ?_)
 refine w2_condF (pe hs rfl rfl) ?_
 refine w2_skip ?_
 refine hK_2 _ _ ?_
 refine w2_sr (fun K_4 hK_4 => ?_)
 refine q_mv ((pm rfl).trans t0) ?_
 refine q_v 9 (.int .i64 ((q : Nat) : Int)) (o_len rfl (pe hs rfl rfl)) ?_
 refine q_v 10 (.int .u64 ((q : Nat) : Int)) (o_conv (m := q) (r := q) rfl (pe hs rfl rfl) ⟨.int .i64, fun _ => by kernel_rfl⟩ (fun _ => by kernel_rfl) (by rw [IntKind.wrap_u64]; omega)) ?_
 refine q_ca (vs := #[.int .u64 ((q : Nat) : Int), .int .i64 ((2 : Nat) : Int)]) Try.func45 (args2 (pe hs rfl rfl) rfl) (PutHighW_two q _ (by omega)) (fun e_1 w_1 hR_1 => ?_)
 obtain ⟨A_1, c_1, rfl, ho_1, hb_1⟩ := hR_1
 refine ⟨_, rfl, ?_⟩
 refine q_mv ((pm rfl).trans t0) ?_
 refine op_ex (d := 13) rfl rfl (o_bldS (vs := #[(0, .slice A_1 (2) (c_1)), (1, .slice A0 (q) (c0))]) (cs := #[.slice A_1 (2) (c_1), .slice A0 (q) (c0)]) (e := 22) rfl (bld2 (pe hs rfl rfl) (pe hs rfl rfl)) (fun _ => by kernel_rfl)) (fun v_1 w_2 hR_2 => ?_)
 obtain ⟨g_1, rfl, hle_1, hB_1, hb_2⟩ := hR_2
 replace ho_1 := ho_1.nx hb_2
 have HB_1 := below_from hb_1 hb_2
 refine q_ca (vs := #[.slice ((some ⟨g_1, 0, none⟩)) (2) (2)]) Try.func47 (args1 (pe hs rfl rfl)) (JoinW2 _ hB_1 (ho_1).bs (by simp only [lenL_length]) (h0.below HB_1) hq (by omega)) (fun e_2 w_3 hR_3 => ?_)
 obtain ⟨A_2, c_2, rfl, ho_2, hb_3⟩ := hR_3
 replace ho_2 := ho_2.mono HB_1.size
 have HB_2 := below_from HB_1 hb_3
 refine ⟨_, rfl, ?_⟩
 refine q_at (pe hs rfl rfl) ?_
 refine x_nil (hK_4 _ _ ?_)
 refine w2_sr (fun K_5 hK_5 => ?_)
 refine q_mv (pe hs rfl rfl) ?_
 refine q_mv ((pm rfl).trans t0) ?_
 refine q_v 17 (.int .i64 ((q : Nat) : Int)) (o_len rfl (pe hs rfl rfl)) ?_
 refine q_ca (vs := #[.int .i64 ((q : Nat) : Int)]) Try.func68 (args1 (pe hs rfl rfl)) (SizeW_any _ _) (fun e_3 w_4 hR_4 => ?_)
 obtain ⟨rfl, rfl⟩ := hR_4
 refine ⟨_, rfl, ?_⟩
 refine q_mv (pe hs rfl rfl) ?_
 refine q_v 20 (.int .i64 ((2 + q : Nat) : Int)) (o_len rfl (pe hs rfl rfl)) ?_
 refine q_v 21 (.int .i64 (((sizeN q) - (2 + q) : Nat) : Int)) (o_sub64 (m := (sizeN q)) (n := (2 + q)) rfl (pe hs rfl rfl) (pe hs rfl rfl) (by omega) (by omega)) ?_
 refine op_ex (d := 22) rfl rfl (o_appendZ (m := (sizeN q) - (2 + q)) rfl (pe hs rfl rfl) (pe hs rfl rfl) ho_2 (by simp only [List.length_append, lenL_length, hq]) (by omega) HB_2.size) (fun v_2 w_5 hR_5 => ?_)
 obtain ⟨A_3, c_3, rfl, ho_3, hb_5, hg_1, hat_1⟩ := hR_5
 have HB_3 : Below w.heap.size w w_5 := (HB_2).trans hb_5
 clear hg_1 hat_1 ho_2
 refine q_at (pe hs rfl rfl) ?_
 refine q_as (.int .i64 ((0 : Nat) : Int)) rfl ?_
 refine x_nil (hK_5 _ _ ?_)
 refine w2_ret ?_
 refine ret2 rfl hd (pe hs rfl rfl) (pe hs rfl rfl) ?_
 exact ⟨A_3, c_3, by rw [show 2 + q + (sizeN q - (2 + q)) = sizeN q by omega]; rfl, by (unfold wrapL; rw [hq, Nat.sub_sub]; exact ho_3), HB_3⟩
theorem WrapW_gt {A0 : Option Addr} {c0 q : Nat} {bs : List Nat} (w : World) (h0 : Bs w A0 c0 bs) (hq : bs.length = q) (hl : 4096 < q) :
  Calls Try.prog 43 #[.slice A0 (q) (c0)] w fun e w' => e = .returned (.tuple #[.slice none 0 0, .int .i64 7]) ∧ w = w' := by
 refine x_enter 23 Try.func43 rfl rfl (fun a hs hd ha0 => ?_)
 have t0 : a.eval (.tmp 0) = .slice A0 (q) (c0) := ha0 0 _ rfl
 clear ha0
 refine w2_sr (fun K_1 hK_1 => ?_)
 refine q_as (.slice none (0) (0)) rfl ?_
 refine q_as (.int .i64 ((0 : Nat) : Int)) rfl ?_
 refine x_nil (hK_1 _ _ ?_)
 refine w2_seq (fun K_2 hK_2 => ?_)
 refine w2_sr (fun K_3 hK_3 => ?_)
 refine q_mv ((pm rfl).trans t0) ?_
 refine q_v 6 (.int .i64 ((q : Nat) : Int)) (o_len rfl (pe hs rfl rfl)) ?_
 refine q_v 7 (.bool (true)) (o_eq (o_gtr (m := q) (n := 4096) rfl (pe hs rfl rfl) rfl) (by rw [decide_eq_true hl])) ?_
 refine x_nil (hK_3 _ _ ?_)
 refine w2_condT (pe hs rfl rfl) ?_
 refine w2_sr (fun K_4 hK_4 => ?_)
 refine q_as (.slice none (0) (0)) rfl ?_
 refine q_as (.int .i64 ((7 : Nat) : Int)) rfl ?_
 refine x_nil (hK_4 _ _ ?_)
 refine w2_ret ?_
 refine thn_ret ?_
 refine ret2 rfl hd (pe hs rfl rfl) (pe hs rfl rfl) ?_
 exact ⟨rfl, rfl⟩
theorem UnwrapW_any {A0 : Option Addr} {c0 q : Nat} {bs : List Nat} (w : World) (h0 : Bs w A0 c0 bs) (hq : bs.length = q) (hl : q ≤ 100000) (hsh : 2 ≤ q) :
  Calls Try.prog 75 #[.slice A0 (q) (c0)] w fun e w' => (unwrapL bs = none ∧ e = .returned (.tuple #[.slice none 0 0, .int .i64 3]) ∧ Below w.heap.size w w') ∨ (∃ (b : List Nat) (A : Option Addr) (c : Nat), unwrapL bs = some b ∧ e = .returned (.tuple #[.slice A b.length c, .int .i64 0]) ∧ Own w' w.heap.size A c b ∧ Below w.heap.size w w') := by
 have b0 := getD_lt h0.b8 0
 have b1 := getD_lt h0.b8 1
 have hlo : lenOf bs < 65536 := by unfold lenOf; omega
 refine x_enter 35 Try.func75 rfl rfl (fun a hs hd ha0 => ?_)
 have t0 : a.eval (.tmp 0) = .slice A0 (q) (c0) := ha0 0 _ rfl
 clear ha0
 refine w2_sr (fun K_1 hK_1 => ?_)
 refine q_as (.slice none (0) (0)) rfl ?_
 refine q_as (.int .i64 ((0 : Nat) : Int)) rfl ?_
 refine x_nil (hK_1 _ _ ?_)
 refine w2_seq (fun K_2 hK_2 => ?_)
 refine w2_sr (fun K_3 hK_3 => ?_)
 refine q_mv ((pm rfl).trans t0) ?_
 refine q_v 8 (.int .i64 ((q : Nat) : Int)) (o_len rfl (pe hs rfl rfl)) ?_
 refine q_v 9 (.bool (false)) (o_eq (o_lss (m := q) (n := 2) rfl (pe hs rfl rfl) rfl) (by rw [decide_eq_false (by omega)])) ?_
 refine x_nil (hK_3 _ _ ?_)
 refine w2_condF (pe hs rfl rfl) ?_
 refine w2_skip ?_
 refine hK_2 _ _ ?_
 refine w2_sr (fun K_4 hK_4 => ?_)
 refine q_mv ((pm rfl).trans t0) ?_
 refine q_ca (vs := #[.slice A0 (q) (c0), .int .i64 ((0 : Nat) : Int), .int .i64 ((2 : Nat) : Int)]) Try.func74 (args3 (pe hs rfl rfl) rfl rfl) (HighW_two _ h0 hq) (fun e_1 w_1 hR_1 => ?_)
 obtain ⟨rfl, rfl⟩ := hR_1
 refine ⟨_, rfl, ?_⟩
 refine q_v 12 (.int .i64 ((lenOf bs : Nat) : Int)) (o_conv (m := (lenOf bs)) (r := lenOf bs) rfl (pe hs rfl rfl) ⟨.int .u64, fun _ => by kernel_rfl⟩ (fun _ => by kernel_rfl) (IntWalk.i64_in _ (by omega))) ?_
 refine q_at (pe hs rfl rfl) ?_
 refine x_nil (hK_4 _ _ ?_)
 refine w2_seq (fun K_5 hK_5 => ?_)
 refine w2_sr (fun K_6 hK_6 => ?_)
 refine q_mv (pe hs rfl rfl) ?_
 refine q_ca (vs := #[.int .i64 ((lenOf bs : Nat) : Int)]) Try.func68 (args1 (pe hs rfl rfl)) (SizeW_any _ _) (fun e_2 w_2 hR_2 => ?_)
 obtain ⟨rfl, rfl⟩ := hR_2
 refine ⟨_, rfl, ?_⟩
 refine q_mv ((pm rfl).trans t0) ?_
 refine q_v 16 (.int .i64 ((q : Nat) : Int)) (o_len rfl (pe hs rfl rfl)) ?_
 refine q_v 17 (.bool (!decide ((sizeN (lenOf bs)) = q))) (o_neq (m := (sizeN (lenOf bs))) (n := q) rfl (pe hs rfl rfl) (pe hs rfl rfl)) ?_
 refine x_nil (hK_6 _ _ ?_)
 refine w2_split (pe hs rfl rfl) (fun h_1 => ?_) (fun h_1 => ?_)
 ·simp only [DD9] at h_1
  have hsz := h_1
  refine w2_sr (fun K_7 hK_7 => ?_)
  refine q_as (.slice none (0) (0)) rfl ?_
  refine q_as (.int .i64 ((3 : Nat) : Int)) rfl ?_
  refine x_nil (hK_7 _ _ ?_)
  refine w2_ret ?_
  refine thn_ret ?_
  refine ret2 rfl hd (pe hs rfl rfl) (pe hs rfl rfl) ?_
  exact .inl ⟨unwrap_size (by rw [hq]; exact fun h => hsz h.symm), rfl, Below.refl _ _⟩
 ·simp only [DD9] at h_1
  have hsz : q = sizeN (lenOf bs) := by have h9 := h_1; omega
  obtain ⟨hn4, hfit⟩ := unwrap_fit (by rw [hq]; exact hsh) (by rw [hq]; exact hsz)
  rw [hq] at hfit
  refine w2_skip ?_
  refine hK_5 _ _ ?_
  refine w2_seq (fun K_8 hK_8 => ?_)
  refine w2_sr (fun K_9 hK_9 => ?_)
  refine q_mv ((pm rfl).trans t0) ?_
  refine q_mv (pe hs rfl rfl) ?_
  refine q_v 20 (.int .i64 ((2 + (lenOf bs) : Nat) : Int)) (o_add64 (m := 2) (n := (lenOf bs)) rfl rfl (pe hs rfl rfl) (by omega)) ?_
  refine q_v 21 (.slice ((subA A0 (2 + (lenOf bs)) c0)) (q - (2 + (lenOf bs))) (c0 - (2 + (lenOf bs)))) (o_sliceL (l := 2 + (lenOf bs)) rfl (pe hs rfl rfl) (pe hs rfl rfl) (by omega)) ?_
  refine q_v 22 (.int .i64 ((q - (2 + (lenOf bs)) : Nat) : Int)) (o_len rfl (pe hs rfl rfl)) ?_
  refine q_v 23 (.int .i64 ((0 : Nat) : Int)) (o_move rfl rfl) ?_
  refine x_nil ?_
  have hS : Bs w (subA A0 (2 + lenOf bs) c0) (c0 - (2 + lenOf bs)) (bs.drop (2 + lenOf bs)) := by
   have h := Bs.sub h0 (l := 2 + lenOf bs) (q := q) (m := c0) (by omega) (by rw [← hq]; exact h0.le) (Nat.le_refl _)
   rwa [List.take_of_length_le (by rw [List.length_drop]; omega)] at h
  have hSl : (bs.drop (2 + lenOf bs)).length = q - (2 + lenOf bs) := by rw [List.length_drop, hq]
  refine hK_9 _ _ ?_
  refine w2_block (fun K_10 hK_10 => ?_)
  refine x_loop (fun nn aa ww => ∃ (K : Nat), nn = q - (2 + lenOf bs) - K ∧ aa.tmps.size = 35 ∧ aa.defers = [] ∧ aa.eval (.tmp 0) = .slice A0 (q) (c0) ∧ aa.eval (.tmp 4) = .int .i64 ((lenOf bs : Nat) : Int) ∧ aa.eval (.tmp 7) = .slice A0 (q) (c0) ∧ aa.eval (.tmp 8) = .int .i64 ((q : Nat) : Int) ∧ aa.eval (.tmp 9) = .bool (false) ∧ aa.eval (.tmp 10) = .slice A0 (q) (c0) ∧ aa.eval (.tmp 11) = .int .u64 ((lenOf bs : Nat) : Int) ∧ aa.eval (.tmp 12) = .int .i64 ((lenOf bs : Nat) : Int) ∧ aa.eval (.tmp 13) = .int .i64 ((lenOf bs : Nat) : Int) ∧ aa.eval (.tmp 14) = .int .i64 ((sizeN (lenOf bs) : Nat) : Int) ∧ aa.eval (.tmp 15) = .slice A0 (q) (c0) ∧ aa.eval (.tmp 16) = .int .i64 ((q : Nat) : Int) ∧ aa.eval (.tmp 17) = .bool (!decide ((sizeN (lenOf bs)) = q)) ∧ aa.eval (.tmp 18) = .slice A0 (q) (c0) ∧ aa.eval (.tmp 19) = .int .i64 ((lenOf bs : Nat) : Int) ∧ aa.eval (.tmp 20) = .int .i64 ((2 + (lenOf bs) : Nat) : Int) ∧ aa.eval (.tmp 21) = .slice ((subA A0 (2 + (lenOf bs)) c0)) (q - (2 + (lenOf bs))) (c0 - (2 + (lenOf bs))) ∧ aa.eval (.tmp 22) = .int .i64 ((q - (2 + (lenOf bs)) : Nat) : Int) ∧ aa.eval (.tmp 23) = .int .i64 ((K : Nat) : Int) ∧ K ≤ q - (2 + lenOf bs) ∧ (∀ j, j < K → (bs.drop (2 + lenOf bs)).getD j 0 = 0) ∧ w = ww) (q - (2 + lenOf bs)) ?_ ?_
  ·exact ⟨0, rfl, (by rw [putsR_size]; exact hs), (by rw [putsR_defers]; exact hd), ((pm rfl).trans t0), (pe hs rfl rfl), (pe hs rfl rfl), (pe hs rfl rfl), (pe hs rfl rfl), (pe hs rfl rfl), (pe hs rfl rfl), (pe hs rfl rfl), (pe hs rfl rfl), (pe hs rfl rfl), (pe hs rfl rfl), (pe hs rfl rfl), (pe hs rfl rfl), (pe hs rfl rfl), (pe hs rfl rfl), (pe hs rfl rfl), (pe hs rfl rfl), (pe hs rfl rfl), (pe hs rfl rfl), Nat.zero_le _, (fun j hj => absurd hj (by omega)), rfl⟩
  ·skip
   clear t0 hd
   rintro nna_1 a_1 w_3 ⟨K, hm_1, hs_1, hd_1, ta_1_0, ta_1_4, ta_1_7, ta_1_8, ta_1_9, ta_1_10, ta_1_11, ta_1_12, ta_1_13, ta_1_14, ta_1_15, ta_1_16, ta_1_17, ta_1_18, ta_1_19, ta_1_20, ta_1_21, ta_1_22, ta_1_23, hK, hz, hW⟩ K_11 hK_11
   subst hm_1
   subst hW
   refine w2_sr (fun K_12 hK_12 => ?_)
   refine q_v 24 (.bool (decide (K < (q - (2 + (lenOf bs)))))) (o_lss (m := K) (n := (q - (2 + (lenOf bs)))) rfl ((pm rfl).trans ta_1_23) ((pm rfl).trans ta_1_22)) ?_
   refine x_nil (hK_12 _ _ ?_)
   refine w2_seq (fun K_13 hK_13 => ?_)
   refine w2_split (pe hs_1 rfl rfl) (fun h_2 => ?_) (fun h_2 => ?_)
   ·simp only [DD9] at h_2
    have hlt : K < q - (2 + lenOf bs) := h_2
    refine w2_skip ?_
    refine hK_13 _ _ ?_
    refine w2_seq (fun K_14 hK_14 => ?_)
    refine w2_block (fun K_15 hK_15 => ?_)
    refine w2_sr (fun K_16 hK_16 => ?_)
    refine q_v 25 (.pointer (atA ((subA A0 (2 + (lenOf bs)) c0)) (K))) (o_ix (k := K) rfl ((pm rfl).trans ta_1_21) ((pm rfl).trans ta_1_23) (by omega) (hS.some (by rw [hSl]; omega))) ?_
    refine q_v 26 (.int .u8 (((bs.drop (2 + lenOf bs)).getD (K) 0 : Nat) : Int)) (o_ld8 rfl (pe hs_1 rfl rfl) hS (by rw [hSl]; omega) rfl) ?_
    refine q_at (pe hs_1 rfl rfl) ?_
    refine x_nil (hK_16 _ _ ?_)
    refine w2_sr (fun K_17 hK_17 => ?_)
    refine q_mv (pe hs_1 rfl rfl) ?_
    refine q_v 28 (.bool (!decide (((bs.drop (2 + lenOf bs)).getD (K) 0) = 0))) (o_neq (m := ((bs.drop (2 + lenOf bs)).getD (K) 0)) (n := 0) rfl (pe hs_1 rfl rfl) rfl) ?_
    refine x_nil (hK_17 _ _ ?_)
    refine w2_split (pe hs_1 rfl rfl) (fun h_3 => ?_) (fun h_3 => ?_)
    ·simp only [DD9] at h_3
     have hb0 : ¬ (bs.drop (2 + lenOf bs)).getD K 0 = 0 := h_3
     refine w2_sr (fun K_18 hK_18 => ?_)
     refine q_as (.slice none (0) (0)) rfl ?_
     refine q_as (.int .i64 ((3 : Nat) : Int)) rfl ?_
     refine x_nil (hK_18 _ _ ?_)
     refine w2_ret ?_
     refine exb_ret ?_
     refine thn_ret ?_
     refine thn_ret ?_
     refine exb_ret ?_
     refine thn_ret ?_
     refine ret2 rfl hd_1 (pe hs_1 rfl rfl) (pe hs_1 rfl rfl) ?_
     exact .inl ⟨unwrap_bad (by rw [hq]; exact hsh) (by rw [hq]; exact hsz) (by rw [hSl]; exact hlt) hb0, rfl, Below.refl _ _⟩
    ·simp only [DD9] at h_3
     have hb0 : (bs.drop (2 + lenOf bs)).getD K 0 = 0 := by have h9 := h_3; omega
     refine w2_skip ?_
     refine hK_15 _ _ ?_
     refine hK_14 _ _ ?_
     refine x_region (by kernel_rfl) ?_
     refine q_v 29 (.int .i64 ((K + 1 : Nat) : Int)) (o_add64 (m := K) (n := 1) rfl ((pm rfl).trans ta_1_23) rfl (by omega)) ?_
     refine q_mv (pe hs_1 rfl rfl) ?_
     refine x_nil ?_
     refine hK_11 _ _ _ ⟨K + 1, rfl, (by rw [putsR_size]; exact hs_1), (by rw [putsR_defers]; exact hd_1), ((pm rfl).trans ta_1_0), ((pm rfl).trans ta_1_4), ((pm rfl).trans ta_1_7), ((pm rfl).trans ta_1_8), ((pm rfl).trans ta_1_9), ((pm rfl).trans ta_1_10), ((pm rfl).trans ta_1_11), ((pm rfl).trans ta_1_12), ((pm rfl).trans ta_1_13), ((pm rfl).trans ta_1_14), ((pm rfl).trans ta_1_15), ((pm rfl).trans ta_1_16), ((pm rfl).trans ta_1_17), ((pm rfl).trans ta_1_18), ((pm rfl).trans ta_1_19), ((pm rfl).trans ta_1_20), ((pm rfl).trans ta_1_21), ((pm rfl).trans ta_1_22), (pe hs_1 rfl rfl), (by omega), (fun j hj => by rcases Nat.lt_or_ge j K with h9 | h9; (exact hz j h9); (obtain rfl : j = K := by omega); exact hb0), rfl⟩ ?_
     omega
   ·simp only [DD9] at h_2
    obtain rfl : K = q - (2 + lenOf bs) := by omega
    refine w2_exit ?_
    refine thn_exit ?_
    refine thn_exit ?_
    refine exb_hit ?_
    refine hK_10 _ _ ?_
    refine hK_8 _ _ ?_
    refine w2_seq (fun K_19 hK_19 => ?_)
    have hT : Bs w (subA A0 2 c0) (c0 - 2) ((bs.drop 2).take (2 + lenOf bs - 2)) := Bs.sub h0 (by omega) (by have := h0.le; omega) (Nat.le_refl _)
    have hTl : ((bs.drop 2).take (2 + lenOf bs - 2)).length = 2 + lenOf bs - 2 := by rw [List.length_take, List.length_drop, hq]; omega
    refine x_region (by kernel_rfl) ?_
    refine q_mv ((pm rfl).trans ta_1_0) ?_
    refine q_mv ((pm rfl).trans ta_1_4) ?_
    refine q_v 32 (.int .i64 ((2 + (lenOf bs) : Nat) : Int)) (o_add64 (m := 2) (n := (lenOf bs)) rfl rfl (pe hs_1 rfl rfl) (by omega)) ?_
    refine q_v 33 (.slice ((subA A0 2 c0)) ((2 + (lenOf bs)) - 2) (c0 - 2)) (o_slice2 (l := 2) (h := 2 + (lenOf bs)) rfl (pe hs_1 rfl rfl) rfl (pe hs_1 rfl rfl) (by omega) (by have := h0.le; omega)) ?_
    refine op_ex (d := 34) rfl rfl (o_append rfl rfl (pe hs_1 rfl rfl) (Own.nil w w.heap.size) hT rfl hTl (by omega) (Nat.le_refl _)) (fun v_1 w_4 hR_3 => ?_)
    obtain ⟨A_1, c_1, rfl, ho_1, hb_3, hg_1, hat_1⟩ := hR_3
    have HB_1 : Below w.heap.size w w_4 := hb_3
    clear hg_1 hat_1 
    refine q_at (pe hs_1 rfl rfl) ?_
    refine q_as (.int .i64 ((0 : Nat) : Int)) rfl ?_
    refine x_nil (hK_19 _ _ ?_)
    refine w2_ret ?_
    refine ret2 rfl hd_1 (pe hs_1 rfl rfl) (pe hs_1 rfl rfl) ?_
    refine .inr ⟨_, A_1, c_1, unwrap_good (by rw [hq]; exact hsh) (by rw [hq]; exact hsz) (fun j hj => hz j (by rw [hSl] at hj; exact hj)), ?_, ?_, HB_1⟩
    ·rw [List.length_take, List.length_drop, hq, Nat.min_eq_left (by omega), show 0 + (2 + lenOf bs - 2) = lenOf bs by omega]
     rfl
    ·have h9 := ho_1
     rwa [List.nil_append, show 2 + lenOf bs - 2 = lenOf bs by omega] at h9
theorem UnwrapW_none {A0 : Option Addr} {c0 q : Nat} {bs : List Nat} (w : World) (h0 : Bs w A0 c0 bs) (hq : bs.length = q) (hl : q ≤ 100000) (hsh : 2 ≤ q) (hu : unwrapL bs = none) :
  Calls Try.prog 75 #[.slice A0 q c0] w fun e w' => e = .returned (.tuple #[.slice none 0 0, .int .i64 ((3 : Nat) : Int)]) ∧ Below w.heap.size w w' := by
 refine Calls.mono (UnwrapW_any w h0 hq hl hsh) ?_
 rintro e w' (⟨_, he, hb⟩ | ⟨b, A, c, h, _⟩)
 ·exact ⟨he, hb⟩
 ·rw [hu] at h; cases h
theorem UnwrapW_some {A0 : Option Addr} {c0 q : Nat} {bs b : List Nat} (w : World) (h0 : Bs w A0 c0 bs) (hq : bs.length = q) (hl : q ≤ 100000) (hsh : 2 ≤ q) (hu : unwrapL bs = some b) :
  Calls Try.prog 75 #[.slice A0 q c0] w fun e w' => ∃ A c, e = .returned (.tuple #[.slice A b.length c, .int .i64 ((0 : Nat) : Int)]) ∧ Own w' w.heap.size A c b ∧ Below w.heap.size w w' := by
 refine Calls.mono (UnwrapW_any w h0 hq hl hsh) ?_
 rintro e w' (⟨h, _⟩ | ⟨b', A, c, h, he, hO, hb⟩)
 ·rw [hu] at h; cases h
 ·rw [hu] at h; cases h
  exact ⟨A, c, he, hO, hb⟩
end Go.Proofs.Ytggalcdkfielkaa
