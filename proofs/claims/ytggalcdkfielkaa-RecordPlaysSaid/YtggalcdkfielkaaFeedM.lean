/-
 Wr · Rdrs · Feed, IN ONE TEXT.
-/
import Derived.Test.YtggalcdkfielkaaCiph
import Derived.Test.YtggalcdkfielkaaPads
import Derived.Scope
/-
 WALKS: record: a counter, a writer.
-/
namespace Go.Proofs.Ytggalcdkfielkaa
open Go.RowKit
set_option linter.unusedVariables false
set_option linter.unusedSimpArgs false
set_option maxRecDepth 100000
attribute [local irreducible] wpList wpListIn putsR

theorem Own.keep2 {w w' : World} {B c gw gc n : Nat} {A : Option Addr} {xs : List Nat} {cur : Array Value} {T : TypeId} {N : Nat → Prop} {k : List Nat} (h : Own w B A c xs) (hB : Blk w gw cur T) (hT : T ≠ 5) (hC : CipherAt w N gc k n) (hb : BelowX (fun j => j = gw ∨ j = gc) w w') : Own w' B A c xs := by
 obtain ⟨cu, hc⟩ := hC.blk
 exact h.keepM hb (fun j hj e => e.elim (fun e => h.sepB hB hT (e ▸ hj)) (fun e => h.sepB hc (by decide) (e ▸ hj)))
theorem Wt.keep2 {w w' : World} {c gw gc n : Nat} {A : Option Addr} {xs : List Nat} {cur : Array Value} {T : TypeId} {N : Nat → Prop} {k : List Nat} (h : Wt w A c xs) (hB : Blk w gw cur T) (hT : T ≠ 5) (hC : CipherAt w N gc k n) (hb : BelowX (fun j => j = gw ∨ j = gc) w w') : Wt w' A c xs := by
 obtain ⟨cu, hc⟩ := hC.blk
 exact h.keep (hb.kept h.lt (fun j hj e => e.elim (fun e => h.sepB hB hT (e ▸ hj)) (fun e => h.sepB hc (by decide) (e ▸ hj))))
theorem RowS.keep2 {w w' : World} {B c gw gc n : Nat} {A : Option Addr} {ps : List Part} {cur : Array Value} {T : TypeId} {N : Nat → Prop} {k : List Nat} (h : RowS w B A c ps) (hB : Blk w gw cur T) (hT : T ≠ 22) (hC : CipherAt w N gc k n) (hb : BelowX (fun j => j = gw ∨ j = gc) w w') : RowS w' B A c ps := by
 obtain ⟨cu, hc⟩ := hC.blk
 exact h.keep (hb.kept h.lt (fun j hj e => e.elim (fun e => h.sepB hB hT (e ▸ hj)) (fun e => h.sepB hc (by decide) (e ▸ hj))))
theorem AllOwn.keep2 {w w' : World} {B gw gc n : Nat} {ps : List Part} {cur : Array Value} {T : TypeId} {N : Nat → Prop} {k : List Nat} (h : AllOwn w B ps) (hB : Blk w gw cur T) (hT : T ≠ 5) (hC : CipherAt w N gc k n) (hb : BelowX (fun j => j = gw ∨ j = gc) w w') : AllOwn w' B ps := fun p hp => (h p hp).keep2 hB hT hC hb
def everyN (z : Int) : Nat := (max 1 (min z 4294967296)).toNat
theorem everyN_pos (z : Int) : 1 ≤ everyN z := by unfold everyN; omega
theorem everyN_le (z : Int) : everyN z ≤ 4294967296 := by unfold everyN; omega
/-- A writer lies at gw, its cipher at gc; M: all their blocks. -/
structure WriterAt (w : World) (M : Nat → Prop) (gw gc : Nat) (co : Co) : Prop where
 lt : Lt w M
 every : 1 ≤ co.every ∧ co.every ≤ 4294967296
 row : ∃ N, CipherAt w N gc co.k co.n ∧ Blk w gw #[.pointer (some ⟨gc, 0, none⟩), .int .i64 ((co.every : Nat) : Int), .int .i64 ((co.cnt : Nat) : Int)] 69 ∧ ¬ N gw ∧ M gw ∧ ∀ j, N j → M j
theorem WriterAt.keep {w w' : World} {M : Nat → Prop} {gw gc : Nat} {co : Co} (h : WriterAt w M gw gc co) (hb : KeptM M w w') (hs : w.heap.size ≤ w'.heap.size) : WriterAt w' M gw gc co := by
 obtain ⟨N, hC, hB, hn, hg, hA⟩ := h.row
 exact ⟨h.lt.up hs, h.every, N, hC.keep (fun j hj => hb j (hA j hj)) hs, (hb gw hg).trans hB, hn, hg, hA⟩
theorem WriterAt.nx {w w' : World} {M : Nat → Prop} {gw gc : Nat} {co : Co} (h : WriterAt w M gw gc co) (hb : Below w.heap.size w w') : WriterAt w' M gw gc co := h.keep (kept_of hb h.lt) hb.size
theorem WriterAt.keepM {w w' : World} {M X : Nat → Prop} {gw gc : Nat} {co : Co} (h : WriterAt w M gw gc co) (hb : BelowX X w w') (hs : Sep M X) : WriterAt w' M gw gc co := h.keep (hb.kept h.lt hs) hb.size
theorem WriterAt.cipher {w : World} {M : Nat → Prop} {gw gc : Nat} {co : Co} (h : WriterAt w M gw gc co) : ∃ N, CipherAt w N gc co.k co.n := by obtain ⟨N, hC, _⟩ := h.row; exact ⟨N, hC⟩
theorem newCounter_any {gc : Nat} (z : Int) (w : World) :
  Calls Try.prog 38 #[.pointer (some ⟨gc, 0, none⟩), .int .i64 (z)] w fun e w' => e = .returned (.agg #[.pointer (some ⟨gc, 0, none⟩), .int .i64 ((everyN z : Nat) : Int), .int .i64 ((0 : Nat) : Int)]) ∧ Below w.heap.size w w' := by
 refine x_enter 10 Try.func38 rfl rfl (fun a hs hd ha0 => ?_)
 have t0 : a.eval (.tmp 0) = .pointer (some ⟨gc, 0, none⟩) := ha0 0 _ rfl
 have t1 : a.eval (.tmp 1) = .int .i64 (z) := ha0 1 _ rfl
 clear ha0
 refine w2_sr (fun K_1 hK_1 => ?_)
 refine op_ex (d := 4) rfl rfl (o_alloc (zs := #[.pointer none, .int .i64 ((0 : Nat) : Int), .int .i64 ((0 : Nat) : Int)]) rfl (fun _ => by kernel_rfl)) (fun v_1 w_1 hR_1 => ?_)
 obtain ⟨g_1, rfl, hle_1, hB_1, hb_1⟩ := hR_1
 have ge_1 : w.heap.size ≤ g_1 := hle_1
 refine x_nil (hK_1 _ _ ?_)
 refine w2_sr (fun K_2 hK_2 => ?_)
 refine q_mv ((pm rfl).trans t0) ?_
 refine q_mv ((pm rfl).trans t1) ?_
 refine q_v 7 (.int .i64 (min z 4294967296)) (o_minZ rfl (pe hs rfl rfl) rfl) ?_
 refine q_v 8 (.int .i64 ((everyN z : Nat) : Int)) (o_eq (o_max rfl rfl (pe hs rfl rfl)) (by unfold everyN; rw [Int.toNat_of_nonneg (by omega)])) ?_
 refine q_v 9 (.agg #[.pointer (some ⟨gc, 0, none⟩), .int .i64 ((everyN z : Nat) : Int), .int .i64 ((0 : Nat) : Int)]) (o_bld (vs := #[(0, .pointer (some ⟨gc, 0, none⟩)), (1, .int .i64 ((everyN z : Nat) : Int))]) (v := .agg #[.pointer (some ⟨gc, 0, none⟩), .int .i64 ((everyN z : Nat) : Int), .int .i64 ((0 : Nat) : Int)]) rfl (bld2 (pe hs rfl rfl) (pe hs rfl rfl)) (fun _ => by kernel_rfl)) ?_
 refine op_do rfl rfl (o_storeL (vs := [.pointer (some ⟨gc, 0, none⟩), .int .i64 ((everyN z : Nat) : Int), .int .i64 ((0 : Nat) : Int)]) rfl (pe hs rfl rfl) (pe hs rfl rfl) hB_1 ⟨by kernel_rfl, by kernel_rfl⟩ rfl (by simp [Value.oneCell'])) (fun w_2 hR_2 => ?_)
 obtain ⟨hB_2, hX_1⟩ := hR_2
 have HB_1 := hX_1.below hb_1 hb_1.size (fun k hk => hk ▸ ge_1)
 clear hB_1
 refine x_nil (hK_2 _ _ ?_)
 refine w2_ret ?_
 refine retC rfl hd (pe hs rfl rfl) (loadL (vs := [.pointer (some ⟨gc, 0, none⟩), .int .i64 ((everyN z : Nat) : Int), .int .i64 ((0 : Nat) : Int)]) hB_2 ⟨by kernel_rfl, by kernel_rfl⟩) ?_
 exact ⟨rfl, HB_1⟩
theorem NewWriter_any {M : Nat → Prop} {gc num : Nat} {ks : List Nat} (z : Int) (w : World) (hC : CipherAt w M gc ks num) :
  Calls Try.prog 17 #[.pointer (some ⟨gc, 0, none⟩), .int .i64 (z)] w fun e w' => ∃ (M' : Nat → Prop) (gw : Nat), e = .returned (.pointer (some ⟨gw, 0, none⟩)) ∧ WriterAt w' M' gw gc ⟨ks, num, everyN z, 0⟩ ∧ NextM w M M' ∧ Below w.heap.size w w' := by
 refine x_enter 12 Try.func17 rfl rfl (fun a hs hd ha0 => ?_)
 have t0 : a.eval (.tmp 0) = .pointer (some ⟨gc, 0, none⟩) := ha0 0 _ rfl
 have t1 : a.eval (.tmp 1) = .int .i64 (z) := ha0 1 _ rfl
 clear ha0
 refine w2_sr (fun K_1 hK_1 => ?_)
 refine q_as (.pointer none) rfl ?_
 refine x_nil (hK_1 _ _ ?_)
 refine w2_seq (fun K_2 hK_2 => ?_)
 refine w2_sr (fun K_3 hK_3 => ?_)
 refine q_mv ((pm rfl).trans t0) ?_
 refine q_v 6 (.bool (false)) (o_nil (b := false) rfl (pe hs rfl rfl) rfl rfl ⟨62, fun _ => by kernel_rfl⟩) ?_
 refine x_nil (hK_3 _ _ ?_)
 refine w2_condF (pe hs rfl rfl) ?_
 refine w2_skip ?_
 refine hK_2 _ _ ?_
 refine w2_sr (fun K_4 hK_4 => ?_)
 refine q_mv ((pm rfl).trans t0) ?_
 refine q_mv ((pm rfl).trans t1) ?_
 refine q_ca (vs := #[.pointer (some ⟨gc, 0, none⟩), .int .i64 (z)]) Try.func38 (args2 (pe hs rfl rfl) (pe hs rfl rfl)) (newCounter_any _ _) (fun e_1 w_1 hR_1 => ?_)
 obtain ⟨rfl, hb_2⟩ := hR_1
 refine ⟨_, rfl, ?_⟩
 refine q_v 10 (.agg #[.pointer (some ⟨gc, 0, none⟩), .int .i64 ((everyN z : Nat) : Int), .int .i64 ((0 : Nat) : Int)]) (o_bld (vs := #[(0, .agg #[.pointer (some ⟨gc, 0, none⟩), .int .i64 ((everyN z : Nat) : Int), .int .i64 ((0 : Nat) : Int)])]) (v := .agg #[.pointer (some ⟨gc, 0, none⟩), .int .i64 ((everyN z : Nat) : Int), .int .i64 ((0 : Nat) : Int)]) rfl (bld1 (pe hs rfl rfl)) (fun _ => by kernel_rfl)) ?_
 refine op_ex (d := 11) rfl rfl (o_boxL (cs := #[.pointer (some ⟨gc, 0, none⟩), .int .i64 ((everyN z : Nat) : Int), .int .i64 ((0 : Nat) : Int)]) rfl (pe hs rfl rfl)) (fun v_1 w_2 hR_2 => ?_)
 obtain ⟨g_1, rfl, hle_1, hB_1, hb_3⟩ := hR_2
 have ge_1 : w.heap.size ≤ g_1 := Nat.le_trans hb_2.size hle_1
 have HB_1 := below_from hb_2 hb_3
 refine q_at (pe hs rfl rfl) ?_
 refine x_nil (hK_4 _ _ ?_)
 refine w2_ret ?_
 refine ret1 rfl hd (pe hs rfl rfl) ?_
 exact ⟨MX w M w_2, g_1, rfl, ⟨hC.lt.mx HB_1.size, ⟨everyN_pos z, everyN_le z⟩, M, hC.nx HB_1, hB_1, fun h => absurd (hC.lt _ h) (by have := ge_1; omega), .inr ⟨ge_1, hB_1.lt⟩, fun j hj => .inl hj⟩, fun j hj => hj.imp id (fun h => h.1), HB_1⟩
theorem count_w {N : Nat → Prop} {gw gc ev cnt num : Nat} {ks : List Nat} (w : World) (hB : Blk w gw #[.pointer (some ⟨gc, 0, none⟩), .int .i64 ((ev : Nat) : Int), .int .i64 ((cnt : Nat) : Int)] 69) (hC : CipherAt w N gc ks num) (hn : ¬ N gw) (he : 1 ≤ ev) (hc : cnt < 4611686018427387904) :
  Calls Try.prog 41 #[.pointer (some ⟨gw, 0, none⟩)] w fun e w' => e = .returned (.tuple #[]) ∧ (∃ N', CipherAt w' N' gc (if (cnt + 1) % ev = 0 then rekeyL ks else ks) num ∧ NextM w N N') ∧ Blk w' gw #[.pointer (some ⟨gc, 0, none⟩), .int .i64 ((ev : Nat) : Int), .int .i64 ((cnt + 1 : Nat) : Int)] 69 ∧ BelowX (fun j => j = gw ∨ j = gc) w w' := by
 have hmod := Nat.mod_le (cnt + 1) ev
 refine x_enter 24 Try.func41 rfl rfl (fun a hs hd ha0 => ?_)
 have t0 : a.eval (.tmp 0) = .pointer (some ⟨gw, 0, none⟩) := ha0 0 _ rfl
 clear ha0
 have HB0 : BelowX (fun j => j = gw ∨ j = gc) w w := BelowX.refl _ _
 refine w2_sr (fun K_1 hK_1 => ?_)
 refine q_mv ((pm rfl).trans t0) ?_
 refine q_nc (pe hs rfl rfl) ?_
 refine q_fa 2 (pe hs rfl rfl) ?_
 refine q_ld (v := .int .i64 ((cnt : Nat) : Int)) (pe hs rfl rfl) hB rfl ?_
 refine q_v 6 (.int .i64 ((cnt + 1 : Nat) : Int)) (o_add64 (m := cnt) (n := 1) rfl (pe hs rfl rfl) rfl (by omega)) ?_
 refine q_nc (pe hs rfl rfl) ?_
 refine q_fa 2 (pe hs rfl rfl) ?_
 refine op_do rfl rfl (o_store1 rfl (pe hs rfl rfl) (pe hs rfl rfl) rfl rfl hB (by simp only [List.length_cons, List.length_nil]; omega) ⟨by kernel_rfl, by kernel_rfl⟩) (fun w_1 hR_1 => ?_)
 obtain ⟨hB_1, hX_1⟩ := hR_1
 replace hC := hC.keepX hX_1 hn
 have HB_1 := HB0.step hX_1 (fun k hk (hY : k = gw) => .inl hY)
 clear hB
 simp only [List.set_cons_zero, List.set_cons_succ] at hB_1
 refine x_nil (hK_1 _ _ ?_)
 refine w2_seq (fun K_2 hK_2 => ?_)
 refine x_drawn 8 [fun _ v => v = .pointer (some ⟨gw, 0, none⟩), fun _ v => v = .pointer (some ⟨gw, 0, none⟩), fun _ v => v = .pointer (some ⟨gw, 2, none⟩), fun _ v => v = .int .i64 ((cnt + 1 : Nat) : Int), fun _ v => v = .pointer (some ⟨gw, 0, none⟩), fun _ v => v = .pointer (some ⟨gw, 0, none⟩), fun _ v => v = .pointer (some ⟨gw, 1, none⟩), fun _ v => v = .int .i64 ((ev : Nat) : Int)] [9, 10, 11, 12, 13, 14, 15, 16] hs hd (by kernel_rfl) (by kernel_rfl) (by kernel_rfl) (by kernel_rfl) (by kernel_rfl) ⟨stLit, stLit, stLit, stLit, stLit, stLit, stLit, stLit, trivial⟩ ⟨(step_ok rfl (fun a' w' hb' hO hD => by
   have d_1 := (hO 0 (by decide)).trans ((pm rfl).trans t0)
   exact .inl ⟨_, _, (o_move rfl d_1), rfl, Below.refl _ _⟩)),
(step_ok rfl (fun a' w' hb' hO hD => by
   have d_2 : a'.eval (.tmp 9) = .pointer (some ⟨gw, 0, none⟩) := hD 0 9 (by kernel_rfl) rfl
   exact .inl ⟨_, _, (o_nilCheck rfl d_2), rfl, Below.refl _ _⟩)),
(step_ok rfl (fun a' w' hb' hO hD => by
   have d_3 : a'.eval (.tmp 10) = .pointer (some ⟨gw, 0, none⟩) := hD 1 10 (by kernel_rfl) rfl
   exact .inl ⟨_, _, (o_field (k' := 2) rfl d_3 (fun _ => by kernel_rfl)), rfl, Below.refl _ _⟩)),
(step_ok rfl (fun a' w' hb' hO hD => by
   have d_4 : a'.eval (.tmp 11) = .pointer (some ⟨gw, 2, none⟩) := hD 2 11 (by kernel_rfl) rfl
   exact .inl ⟨_, _, (o_load1 rfl d_4 (hB_1.nx hb') rfl ⟨by kernel_rfl, by kernel_rfl⟩), rfl, Below.refl _ _⟩)),
(step_ok rfl (fun a' w' hb' hO hD => by
   have d_5 := (hO 0 (by decide)).trans ((pm rfl).trans t0)
   exact .inl ⟨_, _, (o_move rfl d_5), rfl, Below.refl _ _⟩)),
(step_ok rfl (fun a' w' hb' hO hD => by
   have d_6 : a'.eval (.tmp 13) = .pointer (some ⟨gw, 0, none⟩) := hD 4 13 (by kernel_rfl) rfl
   exact .inl ⟨_, _, (o_nilCheck rfl d_6), rfl, Below.refl _ _⟩)),
(step_ok rfl (fun a' w' hb' hO hD => by
   have d_7 : a'.eval (.tmp 14) = .pointer (some ⟨gw, 0, none⟩) := hD 5 14 (by kernel_rfl) rfl
   exact .inl ⟨_, _, (o_field (k' := 1) rfl d_7 (fun _ => by kernel_rfl)), rfl, Below.refl _ _⟩)),
(step_ok rfl (fun a' w' hb' hO hD => by
   have d_8 : a'.eval (.tmp 15) = .pointer (some ⟨gw, 1, none⟩) := hD 6 15 (by kernel_rfl) rfl
   exact .inl ⟨_, _, (o_load1 rfl d_8 (hB_1.nx hb') rfl ⟨by kernel_rfl, by kernel_rfl⟩), rfl, Below.refl _ _⟩)), trivial⟩ (fun a_1 w_2 hs_1 hd_1 hb_1 hO_1 hV_1 => ?_)
 have ta_1_0 := (hO_1 0 (by decide)).trans ((pm rfl).trans t0)
 clear t0 hd
 replace hC := hC.nx hb_1
 replace hB_1 := hB_1.nx hb_1
 have HB_2 := HB_1.then hb_1
 have ta_1_12 : a_1.eval (.tmp 12) = .int .i64 ((cnt + 1 : Nat) : Int) := hV_1 3 12 rfl rfl
 have ta_1_16 : a_1.eval (.tmp 16) = .int .i64 ((ev : Nat) : Int) := hV_1 7 16 rfl rfl
 clear hV_1 hO_1
 simp only [List.drop_succ_cons, List.drop_zero]
 refine q_v 17 (.int .i64 (((cnt + 1) % ev : Nat) : Int)) (o_rem (m := (cnt + 1)) (n := ev) rfl ((pm rfl).trans ta_1_12) ((pm rfl).trans ta_1_16) (by omega) (IntWalk.i64_in _ (by omega))) ?_
 refine q_v 18 (.bool (decide (((cnt + 1) % ev) = 0))) (o_eql (m := ((cnt + 1) % ev)) (n := 0) rfl (pe hs_1 rfl rfl) rfl) ?_
 refine x_nil (hK_2 _ _ ?_)
 refine w2_split (pe hs_1 rfl rfl) (fun h_1 => ?_) (fun h_1 => ?_)
 ·simp only [DD9] at h_1
  have hz := h_1
  refine x_region (by kernel_rfl) ?_
  refine q_mv ((pm rfl).trans ta_1_0) ?_
  refine q_nc (pe hs_1 rfl rfl) ?_
  refine q_fa 0 (pe hs_1 rfl rfl) ?_
  refine q_ld (v := .pointer (some ⟨gc, 0, none⟩)) (pe hs_1 rfl rfl) hB_1 rfl ?_
  refine q_ca (vs := #[.pointer (some ⟨gc, 0, none⟩)]) Try.func66 (args1 (pe hs_1 rfl rfl)) (CRekey_any _ hC) (fun e_1 w_3 hR_2 => ?_)
  obtain ⟨rfl, ⟨N_1, hC_1, hNx_1⟩, hX_2⟩ := hR_2
  replace hB_1 := hX_2.blk hB_1 (fun e => hn (by rw [e]; exact hC.mem))
  have nx_1 := (NextM.refl w N).trans hNx_1 HB_2.size
  have HB_3 := HB_2.step hX_2 (fun k hk (hY : k = gc) => .inr hY)
  refine ⟨_, rfl, ?_⟩
  refine x_nil ?_
  refine end0 rfl hd_1 ?_
  exact ⟨rfl, ⟨N_1, by rw [if_pos hz]; exact hC_1, nx_1⟩, hB_1, HB_3⟩
 ·simp only [DD9] at h_1
  have hz := h_1
  refine w2_skip ?_
  refine end0 rfl hd_1 ?_
  exact ⟨rfl, ⟨N, by rw [if_neg hz]; exact hC, (NextM.refl w N)⟩, hB_1, HB_2⟩
theorem count_r {N : Nat → Prop} {gw gc ev cnt num : Nat} {ks : List Nat} {A9 : Option Addr} {n9 c9 body : Nat} {dead : Bool} (w : World) (hB : Blk w gw #[.pointer (some ⟨gc, 0, none⟩), .int .i64 ((ev : Nat) : Int), .int .i64 ((cnt : Nat) : Int), .slice A9 (n9) (c9), .int .i64 ((body : Nat) : Int), .bool (dead)] 71) (hC : CipherAt w N gc ks num) (hn : ¬ N gw) (he : 1 ≤ ev) (hc : cnt < 4611686018427387904) :
  Calls Try.prog 41 #[.pointer (some ⟨gw, 0, none⟩)] w fun e w' => e = .returned (.tuple #[]) ∧ (∃ N', CipherAt w' N' gc (if (cnt + 1) % ev = 0 then rekeyL ks else ks) num ∧ NextM w N N') ∧ Blk w' gw #[.pointer (some ⟨gc, 0, none⟩), .int .i64 ((ev : Nat) : Int), .int .i64 ((cnt + 1 : Nat) : Int), .slice A9 (n9) (c9), .int .i64 ((body : Nat) : Int), .bool (dead)] 71 ∧ BelowX (fun j => j = gw ∨ j = gc) w w' := by
 have hmod := Nat.mod_le (cnt + 1) ev
 refine x_enter 24 Try.func41 rfl rfl (fun a hs hd ha0 => ?_)
 have t0 : a.eval (.tmp 0) = .pointer (some ⟨gw, 0, none⟩) := ha0 0 _ rfl
 clear ha0
 have HB0 : BelowX (fun j => j = gw ∨ j = gc) w w := BelowX.refl _ _
 refine w2_sr (fun K_1 hK_1 => ?_)
 refine q_mv ((pm rfl).trans t0) ?_
 refine q_nc (pe hs rfl rfl) ?_
 refine q_fa 2 (pe hs rfl rfl) ?_
 refine q_ld (v := .int .i64 ((cnt : Nat) : Int)) (pe hs rfl rfl) hB rfl ?_
 refine q_v 6 (.int .i64 ((cnt + 1 : Nat) : Int)) (o_add64 (m := cnt) (n := 1) rfl (pe hs rfl rfl) rfl (by omega)) ?_
 refine q_nc (pe hs rfl rfl) ?_
 refine q_fa 2 (pe hs rfl rfl) ?_
 refine op_do rfl rfl (o_store1 rfl (pe hs rfl rfl) (pe hs rfl rfl) rfl rfl hB (by simp only [List.length_cons, List.length_nil]; omega) ⟨by kernel_rfl, by kernel_rfl⟩) (fun w_1 hR_1 => ?_)
 obtain ⟨hB_1, hX_1⟩ := hR_1
 replace hC := hC.keepX hX_1 hn
 have HB_1 := HB0.step hX_1 (fun k hk (hY : k = gw) => .inl hY)
 clear hB
 simp only [List.set_cons_zero, List.set_cons_succ] at hB_1
 refine x_nil (hK_1 _ _ ?_)
 refine w2_seq (fun K_2 hK_2 => ?_)
 refine x_drawn 8 [fun _ v => v = .pointer (some ⟨gw, 0, none⟩), fun _ v => v = .pointer (some ⟨gw, 0, none⟩), fun _ v => v = .pointer (some ⟨gw, 2, none⟩), fun _ v => v = .int .i64 ((cnt + 1 : Nat) : Int), fun _ v => v = .pointer (some ⟨gw, 0, none⟩), fun _ v => v = .pointer (some ⟨gw, 0, none⟩), fun _ v => v = .pointer (some ⟨gw, 1, none⟩), fun _ v => v = .int .i64 ((ev : Nat) : Int)] [9, 10, 11, 12, 13, 14, 15, 16] hs hd (by kernel_rfl) (by kernel_rfl) (by kernel_rfl) (by kernel_rfl) (by kernel_rfl) ⟨stLit, stLit, stLit, stLit, stLit, stLit, stLit, stLit, trivial⟩ ⟨(step_ok rfl (fun a' w' hb' hO hD => by
   have d_1 := (hO 0 (by decide)).trans ((pm rfl).trans t0)
   exact .inl ⟨_, _, (o_move rfl d_1), rfl, Below.refl _ _⟩)),
(step_ok rfl (fun a' w' hb' hO hD => by
   have d_2 : a'.eval (.tmp 9) = .pointer (some ⟨gw, 0, none⟩) := hD 0 9 (by kernel_rfl) rfl
   exact .inl ⟨_, _, (o_nilCheck rfl d_2), rfl, Below.refl _ _⟩)),
(step_ok rfl (fun a' w' hb' hO hD => by
   have d_3 : a'.eval (.tmp 10) = .pointer (some ⟨gw, 0, none⟩) := hD 1 10 (by kernel_rfl) rfl
   exact .inl ⟨_, _, (o_field (k' := 2) rfl d_3 (fun _ => by kernel_rfl)), rfl, Below.refl _ _⟩)),
(step_ok rfl (fun a' w' hb' hO hD => by
   have d_4 : a'.eval (.tmp 11) = .pointer (some ⟨gw, 2, none⟩) := hD 2 11 (by kernel_rfl) rfl
   exact .inl ⟨_, _, (o_load1 rfl d_4 (hB_1.nx hb') rfl ⟨by kernel_rfl, by kernel_rfl⟩), rfl, Below.refl _ _⟩)),
(step_ok rfl (fun a' w' hb' hO hD => by
   have d_5 := (hO 0 (by decide)).trans ((pm rfl).trans t0)
   exact .inl ⟨_, _, (o_move rfl d_5), rfl, Below.refl _ _⟩)),
(step_ok rfl (fun a' w' hb' hO hD => by
   have d_6 : a'.eval (.tmp 13) = .pointer (some ⟨gw, 0, none⟩) := hD 4 13 (by kernel_rfl) rfl
   exact .inl ⟨_, _, (o_nilCheck rfl d_6), rfl, Below.refl _ _⟩)),
(step_ok rfl (fun a' w' hb' hO hD => by
   have d_7 : a'.eval (.tmp 14) = .pointer (some ⟨gw, 0, none⟩) := hD 5 14 (by kernel_rfl) rfl
   exact .inl ⟨_, _, (o_field (k' := 1) rfl d_7 (fun _ => by kernel_rfl)), rfl, Below.refl _ _⟩)),
(step_ok rfl (fun a' w' hb' hO hD => by
   have d_8 : a'.eval (.tmp 15) = .pointer (some ⟨gw, 1, none⟩) := hD 6 15 (by kernel_rfl) rfl
   exact .inl ⟨_, _, (o_load1 rfl d_8 (hB_1.nx hb') rfl ⟨by kernel_rfl, by kernel_rfl⟩), rfl, Below.refl _ _⟩)), trivial⟩ (fun a_1 w_2 hs_1 hd_1 hb_1 hO_1 hV_1 => ?_)
 have ta_1_0 := (hO_1 0 (by decide)).trans ((pm rfl).trans t0)
 clear t0 hd
 replace hC := hC.nx hb_1
 replace hB_1 := hB_1.nx hb_1
 have HB_2 := HB_1.then hb_1
 have ta_1_12 : a_1.eval (.tmp 12) = .int .i64 ((cnt + 1 : Nat) : Int) := hV_1 3 12 rfl rfl
 have ta_1_16 : a_1.eval (.tmp 16) = .int .i64 ((ev : Nat) : Int) := hV_1 7 16 rfl rfl
 clear hV_1 hO_1
 simp only [List.drop_succ_cons, List.drop_zero]
 refine q_v 17 (.int .i64 (((cnt + 1) % ev : Nat) : Int)) (o_rem (m := (cnt + 1)) (n := ev) rfl ((pm rfl).trans ta_1_12) ((pm rfl).trans ta_1_16) (by omega) (IntWalk.i64_in _ (by omega))) ?_
 refine q_v 18 (.bool (decide (((cnt + 1) % ev) = 0))) (o_eql (m := ((cnt + 1) % ev)) (n := 0) rfl (pe hs_1 rfl rfl) rfl) ?_
 refine x_nil (hK_2 _ _ ?_)
 refine w2_split (pe hs_1 rfl rfl) (fun h_1 => ?_) (fun h_1 => ?_)
 ·simp only [DD9] at h_1
  have hz := h_1
  refine x_region (by kernel_rfl) ?_
  refine q_mv ((pm rfl).trans ta_1_0) ?_
  refine q_nc (pe hs_1 rfl rfl) ?_
  refine q_fa 0 (pe hs_1 rfl rfl) ?_
  refine q_ld (v := .pointer (some ⟨gc, 0, none⟩)) (pe hs_1 rfl rfl) hB_1 rfl ?_
  refine q_ca (vs := #[.pointer (some ⟨gc, 0, none⟩)]) Try.func66 (args1 (pe hs_1 rfl rfl)) (CRekey_any _ hC) (fun e_1 w_3 hR_2 => ?_)
  obtain ⟨rfl, ⟨N_1, hC_1, hNx_1⟩, hX_2⟩ := hR_2
  replace hB_1 := hX_2.blk hB_1 (fun e => hn (by rw [e]; exact hC.mem))
  have nx_1 := (NextM.refl w N).trans hNx_1 HB_2.size
  have HB_3 := HB_2.step hX_2 (fun k hk (hY : k = gc) => .inr hY)
  refine ⟨_, rfl, ?_⟩
  refine x_nil ?_
  refine end0 rfl hd_1 ?_
  exact ⟨rfl, ⟨N_1, by rw [if_pos hz]; exact hC_1, nx_1⟩, hB_1, HB_3⟩
 ·simp only [DD9] at h_1
  have hz := h_1
  refine w2_skip ?_
  refine end0 rfl hd_1 ?_
  exact ⟨rfl, ⟨N, by rw [if_neg hz]; exact hC, (NextM.refl w N)⟩, hB_1, HB_2⟩
theorem Put_any {M : Nat → Prop} {gw gc : Nat} {co : Co} {A0 : Option Addr} {c0 q : Nat} {bs : List Nat} (w : World) (hW : WriterAt w M gw gc co) (h0 : Bs w A0 c0 bs) (hq : bs.length = q) (hl : q ≤ 4096) (hnum : co.n < 9223372036854775807) (hc : co.cnt < 4611686018427387904) :
  Calls Try.prog 20 #[.pointer (some ⟨gw, 0, none⟩), .slice A0 (q) (c0)] w fun e w' => ∃ A c, e = .returned (.tuple #[.slice A (sizeN q + 34) c, .int .i64 0]) ∧ Own w' w.heap.size A c (recL co bs) ∧ (∃ M', WriterAt w' M' gw gc co.put ∧ NextM w M M' ∧ Sep (blkA A) M') ∧ BelowX M w w' := by
 obtain ⟨hlt, hev, N, hC, hB, hn, hMg, hMA⟩ := hW
 have hC0 := hC.mem
 have hs2 := sizeN_top q
 refine x_enter 61 Try.func20 rfl rfl (fun a hs hd ha0 => ?_)
 have t0 : a.eval (.tmp 0) = .pointer (some ⟨gw, 0, none⟩) := ha0 0 _ rfl
 have t1 : a.eval (.tmp 1) = .slice A0 (q) (c0) := ha0 1 _ rfl
 clear ha0
 have HB0 : BelowX (fun j => j = gw ∨ j = gc) w w := BelowX.refl _ _
 refine w2_sr (fun K_1 hK_1 => ?_)
 refine q_as (.slice none (0) (0)) rfl ?_
 refine q_as (.int .i64 ((0 : Nat) : Int)) rfl ?_
 refine x_nil (hK_1 _ _ ?_)
 refine w2_seq (fun K_2 hK_2 => ?_)
 refine w2_sr (fun K_3 hK_3 => ?_)
 refine q_mv ((pm rfl).trans t0) ?_
 refine q_v 11 (.bool (false)) (o_nil (b := false) rfl (pe hs rfl rfl) rfl rfl ⟨69, fun _ => by kernel_rfl⟩) ?_
 refine x_nil (hK_3 _ _ ?_)
 refine w2_condF (pe hs rfl rfl) ?_
 refine w2_skip ?_
 refine hK_2 _ _ ?_
 refine w2_sr (fun K_4 hK_4 => ?_)
 refine q_mv ((pm rfl).trans t1) ?_
 refine q_ca (vs := #[.slice A0 (q) (c0)]) Try.func39 (args1 (pe hs rfl rfl)) (Wrap_any _ h0 hq hl) (fun e_1 w_1 hR_1 => ?_)
 obtain ⟨A_1, c_1, rfl, ho_1, hb_1⟩ := hR_1
 replace ho_1 := ho_1.mono HB0.size
 replace hB := hB.nx hb_1
 replace hC := hC.nx hb_1
 replace h0 := h0.nx hb_1
 have HB_1 := HB0.then hb_1
 refine ⟨_, rfl, ?_⟩
 refine q_mv (pe hs rfl rfl) ?_
 refine q_ex (v := .slice A_1 (sizeN q) (c_1)) (pe hs rfl rfl) rfl ?_
 refine q_ex (v := .int .i64 ((0 : Nat) : Int)) (pe hs rfl rfl) rfl ?_
 refine q_at (pe hs rfl rfl) ?_
 refine q_at (v := .int .i64 ((0 : Nat) : Int)) (pe hs rfl rfl) ?_
 refine x_nil (hK_4 _ _ ?_)
 refine w2_seq (fun K_5 hK_5 => ?_)
 refine w2_sr (fun K_6 hK_6 => ?_)
 refine q_mv (v := .int .i64 ((0 : Nat) : Int)) (pe hs rfl rfl) ?_
 refine q_v 18 (.bool (false)) (o_eq (o_neq (m := 0) (n := 0) rfl (pe hs rfl rfl) rfl) rfl) ?_
 refine x_nil (hK_6 _ _ ?_)
 refine w2_condF (pe hs rfl rfl) ?_
 refine w2_skip ?_
 refine hK_5 _ _ ?_
 refine w2_sr (fun K_7 hK_7 => ?_)
 refine q_mv ((pm rfl).trans t0) ?_
 refine q_nc (pe hs rfl rfl) ?_
 refine q_fa 0 (pe hs rfl rfl) ?_
 refine q_fa 0 (pe hs rfl rfl) ?_
 refine q_ld (v := .pointer (some ⟨gc, 0, none⟩)) (pe hs rfl rfl) hB rfl ?_
 refine q_mv (pe hs rfl rfl) ?_
 refine q_v 27 (.int .i64 ((sizeN q : Nat) : Int)) (o_len rfl (pe hs rfl rfl)) ?_
 refine q_v 28 (.int .i64 (((sizeN q) / 2 ^ 8 : Nat) : Int)) (o_shr (m := (sizeN q)) (n := 8) rfl (pe hs rfl rfl) rfl (by decide)) ?_
 refine q_v 29 (.int .u8 ((((sizeN q) / 2 ^ 8) % 256 : Nat) : Int)) (o_conv (m := ((sizeN q) / 2 ^ 8)) (r := ((sizeN q) / 2 ^ 8) % 256) rfl (pe hs rfl rfl) ⟨.int .i64, fun _ => by kernel_rfl⟩ (fun _ => by kernel_rfl) (by rw [IntKind.wrap_u8]; omega)) ?_
 refine q_mv (pe hs rfl rfl) ?_
 refine q_v 31 (.int .i64 ((sizeN q : Nat) : Int)) (o_len rfl (pe hs rfl rfl)) ?_
 refine q_v 32 (.int .u8 (((sizeN q) % 256 : Nat) : Int)) (o_conv (m := (sizeN q)) (r := (sizeN q) % 256) rfl (pe hs rfl rfl) ⟨.int .i64, fun _ => by kernel_rfl⟩ (fun _ => by kernel_rfl) (by rw [IntKind.wrap_u8]; omega)) ?_
 refine op_ex (d := 33) rfl rfl (o_build2 (m := ((sizeN q) / 2 ^ 8) % 256) (n := (sizeN q) % 256) rfl (pe hs rfl rfl) (pe hs rfl rfl) (by omega) (by omega)) (fun v_1 w_2 hR_2 => ?_)
 obtain ⟨g_1, rfl, ho_2, hb_2⟩ := hR_2
 replace ho_2 := ho_2.mono HB_1.size
 replace hB := hB.nx hb_2
 replace hC := hC.nx hb_2
 replace h0 := h0.nx hb_2
 replace ho_1 := ho_1.nx hb_2
 have HB_2 := HB_1.then hb_2
 refine q_ca (vs := #[.pointer (some ⟨gc, 0, none⟩), .slice none (0) (0), .slice ((some ⟨g_1, 0, none⟩)) (2) (2)]) Try.func40 (args3 (pe hs rfl rfl) rfl (pe hs rfl rfl)) (CSeal_any _ hC (Bs.nil _) (ho_2).bs (by simp only [List.length_nil]) (by simp only [List.length_cons, List.length_nil]) (by omega) (by omega) (by omega)) (fun e_2 w_3 hR_3 => ?_)
 obtain ⟨A_2, c_2, rfl, ho_3, ⟨N_1, hC_1, hNx_1⟩, hX_1⟩ := hR_3
 have hn_1 := hNx_1.not hn hB.lt
 replace hB := hX_1.blk hB (fun e => hn (by rw [e]; exact hC.mem))
 replace ho_1 := hC.own hX_1 ho_1
 have nx_1 := (NextM.refl w N).trans hNx_1 HB_2.size
 have HB_3 := HB_2.step hX_1 (fun k hk (hY : k = gc) => .inr hY)
 replace ho_3 := ho_3.mono HB_2.size
 refine ⟨_, rfl, ?_⟩
 refine q_mv (pe hs rfl rfl) ?_
 refine q_ex (v := .slice A_2 (2 + 16) (c_2)) (pe hs rfl rfl) rfl ?_
 refine q_ex (v := .int .i64 ((0 : Nat) : Int)) (pe hs rfl rfl) rfl ?_
 refine q_at (pe hs rfl rfl) ?_
 refine q_at (v := .int .i64 ((0 : Nat) : Int)) (pe hs rfl rfl) ?_
 refine x_nil (hK_7 _ _ ?_)
 refine w2_seq (fun K_8 hK_8 => ?_)
 refine w2_sr (fun K_9 hK_9 => ?_)
 refine q_mv (v := .int .i64 ((0 : Nat) : Int)) (pe hs rfl rfl) ?_
 refine q_v 38 (.bool (false)) (o_eq (o_neq (m := 0) (n := 0) rfl (pe hs rfl rfl) rfl) rfl) ?_
 refine x_nil (hK_9 _ _ ?_)
 refine w2_condF (pe hs rfl rfl) ?_
 refine w2_skip ?_
 refine hK_8 _ _ ?_
 refine w2_sr (fun K_10 hK_10 => ?_)
 refine q_mv ((pm rfl).trans t0) ?_
 refine q_nc (pe hs rfl rfl) ?_
 refine q_fa 0 (pe hs rfl rfl) ?_
 refine q_fa 0 (pe hs rfl rfl) ?_
 refine q_ld (v := .pointer (some ⟨gc, 0, none⟩)) (pe hs rfl rfl) hB rfl ?_
 refine q_mv (pe hs rfl rfl) ?_
 refine q_ca (vs := #[.pointer (some ⟨gc, 0, none⟩), .slice none (0) (0), .slice A_1 (sizeN q) (c_1)]) Try.func40 (args3 (pe hs rfl rfl) rfl (pe hs rfl rfl)) (CSeal_any _ hC_1 (Bs.nil _) (ho_1).bs (by simp only [List.length_nil]) (by rw [wrapL_length (by rw [hq]; exact hl), hq]) (by omega) (by omega) (by omega)) (fun e_3 w_4 hR_4 => ?_)
 obtain ⟨A_3, c_3, rfl, ho_4, ⟨N_2, hC_2, hNx_2⟩, hX_2⟩ := hR_4
 have hn_2 := hNx_2.not hn_1 hB.lt
 replace hB := hX_2.blk hB (fun e => hn_1 (by rw [e]; exact hC_1.mem))
 replace ho_3 := hC_1.own hX_2 ho_3
 have nx_2 := nx_1.trans hNx_2 HB_3.size
 have HB_4 := HB_3.step hX_2 (fun k hk (hY : k = gc) => .inr hY)
 replace ho_4 := ho_4.mono HB_3.size
 refine ⟨_, rfl, ?_⟩
 refine q_mv (pe hs rfl rfl) ?_
 refine q_ex (v := .slice A_3 ((sizeN q) + 16) (c_3)) (pe hs rfl rfl) rfl ?_
 refine q_ex (v := .int .i64 ((0 : Nat) : Int)) (pe hs rfl rfl) rfl ?_
 refine q_at (pe hs rfl rfl) ?_
 refine q_at (v := .int .i64 ((0 : Nat) : Int)) (pe hs rfl rfl) ?_
 refine x_nil (hK_10 _ _ ?_)
 refine w2_seq (fun K_11 hK_11 => ?_)
 refine w2_sr (fun K_12 hK_12 => ?_)
 refine q_mv (v := .int .i64 ((0 : Nat) : Int)) (pe hs rfl rfl) ?_
 refine q_v 51 (.bool (false)) (o_eq (o_neq (m := 0) (n := 0) rfl (pe hs rfl rfl) rfl) rfl) ?_
 refine x_nil (hK_12 _ _ ?_)
 refine w2_condF (pe hs rfl rfl) ?_
 refine w2_skip ?_
 refine hK_11 _ _ ?_
 refine w2_sr (fun K_13 hK_13 => ?_)
 refine q_mv ((pm rfl).trans t0) ?_
 refine q_nc (pe hs rfl rfl) ?_
 refine q_fa 0 (pe hs rfl rfl) ?_
 refine q_ca (vs := #[.pointer (some ⟨gw, 0, none⟩)]) Try.func41 (args1 (pe hs rfl rfl)) (count_w _ hB hC_2 hn_2 (by omega) (by omega)) (fun e_4 w_5 hR_5 => ?_)
 obtain ⟨rfl, ⟨N_3, hC_3, hNx_3⟩, hB_1, hX_3⟩ := hR_5
 have hn_3 := hNx_3.not hn_2 hB.lt
 replace ho_3 := ho_3.keep2 hB (by decide) hC_2 hX_3
 replace ho_4 := ho_4.keep2 hB (by decide) hC_2 hX_3
 have nx_3 := nx_2.trans hNx_3 HB_4.size
 have HB_5 := HB_4.step hX_3 (fun k hk hY => hY)
 refine ⟨_, rfl, ?_⟩
 refine x_nil (hK_13 _ _ ?_)
 refine w2_sr (fun K_14 hK_14 => ?_)
 refine q_mv (pe hs rfl rfl) ?_
 refine q_mv (pe hs rfl rfl) ?_
 refine op_ex (d := 59) rfl rfl (o_bldS (vs := #[(0, .slice A_2 (2 + 16) (c_2)), (1, .slice A_3 ((sizeN q) + 16) (c_3))]) (cs := #[.slice A_2 (2 + 16) (c_2), .slice A_3 ((sizeN q) + 16) (c_3)]) (e := 22) rfl (bld2 (pe hs rfl rfl) (pe hs rfl rfl)) (fun _ => by kernel_rfl)) (fun v_2 w_6 hR_6 => ?_)
 obtain ⟨g_2, rfl, hle_2, hB_2, hb_3⟩ := hR_6
 replace ho_3 := ho_3.nx hb_3
 replace ho_4 := ho_4.nx hb_3
 replace hB_1 := hB_1.nx hb_3
 replace hC_3 := hC_3.nx hb_3
 have HB_6 := HB_5.then hb_3
 refine q_ca (vs := #[.slice ((some ⟨g_2, 0, none⟩)) (2) (2)]) Try.func42 (args1 (pe hs rfl rfl)) (Concat2 _ hB_2 (ho_3).bs (by rw [sealL_length]; have h9 : ([((sizeN q) / 2 ^ 8) % 256, (sizeN q) % 256]).length = 2 := (by simp only [List.length_cons, List.length_nil]); omega) (ho_4).bs (by rw [sealL_length]; have h9 : (wrapL bs).length = sizeN q := (by rw [wrapL_length (by rw [hq]; exact hl), hq]); omega) (by omega)) (fun e_5 w_7 hR_7 => ?_)
 obtain ⟨A_4, c_4, rfl, ho_5, hb_4⟩ := hR_7
 have gz_2 := ho_5.ge'
 have sp_2 : Sep (blkA A_4) N_3 := (Sep.new hC_3.lt gz_2).symm
 replace ho_5 := ho_5.mono HB_6.size
 replace hB_1 := hB_1.nx hb_4
 replace hC_3 := hC_3.nx hb_4
 have HB_7 := HB_6.then hb_4
 refine ⟨_, rfl, ?_⟩
 refine q_at (pe hs rfl rfl) ?_
 refine q_as (.int .i64 ((0 : Nat) : Int)) rfl ?_
 refine x_nil (hK_14 _ _ ?_)
 refine w2_ret ?_
 refine ret2 rfl hd (pe hs rfl rfl) (pe hs rfl rfl) ?_
 subst hq
 exact ⟨_, _, by rw [show (2 + 16) + ((sizeN bs.length) + 16) = sizeN bs.length + 34 by omega]; rfl, ho_5, ⟨fun j => N_3 j ∨ j = gw, ⟨fun j hj => hj.elim (hC_3.lt j) (fun h => h ▸ hB_1.lt), hev, N_3, hC_3, hB_1, hn_3, .inr rfl, fun j hj => .inl hj⟩, fun j hj => hj.elim (fun h => (nx_3 j h).imp (hMA j) id) (fun h => .inl (h ▸ hMg)), fun j hj hm => hm.elim (sp_2 j hj) (fun h => ho_5.sepB hB_1 (by decide) (h ▸ hj))⟩, HB_7.mono (fun k _ hk => hk.elim (fun e => e ▸ hMg) (fun e => e ▸ hMA _ hC0))⟩
theorem Put_gt {gw : Nat} {A0 : Option Addr} {c0 q : Nat} {bs : List Nat} (w : World) (h0 : Bs w A0 c0 bs) (hq : bs.length = q) (hl : 4096 < q) :
  Calls Try.prog 20 #[.pointer (some ⟨gw, 0, none⟩), .slice A0 (q) (c0)] w fun e w' => e = .returned (.tuple #[.slice none 0 0, .int .i64 7]) ∧ w = w' := by
 refine x_enter 61 Try.func20 rfl rfl (fun a hs hd ha0 => ?_)
 have t0 : a.eval (.tmp 0) = .pointer (some ⟨gw, 0, none⟩) := ha0 0 _ rfl
 have t1 : a.eval (.tmp 1) = .slice A0 (q) (c0) := ha0 1 _ rfl
 clear ha0
 refine w2_sr (fun K_1 hK_1 => ?_)
 refine q_as (.slice none (0) (0)) rfl ?_
 refine q_as (.int .i64 ((0 : Nat) : Int)) rfl ?_
 refine x_nil (hK_1 _ _ ?_)
 refine w2_seq (fun K_2 hK_2 => ?_)
 refine w2_sr (fun K_3 hK_3 => ?_)
 refine q_mv ((pm rfl).trans t0) ?_
 refine q_v 11 (.bool (false)) (o_nil (b := false) rfl (pe hs rfl rfl) rfl rfl ⟨69, fun _ => by kernel_rfl⟩) ?_
 refine x_nil (hK_3 _ _ ?_)
 refine w2_condF (pe hs rfl rfl) ?_
 refine w2_skip ?_
 refine hK_2 _ _ ?_
 refine w2_sr (fun K_4 hK_4 => ?_)
 refine q_mv ((pm rfl).trans t1) ?_
 refine q_ca (vs := #[.slice A0 (q) (c0)]) Try.func39 (args1 (pe hs rfl rfl)) (Wrap_gt _ h0 hq hl) (fun e_1 w_1 hR_1 => ?_)
 obtain ⟨rfl, rfl⟩ := hR_1
 refine ⟨_, rfl, ?_⟩
 refine q_mv (pe hs rfl rfl) ?_
 refine q_ex (v := .slice none (0) (0)) (pe hs rfl rfl) rfl ?_
 refine q_ex (v := .int .i64 ((7 : Nat) : Int)) (pe hs rfl rfl) rfl ?_
 refine q_at (pe hs rfl rfl) ?_
 refine q_at (v := .int .i64 ((7 : Nat) : Int)) (pe hs rfl rfl) ?_
 refine x_nil (hK_4 _ _ ?_)
 refine w2_seq (fun K_5 hK_5 => ?_)
 refine w2_sr (fun K_6 hK_6 => ?_)
 refine q_mv (v := .int .i64 ((7 : Nat) : Int)) (pe hs rfl rfl) ?_
 refine q_v 18 (.bool (true)) (o_eq (o_eq (o_neq (m := 7) (n := 0) rfl (pe hs rfl rfl) rfl) rfl) rfl) ?_
 refine x_nil (hK_6 _ _ ?_)
 refine w2_condT (pe hs rfl rfl) ?_
 refine w2_sr (fun K_7 hK_7 => ?_)
 refine q_mv (v := .int .i64 ((7 : Nat) : Int)) (pe hs rfl rfl) ?_
 refine q_as (.slice none (0) (0)) rfl ?_
 refine q_at (v := .int .i64 ((7 : Nat) : Int)) (pe hs rfl rfl) ?_
 refine x_nil (hK_7 _ _ ?_)
 refine w2_ret ?_
 refine thn_ret ?_
 refine ret2 rfl hd (pe hs rfl rfl) (pe hs rfl rfl) ?_
 exact ⟨rfl, rfl⟩
theorem WCount_blk {gw gc ev cnt : Nat} (w : World) (hB : Blk w gw #[.pointer (some ⟨gc, 0, none⟩), .int .i64 ((ev : Nat) : Int), .int .i64 ((cnt : Nat) : Int)] 69) :
  Calls Try.prog 22 #[.pointer (some ⟨gw, 0, none⟩)] w fun e w' => e = .returned (.int .i64 ((cnt : Nat) : Int)) ∧ w = w' := by
 refine x_enter 10 Try.func22 rfl rfl (fun a hs hd ha0 => ?_)
 have t0 : a.eval (.tmp 0) = .pointer (some ⟨gw, 0, none⟩) := ha0 0 _ rfl
 clear ha0
 refine w2_sr (fun K_1 hK_1 => ?_)
 refine q_as (.int .i64 ((0 : Nat) : Int)) rfl ?_
 refine x_nil (hK_1 _ _ ?_)
 refine w2_seq (fun K_2 hK_2 => ?_)
 refine w2_sr (fun K_3 hK_3 => ?_)
 refine q_mv ((pm rfl).trans t0) ?_
 refine q_v 4 (.bool (false)) (o_nil (b := false) rfl (pe hs rfl rfl) rfl rfl ⟨69, fun _ => by kernel_rfl⟩) ?_
 refine x_nil (hK_3 _ _ ?_)
 refine w2_condF (pe hs rfl rfl) ?_
 refine w2_skip ?_
 refine hK_2 _ _ ?_
 refine w2_sr (fun K_4 hK_4 => ?_)
 refine q_mv ((pm rfl).trans t0) ?_
 refine q_nc (pe hs rfl rfl) ?_
 refine q_fa 0 (pe hs rfl rfl) ?_
 refine q_fa 2 (pe hs rfl rfl) ?_
 refine q_ld (v := .int .i64 ((cnt : Nat) : Int)) (pe hs rfl rfl) hB rfl ?_
 refine q_at (pe hs rfl rfl) ?_
 refine x_nil (hK_4 _ _ ?_)
 refine w2_ret ?_
 refine ret1 rfl hd (pe hs rfl rfl) ?_
 exact ⟨rfl, rfl⟩
theorem WCount_any {M : Nat → Prop} {gw gc : Nat} {co : Co} (w : World) (h : WriterAt w M gw gc co) : Calls Try.prog 22 #[.pointer (some ⟨gw, 0, none⟩)] w fun e w' => e = .returned (.int .i64 ((co.cnt : Nat) : Int)) ∧ w = w' := by
 obtain ⟨N, hC, hB, _⟩ := h.row
 exact WCount_blk w hB
end Go.Proofs.Ytggalcdkfielkaa
/-
 DrawnM · Rdr, IN ONE TEXT.
-/
/-
 A REGION THAT DRAWS ITS ORDER, one of whose calls changes the blocks X.
-/
namespace Go.Proofs.Ytggalcdkfielkaa
open Go.RowKit
set_option linter.unusedVariables false
set_option linter.unusedSimpArgs false
set_option maxRecDepth 100000

section
variable {b : Bool} {P : Program} {Q : Exit → Act → World → Prop} {a : Act} {w : World}
/-- What holds of the first n operations, those that are through (L). -/
structure InvMut (l : List Oper) (S : List (World → Value → Prop)) (H0 H1 : World → Prop) (X : Nat → Prop) (n h : Nat) (a0 : Act) (w0 : World) (L : Nat → Bool) (a : Act) (w : World) : Prop where
 tmps : a.tmps.size = a0.tmps.size
 defers : a.defers = a0.defers
 grow : BelowX X w0 w
 others : ∀ t, (∀ j, j < n → dstOf l j ≠ some t) → a.eval (.tmp t) = a0.eval (.tmp t)
 vals : ∀ i, i < n → L i = true → ∀ d, dstOf l i = some d → nthS S i w (a.eval (.tmp d))
 hot : if L h = true then H1 w else H0 w
def OutM (P : Program) (S : List (World → Value → Prop)) (X : Nat → Prop) (H1 : World → Prop) (a' : Act) (w' : World) (i : Nat) (o : Oper) : Prop :=
 ∃ f vs, (execOp a'.eval o).run P w' = .ok (.enter f vs) w' ∧ Calls P f vs w' fun e w'' => ∃ v, e = .returned v ∧ nthS S i w'' v ∧ BelowX X w' w'' ∧ H1 w''
def StepM (P : Program) (l : List Oper) (S : List (World → Value → Prop)) (H0 H1 : World → Prop) (X : Nat → Prop) (ds : List Tmp) (a0 : Act) (w0 : World) (h i : Nat) (o : Oper) : Prop :=
 o.guard = none ∧ ∀ (a' : Act) (w' : World), BelowX X w0 w' → FreeD ds a' a0 → DepS l S o a' w' → if i = h then (H0 w' → OutM P S X H1 a' w' i o) else Outcome P (nthS S) a' w' i o
def StepsM (P : Program) (l : List Oper) (S : List (World → Value → Prop)) (H0 H1 : World → Prop) (X : Nat → Prop) (ds : List Tmp) (a0 : Act) (w0 : World) (h : Nat) : Nat → List Oper → Prop
 | _, [] => True
 | i, o :: r => StepM P l S H0 H1 X ds a0 w0 h i o ∧ StepsM P l S H0 H1 X ds a0 w0 h (i + 1) r
theorem stepsM_get {l : List Oper} {S : List (World → Value → Prop)} {H0 H1 : World → Prop} {X : Nat → Prop} {ds : List Tmp} {h : Nat} : ∀ (r : List Oper) (k : Nat), StepsM P l S H0 H1 X ds a w h k r → ∀ i o, r[i]? = some o → StepM P l S H0 H1 X ds a w h (k + i) o
 | [], _, _, i, o, h => by simp at h
 | x :: r, k, h, 0, o, ho => by
  simp at ho; subst ho; exact h.1
 | x :: r, k, h, i + 1, o, ho => by
  have := stepsM_get r (k + 1) h.2 i o (by simpa using ho)
  rwa [Nat.add_assoc, Nat.add_comm 1 i] at this
theorem stepM_val {l : List Oper} {S : List (World → Value → Prop)} {H0 H1 : World → Prop} {X : Nat → Prop} {ds : List Tmp} {h i : Nat} {o : Oper} (hg : o.guard = none) (hi : Nat.beq i h = false)
  (hh : ∀ (a' : Act) (w' : World), BelowX X w w' → FreeD ds a' a → DepS l S o a' w' → Outcome P (nthS S) a' w' i o) : StepM P l S H0 H1 X ds a w h i o :=
 ⟨hg, fun a' w' h1 h2 h3 => by rw [if_neg (fun e => by rw [e] at hi; simp at hi)]; exact hh a' w' h1 h2 h3⟩
theorem stepM_hot {l : List Oper} {S : List (World → Value → Prop)} {H0 H1 : World → Prop} {X : Nat → Prop} {ds : List Tmp} {h : Nat} {o : Oper} (hg : o.guard = none)
  (hh : ∀ (a' : Act) (w' : World), BelowX X w w' → FreeD ds a' a → DepS l S o a' w' → H0 w' → OutM P S X H1 a' w' h o) : StepM P l S H0 H1 X ds a w h h o :=
 ⟨hg, fun a' w' h1 h2 h3 => by rw [if_pos rfl]; exact hh a' w' h1 h2 h3⟩
/-- Each predicate lasts when the blocks X change. -/
def AllStX (X : Nat → Prop) : List (World → Value → Prop) → Prop
 | [] => True
 | p :: l => (∀ w w' v, p w v → BelowX X w w' → p w' v) ∧ AllStX X l
theorem stLitX {X : Nat → Prop} {f : Value → Prop} : ∀ w w' v, (fun (_ : World) v => f v) w v → BelowX X w w' → (fun (_ : World) v => f v) w' v := fun _ _ _ h _ => h
theorem stOwnX {X : Nat → Prop} {B n : Nat} {xs : List Nat} (hX : ∀ j, X j → j < B) : ∀ w w' v, OwnN B n xs w v → BelowX X w w' → OwnN B n xs w' v := fun _ _ _ ⟨A, c, hv, h⟩ hb => ⟨A, c, hv, h.keepM hb (fun j hj hx => absurd (hX j hx) (Nat.not_lt.2 (h.ge' j hj)))⟩
theorem stTupX {X : Nat → Prop} {B n r : Nat} {xs : List Nat} (hX : ∀ j, X j → j < B) : ∀ w w' v, TupN B n xs r w v → BelowX X w w' → TupN B n xs r w' v := fun _ _ _ ⟨A, c, hv, h⟩ hb => ⟨A, c, hv, h.keepM hb (fun j hj hx => absurd (hX j hx) (Nat.not_lt.2 (h.ge' j hj)))⟩
theorem AllStX.nth {X : Nat → Prop} : ∀ {l : List (World → Value → Prop)}, AllStX X l → ∀ i w w' v, nthS l i w v → BelowX X w w' → nthS l i w' v
 | [], _, _, _, _, _, _, _ => trivial
 | p :: l, h, 0, w, w', v, hp, hb => h.1 w w' v hp hb
 | p :: l, h, i + 1, w, w', v, hp, hb => AllStX.nth (l := l) h.2 i w w' v hp hb
theorem x_drawnM {id : Nat} {l : List Oper} {r : List (Tmp × Value)} {N : Nat} {dl : List Deferred} (n h : Nat) (X : Nat → Prop) (H0 H1 : World → Prop) (S : List (World → Value → Prop)) (ds : List Tmp) (hs : a.tmps.size = N) (hdf : a.defers = dl) (hm : P.follows .mixedOrders = true) (hnd : noDef l.toArray = true) (hd : dstsB2 l (fun _ => .val) n N = true) (ht : tailB2 l n = true) (hds : dstsOf (l.take n) = ds)
  (hh : Nat.blt h n = true) (hS : AllStX X S) (hH0 : ∀ w' w'', H0 w' → Below w'.heap.size w' w'' → H0 w'') (hH1 : ∀ w' w'', H1 w' → Below w'.heap.size w' w'' → H1 w'') (h0 : H0 w) (hstep : StepsM P l S H0 H1 X ds (putsR a r) w h 0 (l.take n))
  (hend : ∀ (a' : Act) (w' : World), a'.tmps.size = N → a'.defers = dl → BelowX X w w' → H1 w' → FreeD ds a' (putsR a r) → (∀ i d, Nat.blt i n = true → dstOf l i = some d → nthS S i w' (a'.eval (.tmp d))) → wpList P l.toArray Q (l.drop n) (putsR a' []) w') :
  WP2 b P (.region id l.toArray true) Q (putsR a r) w := by
 refine w2_any hm hnd (region_headA n (InvMut l S H0 H1 X n h (putsR a r) w) hm ht ⟨rfl, rfl, ⟨rfl, rfl, rfl, Nat.le_refl _, fun _ _ _ => rfl⟩, fun _ _ => rfl, fun _ _ hL => (by cases hL), by simpa using hH0 _ _ h0 ((Below.refl _ _).drew)⟩ ?_ ?_)
 ·intro i o hi ho L a' w' inv hun hcl hdep hlow j hj K hK
  obtain ⟨hg, hst⟩ := stepsM_get _ _ hstep i o (by rw [List.getElem?_take, if_pos hi]; exact ho)
  rw [Nat.zero_add] at hst
  have hw : j = true := by rw [← hj]; simp [Region.wanted, hg]
  rw [if_pos hw]
  have hO : FreeD ds a' (putsR a r) := fun t htn => inv.others t (contains_of hds htn)
  have hD : DepS l S o a' w' := by
   intro j d hj' hd'
   obtain ⟨e, he, hbb⟩ := Array.any_eq_true'.1 hj'
   simp only [Bool.and_eq_true, beq_iff_eq] at hbb
   have hLe := hdep e he hbb.1
   rw [hbb.2] at hLe
   exact inv.vals j (hlow j hLe) hLe d hd'
  have h1 := hst a' w' inv.grow hO hD
  obtain ⟨d, hdi, hdl, hdne⟩ := dstsB2_val hd hi (by decide)
  have hod : o.dst = some d := by simpa [dstOf, ho] using hdi
  have hdl2 : d < a'.tmps.size := by rw [inv.tmps, putsR_size, hs]; exact hdl
  -- whatever it comes to: the frame behind it
  have next : ∀ (v : Value) (w'' : World), nthS S i w'' v → BelowX X w' w'' → (if (L h || h == i) = true then H1 w'' else H0 w'') → InvMut l S H0 H1 X n h (putsR a r) w (fun k => L k || k == i) (a'.put o.dst v) w'' := by
   intro v w'' hSv hb hH
   rw [hod]
   have hsame : (a'.put (some d) v).eval (.tmp d) = v := eval_put_same hdl2
   have hoth : ∀ i' d', i' < n → i' ≠ i → dstOf l i' = some d' → (a'.put (some d) v).eval (.tmp d') = a'.eval (.tmp d') := fun i' d' hi' hne hd' => eval_put_other (fun e => hdne i' hi' (fun h => hne h.symm) (by rw [hd', e]))
   refine ⟨by simpa [Act.put] using inv.tmps, inv.defers, inv.grow.trans hb, fun t htn => ?_, fun i' hi' hL d' hd' => ?_, hH⟩
   ·rw [eval_put_other (fun e => htn i hi (by rw [hdi, e]))]
    exact inv.others t htn
   ·by_cases hii : i' = i
    ·subst hii
     rw [hdi] at hd'
     cases hd'
     rw [hsame]; exact hSv
    ·rw [hoth i' d' hi' hii hd']
     exact hS.nth _ _ _ _ (inv.vals i' hi' (by simpa [hii] using hL) d' hd') hb
  by_cases e : i = h
  ·rw [if_pos e] at h1
   have hH := inv.hot
   rw [← e, hun] at hH
   obtain ⟨f, vs, hr, hc⟩ := h1 (by simpa using hH)
   unfold Oper.wp
   rw [hr]
   refine Calls.mono hc ?_
   rintro e' w'' ⟨v, rfl, hSv, hb, hH1'⟩
   exact hK _ _ (next v w'' hSv hb (by rw [if_pos (by simp [e])]; exact hH1'))
  ·rw [if_neg e] at h1
   refine h1.wp (fun v w'' hSv hb => hK _ _ (next v w'' hSv (BelowX.of hb) ?_))
   have hH := inv.hot
   have e2 : (h == i) = false := by simpa using fun e' => e e'.symm
   rw [e2, Bool.or_false]
   split
   ·rename_i hL; rw [if_pos hL] at hH; exact hH1 _ _ hH hb
   ·rename_i hL; rw [if_neg hL] at hH; exact hH0 _ _ hH hb
 ·intro L a' w' inv hall
  have hH := inv.hot
  rw [if_pos (hall h (by simpa using hh))] at hH
  exact hend a' w' (by rw [inv.tmps, putsR_size, hs]) (by rw [inv.defers, putsR_defers, hdf]) inv.grow hH (fun t htn => inv.others t (contains_of hds htn)) (fun i d hi hd' => inv.vals i (by simpa using hi) (hall i (by simpa using hi)) d hd')
end
end Go.Proofs.Ytggalcdkfielkaa
/-
 WALKS: record: a reader.
-/
namespace Go.Proofs.Ytggalcdkfielkaa
open Go.RowKit
set_option linter.unusedVariables false
set_option linter.unusedSimpArgs false
set_option maxRecDepth 100000
attribute [local irreducible] wpList wpListIn putsR

theorem openL_length {ks ns ad bs xs : List Nat} {r : Nat} (h : openL ks ns ad bs = (xs, r)) (hr : r = 0) : xs.length + 16 = bs.length := by
 unfold openL at h
 split at h
 ·cases h; omega
 ·split at h
  ·cases h
   rw [xorS_length, List.length_take]
   omega
  ·cases h; omega
theorem Wt.first {w : World} {A : Option Addr} {c n : Nat} {xs : List Nat} (h : Wt w A c xs) (hn : n ≤ xs.length) : Bs w (subA A 0 c) c (xs.take n) := by
 have h1 := Bs.sub h.bs (l := 0) (q := n) (m := c) (by omega) (by have := h.le; omega) (Nat.le_refl _)
 rwa [List.drop_zero, Nat.sub_zero, Nat.sub_zero] at h1
theorem Unwrap_none {A0 : Option Addr} {c0 q : Nat} {bs : List Nat} (w : World) (h0 : Bs w A0 c0 bs) (hq : bs.length = q) (hl : q ≤ 100000) (hu : unwrapL bs = none) :
  Calls Try.prog 71 #[.slice A0 q c0] w fun e w' => ∃ r : Nat, r ≠ 0 ∧ e = .returned (.tuple #[.slice none 0 0, .int .i64 (r : Int)]) ∧ Below w.heap.size w w' := by
 refine Calls.mono (Unwrap_any w h0 hq hl) ?_
 rintro e w' (⟨r, hr, _, he, hb⟩ | ⟨b, A, c, h, _⟩)
 ·exact ⟨r, hr, he, hb⟩
 ·rw [hu] at h; cases h
theorem Unwrap_some {A0 : Option Addr} {c0 q : Nat} {bs b : List Nat} (w : World) (h0 : Bs w A0 c0 bs) (hq : bs.length = q) (hl : q ≤ 100000) (hu : unwrapL bs = some b) :
  Calls Try.prog 71 #[.slice A0 q c0] w fun e w' => ∃ A c, e = .returned (.tuple #[.slice A b.length c, .int .i64 0]) ∧ Own w' w.heap.size A c b ∧ Below w.heap.size w w' := by
 refine Calls.mono (Unwrap_any w h0 hq hl) ?_
 rintro e w' (⟨r, hr, h, _⟩ | ⟨b', A, c, h, he, hO, hb⟩)
 ·rw [hu] at h; cases h
 ·rw [hu] at h; cases h
  exact ⟨A, c, he, hO, hb⟩
/-- A reader lies at gr, its cipher at gc (N: its blocks), what waits at A. -/
structure ReaderP (w : World) (N : Nat → Prop) (gr gc : Nat) (A : Option Addr) (c : Nat) (r : Rd) : Prop where
 cip : CipherAt w N gc r.co.k r.co.n
 blk : Blk w gr #[.pointer (some ⟨gc, 0, none⟩), .int .i64 ((r.co.every : Nat) : Int), .int .i64 ((r.co.cnt : Nat) : Int), .slice A (r.wait.length) c, .int .i64 ((r.body : Nat) : Int), .bool r.dead] 71
 wt : Wt w A c r.wait
 apart : ¬ N gr
 sep : Sep (blkA A) N
/-! The steps. -/
theorem stepA1 {co : Co} {ws xs : List Nat} {r : Nat} {dead : Bool} (h18 : 18 ≤ ws.length) (ho : openL co.k (nonceL co.n) [] (ws.take 18) = (xs, r)) (hr : ¬ r = 0) : stepR ⟨co, ws, 0, dead⟩ = some (⟨co, ws.drop 18, 0, dead⟩, r, []) := by
 unfold stepR
 dsimp only
 rw [if_pos rfl, if_neg (by omega), ho]
 dsimp only
 rw [if_pos hr]
theorem stepA2 {co : Co} {ws xs : List Nat} {r : Nat} {dead : Bool} (h18 : 18 ≤ ws.length) (ho : openL co.k (nonceL co.n) [] (ws.take 18) = (xs, r)) (hr : r = 0) (hn : ¬ lenOf xs = sizeN (lenOf xs / 2 - 1)) : stepR ⟨co, ws, 0, dead⟩ = some (⟨co.up 1, ws.drop 18, 0, dead⟩, 3, []) := by
 unfold stepR
 dsimp only
 rw [if_pos rfl, if_neg (by omega), ho]
 dsimp only
 rw [if_neg (by omega), if_pos hn]
theorem stepA3 {co : Co} {ws xs : List Nat} {r : Nat} {dead : Bool} (h18 : 18 ≤ ws.length) (ho : openL co.k (nonceL co.n) [] (ws.take 18) = (xs, r)) (hr : r = 0) (hn : lenOf xs = sizeN (lenOf xs / 2 - 1)) : stepR ⟨co, ws, 0, dead⟩ = some (⟨co.up 1, ws.drop 18, lenOf xs + 16, dead⟩, 0, []) := by
 unfold stepR
 dsimp only
 rw [if_pos rfl, if_neg (by omega), ho]
 dsimp only
 rw [if_neg (by omega), if_neg (by omega)]
theorem stepB1 {co : Co} {ws xs : List Nat} {r body : Nat} {dead : Bool} (hb : 0 < body) (h18 : body ≤ ws.length) (ho : openL co.k (nonceL co.n) [] (ws.take body) = (xs, r)) (hr : ¬ r = 0) : stepR ⟨co, ws, body, dead⟩ = some (⟨co, ws.drop body, body, dead⟩, r, []) := by
 unfold stepR
 dsimp only
 rw [if_neg (by omega), if_neg (by omega), ho]
 dsimp only
 rw [if_pos hr]
theorem stepB2 {co : Co} {ws xs : List Nat} {r body : Nat} {dead : Bool} (hb : 0 < body) (h18 : body ≤ ws.length) (ho : openL co.k (nonceL co.n) [] (ws.take body) = (xs, r)) (hr : r = 0) (hu : unwrapL xs = none) : stepR ⟨co, ws, body, dead⟩ = some (⟨co.up 1, ws.drop body, body, dead⟩, 3, []) := by
 unfold stepR
 dsimp only
 rw [if_neg (by omega), if_neg (by omega), ho]
 dsimp only
 rw [if_neg (by omega), hu]
theorem stepB3 {co : Co} {ws xs b : List Nat} {r body : Nat} {dead : Bool} (hb : 0 < body) (h18 : body ≤ ws.length) (ho : openL co.k (nonceL co.n) [] (ws.take body) = (xs, r)) (hr : r = 0) (hu : unwrapL xs = some b) : stepR ⟨co, ws, body, dead⟩ = some (⟨(co.up 1).count, ws.drop body, 0, dead⟩, 0, [b]) := by
 unfold stepR
 dsimp only
 rw [if_neg (by omega), if_neg (by omega), ho]
 dsimp only
 rw [if_neg (by omega), hu]
theorem Wt.keepMC {w w' : World} {N : Nat → Prop} {gc n c : Nat} {A : Option Addr} {k xs : List Nat} (h : Wt w A c xs) (hC : CipherAt w N gc k n) : Sep (blkA A) (fun j => j = gc) := by
 obtain ⟨cu, hc⟩ := hC.blk
 exact fun j hj e => h.sepB hc (by decide) (e ▸ hj)
theorem Wt.keepM {w w' : World} {c : Nat} {A : Option Addr} {xs : List Nat} {X : Nat → Prop} (h : Wt w A c xs) (hb : BelowX X w w') (hs : Sep (blkA A) X) : Wt w' A c xs := h.keep (hb.kept h.lt hs)
theorem takes_any {N : Nat → Prop} {gr gc ev cnt num body wl c : Nat} {A : Option Addr} {ks ws : List Nat} {dead : Bool} {n r : Nat} {xs : List Nat} (w : World) (hB : Blk w gr #[.pointer (some ⟨gc, 0, none⟩), .int .i64 ((ev : Nat) : Int), .int .i64 ((cnt : Nat) : Int), .slice A (wl) (c), .int .i64 ((body : Nat) : Int), .bool (dead)] 71) (hC : CipherAt w N gc ks num) (hWt : Wt w A c ws) (hn : ¬ N gr) (hwl : ws.length = wl) (hnw : n ≤ ws.length) (hn6 : n ≤ 65535) (hnum : num < 18446744073709551615) (hs0 : openL ks (nonceL num) [] (ws.take n) = (xs, r)) :
  Calls Try.prog 70 #[.pointer (some ⟨gr, 0, none⟩), .int .i64 ((n : Nat) : Int)] w fun e w' => ∃ A1 c1, e = .returned (.tuple #[.slice A1 xs.length c1, .int .i64 ((r : Nat) : Int)]) ∧ Own w' w.heap.size A1 c1 xs ∧ (∃ N', CipherAt w' N' gc ks (if r = 0 then num + 1 else num) ∧ NextM w N N') ∧ Blk w' gr #[.pointer (some ⟨gc, 0, none⟩), .int .i64 ((ev : Nat) : Int), .int .i64 ((cnt : Nat) : Int), .slice ((subA A n c)) (wl - n) (c - n), .int .i64 ((body : Nat) : Int), .bool (dead)] 71 ∧ Wt w' (subA A n c) (c - n) (ws.drop n) ∧ BelowX (fun j => j = gr ∨ j = gc) w w' := by
 have hsepC := hWt.keepMC (w' := w) hC
 have hfl : (ws.take n).length = n := List.length_take_of_le hnw
 have hgne : ¬ gr = gc := fun e => hn (by rw [e]; exact hC.mem)
 have hwc := hWt.le
 refine x_enter 34 Try.func70 rfl rfl (fun a hs hd ha0 => ?_)
 have t0 : a.eval (.tmp 0) = .pointer (some ⟨gr, 0, none⟩) := ha0 0 _ rfl
 have t1 : a.eval (.tmp 1) = .int .i64 ((n : Nat) : Int) := ha0 1 _ rfl
 clear ha0
 have HB0 : BelowX (fun j => j = gr ∨ j = gc) w w := BelowX.refl _ _
 refine w2_sr (fun K_1 hK_1 => ?_)
 refine q_as (.slice none (0) (0)) rfl ?_
 refine q_as (.int .i64 ((0 : Nat) : Int)) rfl ?_
 refine x_nil (hK_1 _ _ ?_)
 refine w2_seq (fun K_2 hK_2 => ?_)
 refine x_drawnM 16 11 (fun j => j = gc) (fun w' => CipherAt w' N gc ks num) (fun w' => ∃ N', CipherAt w' N' gc ks (if r = 0 then num + 1 else num) ∧ NextM w N N') [fun _ v => v = .pointer (some ⟨gr, 0, none⟩), fun _ v => v = .pointer (some ⟨gr, 0, none⟩), fun _ v => v = .pointer (some ⟨gr, 0, none⟩), fun _ v => v = .pointer (some ⟨gr, 0, none⟩), fun _ v => v = .pointer (some ⟨gc, 0, none⟩), fun _ v => v = .pointer (some ⟨gr, 0, none⟩), fun _ v => v = .pointer (some ⟨gr, 0, none⟩), fun _ v => v = .pointer (some ⟨gr, 3, none⟩), fun _ v => v = .slice A (wl) (c), fun _ v => v = .int .i64 ((n : Nat) : Int), fun _ v => v = .slice ((subA A 0 c)) (n) (c), fun ww vv => TupN w.heap.size (xs.length) (xs) (r) ww vv, fun ww vv => TupN w.heap.size (xs.length) (xs) (r) ww vv, fun ww vv => OwnN w.heap.size (xs.length) (xs) ww vv, fun _ v => v = .int .i64 ((r : Nat) : Int), fun ww vv => OwnN w.heap.size (xs.length) (xs) ww vv] [9, 10, 11, 12, 13, 14, 15, 16, 17, 18, 19, 20, 8, 21, 22, 6] hs hd (by kernel_rfl) (by kernel_rfl) (by kernel_rfl) (by kernel_rfl) (by kernel_rfl) rfl ⟨stLitX, stLitX, stLitX, stLitX, stLitX, stLitX, stLitX, stLitX, stLitX, stLitX, stLitX, (stTupX (fun j hj => hj ▸ hC.lt _ hC.mem)), (stTupX (fun j hj => hj ▸ hC.lt _ hC.mem)), (stOwnX (fun j hj => hj ▸ hC.lt _ hC.mem)), stLitX, (stOwnX (fun j hj => hj ▸ hC.lt _ hC.mem)), trivial⟩ (fun _ _ h hb => h.nx hb) (fun _ _ ⟨N', h, h2⟩ hb => ⟨N', h.nx hb, h2⟩) hC ⟨(stepM_val rfl rfl (fun a' w' hb' hO hD => by
   have d_1 := (hO 0 (by decide)).trans ((pm rfl).trans t0)
   exact .inl ⟨_, _, (o_move rfl d_1), rfl, Below.refl _ _⟩)),
(stepM_val rfl rfl (fun a' w' hb' hO hD => by
   have d_2 : a'.eval (.tmp 9) = .pointer (some ⟨gr, 0, none⟩) := hD 0 9 (by kernel_rfl) rfl
   exact .inl ⟨_, _, (o_nilCheck rfl d_2), rfl, Below.refl _ _⟩)),
(stepM_val rfl rfl (fun a' w' hb' hO hD => by
   have d_3 : a'.eval (.tmp 10) = .pointer (some ⟨gr, 0, none⟩) := hD 1 10 (by kernel_rfl) rfl
   exact .inl ⟨_, _, (o_field (k' := 0) rfl d_3 (fun _ => by kernel_rfl)), rfl, Below.refl _ _⟩)),
(stepM_val rfl rfl (fun a' w' hb' hO hD => by
   have d_4 : a'.eval (.tmp 11) = .pointer (some ⟨gr, 0, none⟩) := hD 2 11 (by kernel_rfl) rfl
   exact .inl ⟨_, _, (o_field (k' := 0) rfl d_4 (fun _ => by kernel_rfl)), rfl, Below.refl _ _⟩)),
(stepM_val rfl rfl (fun a' w' hb' hO hD => by
   have d_5 : a'.eval (.tmp 12) = .pointer (some ⟨gr, 0, none⟩) := hD 3 12 (by kernel_rfl) rfl
   exact .inl ⟨_, _, (o_load1 rfl d_5 (hb'.blk hB hgne) rfl ⟨by kernel_rfl, by kernel_rfl⟩), rfl, Below.refl _ _⟩)),
(stepM_val rfl rfl (fun a' w' hb' hO hD => by
   have d_6 := (hO 0 (by decide)).trans ((pm rfl).trans t0)
   exact .inl ⟨_, _, (o_move rfl d_6), rfl, Below.refl _ _⟩)),
(stepM_val rfl rfl (fun a' w' hb' hO hD => by
   have d_7 : a'.eval (.tmp 14) = .pointer (some ⟨gr, 0, none⟩) := hD 5 14 (by kernel_rfl) rfl
   exact .inl ⟨_, _, (o_nilCheck rfl d_7), rfl, Below.refl _ _⟩)),
(stepM_val rfl rfl (fun a' w' hb' hO hD => by
   have d_8 : a'.eval (.tmp 15) = .pointer (some ⟨gr, 0, none⟩) := hD 6 15 (by kernel_rfl) rfl
   exact .inl ⟨_, _, (o_field (k' := 3) rfl d_8 (fun _ => by kernel_rfl)), rfl, Below.refl _ _⟩)),
(stepM_val rfl rfl (fun a' w' hb' hO hD => by
   have d_9 : a'.eval (.tmp 16) = .pointer (some ⟨gr, 3, none⟩) := hD 7 16 (by kernel_rfl) rfl
   exact .inl ⟨_, _, (o_load1 rfl d_9 (hb'.blk hB hgne) rfl ⟨by kernel_rfl, by kernel_rfl⟩), rfl, Below.refl _ _⟩)),
(stepM_val rfl rfl (fun a' w' hb' hO hD => by
   have d_10 := (hO 1 (by decide)).trans ((pm rfl).trans t1)
   exact .inl ⟨_, _, (o_move rfl d_10), rfl, Below.refl _ _⟩)),
(stepM_val rfl rfl (fun a' w' hb' hO hD => by
   have d_11 : a'.eval (.tmp 17) = .slice A (wl) (c) := hD 8 17 (by kernel_rfl) rfl
   have d_12 : a'.eval (.tmp 18) = .int .i64 ((n : Nat) : Int) := hD 9 18 (by kernel_rfl) rfl
   exact .inl ⟨_, _, (o_sliceH rfl d_11 d_12 (by omega)), rfl, Below.refl _ _⟩)),
(stepM_hot rfl (fun a' w' hb' hO hD hH0 => by
   have d_13 : a'.eval (.tmp 13) = .pointer (some ⟨gc, 0, none⟩) := hD 4 13 (by kernel_rfl) rfl
   have d_14 : a'.eval (.tmp 19) = .slice ((subA A 0 c)) (n) (c) := hD 10 19 (by kernel_rfl) rfl
   exact ⟨_, #[.pointer (some ⟨gc, 0, none⟩), .slice none (0) (0), .slice ((subA A 0 c)) (n) (c)], (exec_call Try.func91 (by kernel_rfl) (by kernel_rfl) _ rfl _ _ (args3 d_13 rfl d_14)), Calls.mono (COpen_any _ hH0 (Bs.nil _) ((hWt.keepM hb' hsepC).first hnw) rfl hfl (by omega) (by omega) hnum hs0) (fun e w'' hR => by obtain ⟨A_1, c_1, rfl, ho_1, hH_1, hX_1⟩ := hR; exact ⟨_, rfl, ⟨_, _, rfl, ho_1.mono hb'.size⟩, hX_1, (by obtain ⟨N', h1, h2⟩ := hH_1; exact ⟨N', h1, fun j hj => (h2 j hj).imp id (Nat.le_trans hb'.size)⟩)⟩)⟩)),
(stepM_val rfl rfl (fun a' w' hb' hO hD => by
   have d_15 := hD 11 20 (by kernel_rfl) rfl
   obtain ⟨A_2, c_2, hv_1, hO_1⟩ := d_15
   exact .inl ⟨_, _, (o_move rfl hv_1), ⟨_, _, rfl, hO_1⟩, Below.refl _ _⟩)),
(stepM_val rfl rfl (fun a' w' hb' hO hD => by
   have d_16 := hD 12 8 (by kernel_rfl) rfl
   obtain ⟨A_3, c_3, hv_2, hO_2⟩ := d_16
   exact .inl ⟨_, _, (o_extract rfl hv_2 rfl), ⟨_, _, rfl, hO_2⟩, Below.refl _ _⟩)),
(stepM_val rfl rfl (fun a' w' hb' hO hD => by
   have d_17 := hD 12 8 (by kernel_rfl) rfl
   obtain ⟨A_4, c_4, hv_3, hO_3⟩ := d_17
   exact .inl ⟨_, _, (o_extract rfl hv_3 rfl), rfl, Below.refl _ _⟩)),
(stepM_val rfl rfl (fun a' w' hb' hO hD => by
   have d_18 := hD 13 21 (by kernel_rfl) rfl
   obtain ⟨A_5, c_5, hv_4, hO_4⟩ := d_18
   exact .inl ⟨_, _, (o_assign rfl hv_4), ⟨_, _, rfl, hO_4⟩, Below.refl _ _⟩)), trivial⟩ (fun a_1 w_1 hs_1 hd_1 hX_2 hH_2 hO_5 hV_1 => ?_)
 have ta_1_0 := (hO_5 0 (by decide)).trans ((pm rfl).trans t0)
 have ta_1_1 := (hO_5 1 (by decide)).trans ((pm rfl).trans t1)
 clear t0 t1 hd
 obtain ⟨N_1, hC_1, hNx_1⟩ := hH_2
 have hn_1 := hNx_1.not hn hB.lt
 replace hB := hX_2.blk hB (fun e => hn (by rw [e]; exact hC.mem))
 replace hWt := hC.wt hX_2 hWt
 have nx_1 := (NextM.refl w N).trans hNx_1 HB0.size
 have HB_1 := HB0.step hX_2 (fun k hk (hY : k = gc) => .inr hY)
 have x_1 := hV_1 11 20 rfl rfl
 obtain ⟨A_6, c_6, hv_5, hO_6⟩ := x_1
 replace hO_6 := hO_6.mono HB0.size
 have x_2 := hV_1 12 8 rfl rfl
 obtain ⟨A_7, c_7, hv_6, hO_7⟩ := x_2
 replace hO_7 := hO_7.mono HB0.size
 have x_3 := hV_1 13 21 rfl rfl
 obtain ⟨A_8, c_8, hv_7, hO_8⟩ := x_3
 replace hO_8 := hO_8.mono HB0.size
 have ta_1_22 : a_1.eval (.tmp 22) = .int .i64 ((r : Nat) : Int) := hV_1 14 22 rfl rfl
 have x_4 := hV_1 15 6 rfl rfl
 obtain ⟨A_9, c_9, hv_8, hO_9⟩ := x_4
 replace hO_9 := hO_9.mono HB0.size
 clear hV_1 hO_5
 simp only [List.drop_succ_cons, List.drop_zero]
 refine q_at ((pm rfl).trans ta_1_22) ?_
 refine x_nil (hK_2 _ _ ?_)
 refine w2_sr (fun K_3 hK_3 => ?_)
 refine q_mv ((pm rfl).trans ta_1_0) ?_
 refine q_mv ((pm rfl).trans ta_1_0) ?_
 refine q_nc (pe hs_1 rfl rfl) ?_
 refine q_fa 3 (pe hs_1 rfl rfl) ?_
 refine q_ld (v := .slice A (wl) (c)) (pe hs_1 rfl rfl) hB rfl ?_
 refine q_mv ((pm rfl).trans ta_1_1) ?_
 refine q_v 29 (.slice ((subA A n c)) (wl - n) (c - n)) (o_sliceL rfl (pe hs_1 rfl rfl) (pe hs_1 rfl rfl) (by omega)) ?_
 refine q_nc (pe hs_1 rfl rfl) ?_
 refine q_fa 3 (pe hs_1 rfl rfl) ?_
 refine op_do rfl rfl (o_store1 rfl (pe hs_1 rfl rfl) (pe hs_1 rfl rfl) rfl rfl hB (by simp only [List.length_cons, List.length_nil]; omega) ⟨by kernel_rfl, by kernel_rfl⟩) (fun w_2 hR_1 => ?_)
 obtain ⟨hB_1, hX_3⟩ := hR_1
 replace hWt := hWt.keepX hB (by decide) hX_3
 replace hC_1 := hC_1.keepX hX_3 hn_1
 replace hO_6 := hO_6.keepX hB (by decide) hX_3
 replace hO_7 := hO_7.keepX hB (by decide) hX_3
 replace hO_8 := hO_8.keepX hB (by decide) hX_3
 replace hO_9 := hO_9.keepX hB (by decide) hX_3
 have HB_2 := HB_1.step hX_3 (fun k hk (hY : k = gr) => .inl hY)
 clear hB
 simp only [List.set_cons_zero, List.set_cons_succ] at hB_1
 refine x_nil (hK_3 _ _ ?_)
 refine w2_sr (fun K_4 hK_4 => ?_)
 refine q_mv ((pm rfl).trans hv_8) ?_
 refine q_mv (pe hs_1 rfl rfl) ?_
 refine q_at (pe hs_1 rfl rfl) ?_
 refine q_at (pe hs_1 rfl rfl) ?_
 refine x_nil (hK_4 _ _ ?_)
 refine w2_ret ?_
 refine ret2 rfl hd_1 (pe hs_1 rfl rfl) (pe hs_1 rfl rfl) ?_
 exact ⟨_, _, rfl, hO_9, ⟨N_1, hC_1, nx_1⟩, hB_1, hWt.drop hnw, HB_2⟩
theorem length_any {N : Nat → Prop} {gr gc ev cnt num c : Nat} {A : Option Addr} {ks ws : List Nat} {dead : Bool} {x : Rd × Nat × List (List Nat)} (w : World) (hP : ReaderP w N gr gc A c ⟨⟨ks, num, ev, cnt⟩, ws, 0, dead⟩) (hnum : num < 9223372036854775807) (hx : stepR ⟨⟨ks, num, ev, cnt⟩, ws, 0, dead⟩ = some x) (hnw : 18 ≤ ws.length) :
  Calls Try.prog 48 #[.pointer (some ⟨gr, 0, none⟩)] w fun e w' => e = .returned (.int .i64 ((x.2.1 : Nat) : Int)) ∧ (∃ N' A' c', ReaderP w' N' gr gc A' c' x.1 ∧ NextM w N N' ∧ ∀ j, blkA A' j → blkA A j) ∧ BelowX (fun j => j = gr ∨ j = gc) w w' := by
 obtain ⟨hC, hB, hWt, hn, hsep⟩ := hP
 have hWt0 := hWt
 obtain ⟨wl, hwl⟩ : ∃ q, ws.length = q := ⟨_, rfl⟩
 dsimp only at hC hB hWt
 rw [hwl] at hB
 obtain ⟨xs, r, hs0⟩ : ∃ xs r, openL ks (nonceL num) [] (ws.take 18) = (xs, r) := ⟨_, _, rfl⟩
 have hxl := fun (h : r = 0) => openL_length hs0 h
 rw [List.length_take_of_le hnw] at hxl
 refine x_enter 36 Try.func48 rfl rfl (fun a hs hd ha0 => ?_)
 have t0 : a.eval (.tmp 0) = .pointer (some ⟨gr, 0, none⟩) := ha0 0 _ rfl
 clear ha0
 have HB0 : BelowX (fun j => j = gr ∨ j = gc) w w := BelowX.refl _ _
 refine w2_sr (fun K_1 hK_1 => ?_)
 refine q_as (.int .i64 ((0 : Nat) : Int)) rfl ?_
 refine x_nil (hK_1 _ _ ?_)
 refine w2_sr (fun K_2 hK_2 => ?_)
 refine q_mv ((pm rfl).trans t0) ?_
 refine q_ca (vs := #[.pointer (some ⟨gr, 0, none⟩), .int .i64 ((18 : Nat) : Int)]) Try.func70 (args2 (pe hs rfl rfl) rfl) (takes_any _ hB hC hWt hn hwl hnw (by omega) (by omega) hs0) (fun e_1 w_1 hR_1 => ?_)
 obtain ⟨A_1, c_1, rfl, ho_1, ⟨N_1, hC_1, hNx_1⟩, hB_1, hWt_1, hX_1⟩ := hR_1
 have hn_1 := hNx_1.not hn hB.lt
 have nx_1 := (NextM.refl w N).trans hNx_1 HB0.size
 replace ho_1 := ho_1.mono HB0.size
 have HB_1 := HB0.step hX_1 (fun k hk hY => hY)
 have hl_1 : (ws.drop 18).length = wl - 18 := by rw [List.length_drop, hwl]
 refine ⟨_, rfl, ?_⟩
 refine q_mv (pe hs rfl rfl) ?_
 refine q_ex (v := .slice A_1 (xs.length) (c_1)) (pe hs rfl rfl) rfl ?_
 refine q_ex (v := .int .i64 ((r : Nat) : Int)) (pe hs rfl rfl) rfl ?_
 refine q_at (pe hs rfl rfl) ?_
 refine q_at (pe hs rfl rfl) ?_
 refine x_nil (hK_2 _ _ ?_)
 refine w2_seq (fun K_3 hK_3 => ?_)
 refine w2_sr (fun K_4 hK_4 => ?_)
 refine q_mv (pe hs rfl rfl) ?_
 refine q_v 12 (.bool (!decide (r = 0))) (o_neq (m := r) (n := 0) rfl (pe hs rfl rfl) rfl) ?_
 refine x_nil (hK_4 _ _ ?_)
 refine w2_split (pe hs rfl rfl) (fun h_1 => ?_) (fun h_1 => ?_)
 ·simp only [DD9] at h_1
  have hr0 : ¬ r = 0 := h_1
  refine w2_sr (fun K_5 hK_5 => ?_)
  refine q_mv (pe hs rfl rfl) ?_
  refine q_at (pe hs rfl rfl) ?_
  refine x_nil (hK_5 _ _ ?_)
  refine w2_ret ?_
  refine thn_ret ?_
  refine ret1 rfl hd (pe hs rfl rfl) ?_
  have hx2 := stepA1 (co := ⟨ks, num, ev, cnt⟩) (dead := dead) hnw hs0 hr0
  rw [hx] at hx2
  obtain rfl := Option.some.inj hx2
  have hs9 : Sep (blkA ((subA A 18 c))) N_1 := fun j hj hm => (nx_1.sep hsep hWt0.lt) j (blkA_sub hj) hm
  refine ⟨rfl, ⟨N_1, (subA A 18 c), c - 18, ⟨?_, ?_, hWt_1, hn_1, hs9⟩, nx_1, fun j hj => blkA_sub hj⟩, HB_1⟩
  ·have h9 := hC_1; rw [if_neg hr0] at h9; exact h9
  ·have h9 := hB_1; rw [← List.length_drop.trans (congrArg (· - 18) hwl)] at h9; exact h9
 ·simp only [DD9] at h_1
  have hr0 : r = 0 := by have h9 := h_1; omega
  have hx2l : xs.length = 2 := by have := hxl hr0; omega
  have b0 := getD_lt ho_1.bs.b8 0
  have b1 := getD_lt ho_1.bs.b8 1
  have hlo : lenOf xs < 65536 := by unfold lenOf; omega
  refine w2_skip ?_
  refine hK_3 _ _ ?_
  refine w2_seq (fun K_6 hK_6 => ?_)
  refine x_drawn 9 [fun _ v => v = .slice A_1 (xs.length) (c_1), fun _ v => v = .pointer (atA A_1 (0)), fun _ v => v = .int .u8 ((xs.getD (0) 0 : Nat) : Int), fun _ v => v = .int .i64 ((xs.getD (0) 0 : Nat) : Int), fun _ v => v = .int .i64 (((xs.getD (0) 0) * 256 : Nat) : Int), fun _ v => v = .slice A_1 (xs.length) (c_1), fun _ v => v = .pointer (atA A_1 (1)), fun _ v => v = .int .u8 ((xs.getD (1) 0 : Nat) : Int), fun _ v => v = .int .i64 ((xs.getD (1) 0 : Nat) : Int)] [14, 15, 16, 17, 18, 19, 20, 21, 22] hs hd (by kernel_rfl) (by kernel_rfl) (by kernel_rfl) (by kernel_rfl) (by kernel_rfl) ⟨stLit, stLit, stLit, stLit, stLit, stLit, stLit, stLit, stLit, trivial⟩ ⟨(step_ok rfl (fun a' w' hb' hO hD => by
    have d_1 : a'.eval (.tmp 3) = .slice A_1 (xs.length) (c_1) := (hO 3 (by decide)).trans (pe hs rfl rfl)
    exact .inl ⟨_, _, (o_move rfl d_1), rfl, Below.refl _ _⟩)),
(step_ok rfl (fun a' w' hb' hO hD => by
    have d_2 : a'.eval (.tmp 14) = .slice A_1 (xs.length) (c_1) := hD 0 14 (by kernel_rfl) rfl
    exact .inl ⟨_, _, (o_ix (k := 0) rfl d_2 rfl (by omega) (((ho_1.nx hb')).bs.some (by rw [hx2l]; omega))), rfl, Below.refl _ _⟩)),
(step_ok rfl (fun a' w' hb' hO hD => by
    have d_3 : a'.eval (.tmp 15) = .pointer (atA A_1 (0)) := hD 1 15 (by kernel_rfl) rfl
    exact .inl ⟨_, _, (o_ld8 rfl d_3 ((ho_1.nx hb')).bs (by rw [hx2l]; omega) rfl), rfl, Below.refl _ _⟩)),
(step_ok rfl (fun a' w' hb' hO hD => by
    have d_4 : a'.eval (.tmp 16) = .int .u8 ((xs.getD (0) 0 : Nat) : Int) := hD 2 16 (by kernel_rfl) rfl
    exact .inl ⟨_, _, (o_conv (m := (xs.getD (0) 0)) (r := xs.getD (0) 0) rfl d_4 ⟨.int .u8, fun _ => by kernel_rfl⟩ (fun _ => by kernel_rfl) (IntWalk.i64_in _ (by omega))), rfl, Below.refl _ _⟩)),
(step_ok rfl (fun a' w' hb' hO hD => by
    have d_5 : a'.eval (.tmp 17) = .int .i64 ((xs.getD (0) 0 : Nat) : Int) := hD 3 17 (by kernel_rfl) rfl
    exact .inl ⟨_, _, (o_shl8 (m := (xs.getD (0) 0)) rfl d_5 rfl (by omega)), rfl, Below.refl _ _⟩)),
(step_ok rfl (fun a' w' hb' hO hD => by
    have d_6 : a'.eval (.tmp 3) = .slice A_1 (xs.length) (c_1) := (hO 3 (by decide)).trans (pe hs rfl rfl)
    exact .inl ⟨_, _, (o_move rfl d_6), rfl, Below.refl _ _⟩)),
(step_ok rfl (fun a' w' hb' hO hD => by
    have d_7 : a'.eval (.tmp 19) = .slice A_1 (xs.length) (c_1) := hD 5 19 (by kernel_rfl) rfl
    exact .inl ⟨_, _, (o_ix (k := 1) rfl d_7 rfl (by omega) (((ho_1.nx hb')).bs.some (by rw [hx2l]; omega))), rfl, Below.refl _ _⟩)),
(step_ok rfl (fun a' w' hb' hO hD => by
    have d_8 : a'.eval (.tmp 20) = .pointer (atA A_1 (1)) := hD 6 20 (by kernel_rfl) rfl
    exact .inl ⟨_, _, (o_ld8 rfl d_8 ((ho_1.nx hb')).bs (by rw [hx2l]; omega) rfl), rfl, Below.refl _ _⟩)),
(step_ok rfl (fun a' w' hb' hO hD => by
    have d_9 : a'.eval (.tmp 21) = .int .u8 ((xs.getD (1) 0 : Nat) : Int) := hD 7 21 (by kernel_rfl) rfl
    exact .inl ⟨_, _, (o_conv (m := (xs.getD (1) 0)) (r := xs.getD (1) 0) rfl d_9 ⟨.int .u8, fun _ => by kernel_rfl⟩ (fun _ => by kernel_rfl) (IntWalk.i64_in _ (by omega))), rfl, Below.refl _ _⟩)), trivial⟩ (fun a_1 w_2 hs_1 hd_1 hb_1 hO_1 hV_1 => ?_)
  have ta_1_0 := (hO_1 0 (by decide)).trans ((pm rfl).trans t0)
  clear t0 hd
  replace hB_1 := hB_1.nx hb_1
  replace hC_1 := hC_1.nx hb_1
  replace hWt_1 := hWt_1.nx hb_1
  have HB_2 := HB_1.then hb_1
  have ta_1_18 : a_1.eval (.tmp 18) = .int .i64 (((xs.getD (0) 0) * 256 : Nat) : Int) := hV_1 4 18 rfl rfl
  have ta_1_22 : a_1.eval (.tmp 22) = .int .i64 ((xs.getD (1) 0 : Nat) : Int) := hV_1 8 22 rfl rfl
  clear hV_1 hO_1
  simp only [List.drop_succ_cons, List.drop_zero]
  refine q_v 23 (.int .i64 (((xs.getD (0) 0) * 256 + (xs.getD (1) 0) : Nat) : Int)) (o_or8 (m := (xs.getD (0) 0)) (n := (xs.getD (1) 0)) rfl ((pm rfl).trans ta_1_18) ((pm rfl).trans ta_1_22) (by omega) (by omega)) ?_
  refine q_v 5 (.int .i64 ((lenOf xs : Nat) : Int)) (o_eq (o_assign rfl (pe hs_1 rfl rfl)) rfl) ?_
  refine x_nil (hK_6 _ _ ?_)
  refine w2_seq (fun K_7 hK_7 => ?_)
  refine w2_sr (fun K_8 hK_8 => ?_)
  refine q_mv (pe hs_1 rfl rfl) ?_
  refine q_mv (pe hs_1 rfl rfl) ?_
  refine q_v 26 (.int .i64 (((lenOf xs) / 2 : Nat) : Int)) (o_quo (m := (lenOf xs)) (n := 2) rfl (pe hs_1 rfl rfl) rfl (by omega) (IntWalk.i64_in _ (by omega))) ?_
  refine q_v 27 (.int .i64 (((((lenOf xs) / 2) : Nat) : Int) - ((1 : Nat) : Int))) (o_subZ (m := ((lenOf xs) / 2)) (n := 1) rfl (pe hs_1 rfl rfl) rfl (by omega) (by omega)) ?_
  refine q_v 28 (.int .i64 ((((lenOf xs) / 2) - 1 : Nat) : Int)) (o_max0 (m := ((lenOf xs) / 2)) (n := 1) rfl rfl (pe hs_1 rfl rfl)) ?_
  refine q_ca (vs := #[.int .i64 ((((lenOf xs) / 2) - 1 : Nat) : Int)]) Try.func64 (args1 (pe hs_1 rfl rfl)) (Size_any _ _) (fun e_2 w_3 hR_2 => ?_)
  obtain ⟨rfl, rfl⟩ := hR_2
  refine ⟨_, rfl, ?_⟩
  refine q_v 30 (.bool (!decide ((lenOf xs) = (sizeN (((lenOf xs) / 2) - 1))))) (o_neq (m := (lenOf xs)) (n := (sizeN (((lenOf xs) / 2) - 1))) rfl (pe hs_1 rfl rfl) (pe hs_1 rfl rfl)) ?_
  refine x_nil (hK_8 _ _ ?_)
  refine w2_split (pe hs_1 rfl rfl) (fun h_2 => ?_) (fun h_2 => ?_)
  ·simp only [DD9] at h_2
   have hsz := h_2
   refine w2_sr (fun K_9 hK_9 => ?_)
   refine q_as (.int .i64 ((3 : Nat) : Int)) rfl ?_
   refine x_nil (hK_9 _ _ ?_)
   refine w2_ret ?_
   refine thn_ret ?_
   refine ret1 rfl hd_1 (pe hs_1 rfl rfl) ?_
   have hx2 := stepA2 (co := ⟨ks, num, ev, cnt⟩) (dead := dead) hnw hs0 hr0 hsz
   rw [hx] at hx2
   obtain rfl := Option.some.inj hx2
   have hs9 : Sep (blkA ((subA A 18 c))) N_1 := fun j hj hm => (nx_1.sep hsep hWt0.lt) j (blkA_sub hj) hm
   refine ⟨rfl, ⟨N_1, (subA A 18 c), c - 18, ⟨?_, ?_, hWt_1, hn_1, hs9⟩, nx_1, fun j hj => blkA_sub hj⟩, HB_2⟩
   ·have h9 := hC_1; rw [if_pos hr0] at h9; exact h9
   ·have h9 := hB_1; rw [← List.length_drop.trans (congrArg (· - 18) hwl)] at h9; exact h9
  ·simp only [DD9] at h_2
   have hsz : lenOf xs = sizeN (lenOf xs / 2 - 1) := by have h9 := h_2; omega
   refine w2_skip ?_
   refine hK_7 _ _ ?_
   refine w2_sr (fun K_10 hK_10 => ?_)
   refine q_mv ((pm rfl).trans ta_1_0) ?_
   refine q_mv (pe hs_1 rfl rfl) ?_
   refine q_v 33 (.int .i64 (((lenOf xs) + 16 : Nat) : Int)) (o_add64 (m := (lenOf xs)) (n := 16) rfl (pe hs_1 rfl rfl) rfl (by omega)) ?_
   refine q_nc (pe hs_1 rfl rfl) ?_
   refine q_fa 4 (pe hs_1 rfl rfl) ?_
   refine op_do rfl rfl (o_store1 rfl (pe hs_1 rfl rfl) (pe hs_1 rfl rfl) rfl rfl hB_1 (by simp only [List.length_cons, List.length_nil]; omega) ⟨by kernel_rfl, by kernel_rfl⟩) (fun w_4 hR_3 => ?_)
   obtain ⟨hB_2, hX_2⟩ := hR_3
   replace hC_1 := hC_1.keepX hX_2 hn_1
   replace hWt_1 := hWt_1.keepX hB_1 (by decide) hX_2
   have HB_3 := HB_2.step hX_2 (fun k hk (hY : k = gr) => .inl hY)
   clear hB_1
   simp only [List.set_cons_zero, List.set_cons_succ] at hB_2
   refine x_nil (hK_10 _ _ ?_)
   refine w2_sr (fun K_11 hK_11 => ?_)
   refine q_as (.int .i64 ((0 : Nat) : Int)) rfl ?_
   refine x_nil (hK_11 _ _ ?_)
   refine w2_ret ?_
   refine ret1 rfl hd_1 (pe hs_1 rfl rfl) ?_
   have hx2 := stepA3 (co := ⟨ks, num, ev, cnt⟩) (dead := dead) hnw hs0 hr0 hsz
   rw [hx] at hx2
   obtain rfl := Option.some.inj hx2
   have hs9 : Sep (blkA ((subA A 18 c))) N_1 := fun j hj hm => (nx_1.sep hsep hWt0.lt) j (blkA_sub hj) hm
   refine ⟨rfl, ⟨N_1, (subA A 18 c), c - 18, ⟨?_, ?_, hWt_1, hn_1, hs9⟩, nx_1, fun j hj => blkA_sub hj⟩, HB_3⟩
   ·have h9 := hC_1; rw [if_pos hr0] at h9; exact h9
   ·have h9 := hB_2; rw [← List.length_drop.trans (congrArg (· - 18) hwl)] at h9; exact h9
theorem whole_any {N : Nat → Prop} {gr gc ev cnt num body c : Nat} {A : Option Addr} {ks ws : List Nat} {dead : Bool} {x : Rd × Nat × List (List Nat)} (w : World) (hP : ReaderP w N gr gc A c ⟨⟨ks, num, ev, cnt⟩, ws, body, dead⟩) (hnum : num < 9223372036854775807) (hx : stepR ⟨⟨ks, num, ev, cnt⟩, ws, body, dead⟩ = some x) (hb0 : 0 < body) (hnw : body ≤ ws.length) (hb6 : body ≤ 65535) (he1 : 1 ≤ ev) (hc1 : cnt < 4611686018427387904) :
  Calls Try.prog 49 #[.pointer (some ⟨gr, 0, none⟩)] w fun e w' => ((¬ x.2.1 = 0 ∧ x.2.2 = [] ∧ e = .returned (.tuple #[.slice none 0 0, .int .i64 ((x.2.1 : Nat) : Int)]) ∧ (∃ N' A' c', ReaderP w' N' gr gc A' c' x.1 ∧ NextM w N N' ∧ ∀ j, blkA A' j → blkA A j)) ∨ (x.2.1 = 0 ∧ ∃ (b : List Nat) (A1 : Option Addr) (c1 : Nat), x.2.2 = [b] ∧ e = .returned (.tuple #[.slice A1 b.length c1, .int .i64 0]) ∧ Own w' w.heap.size A1 c1 b ∧ (∃ N' A' c', ReaderP w' N' gr gc A' c' x.1 ∧ NextM w N N' ∧ (∀ j, blkA A' j → blkA A j) ∧ Sep (blkA A1) N'))) ∧ BelowX (fun j => j = gr ∨ j = gc) w w' := by
 obtain ⟨hC, hB, hWt, hn, hsep⟩ := hP
 have hWt0 := hWt
 obtain ⟨wl, hwl⟩ : ∃ q, ws.length = q := ⟨_, rfl⟩
 dsimp only at hC hB hWt
 rw [hwl] at hB
 obtain ⟨xs, r, hs0⟩ : ∃ xs r, openL ks (nonceL num) [] (ws.take body) = (xs, r) := ⟨_, _, rfl⟩
 have hxl := fun (h : r = 0) => openL_length hs0 h
 rw [List.length_take_of_le hnw] at hxl
 refine x_enter 34 Try.func49 rfl rfl (fun a hs hd ha0 => ?_)
 have t0 : a.eval (.tmp 0) = .pointer (some ⟨gr, 0, none⟩) := ha0 0 _ rfl
 clear ha0
 have HB0 : BelowX (fun j => j = gr ∨ j = gc) w w := BelowX.refl _ _
 refine w2_sr (fun K_1 hK_1 => ?_)
 refine q_as (.slice none (0) (0)) rfl ?_
 refine q_as (.int .i64 ((0 : Nat) : Int)) rfl ?_
 refine x_nil (hK_1 _ _ ?_)
 refine w2_sr (fun K_2 hK_2 => ?_)
 refine q_mv ((pm rfl).trans t0) ?_
 refine q_mv ((pm rfl).trans t0) ?_
 refine q_nc (pe hs rfl rfl) ?_
 refine q_fa 4 (pe hs rfl rfl) ?_
 refine q_ld (v := .int .i64 ((body : Nat) : Int)) (pe hs rfl rfl) hB rfl ?_
 refine q_ca (vs := #[.pointer (some ⟨gr, 0, none⟩), .int .i64 ((body : Nat) : Int)]) Try.func70 (args2 (pe hs rfl rfl) (pe hs rfl rfl)) (takes_any _ hB hC hWt hn hwl hnw (by omega) (by omega) hs0) (fun e_1 w_1 hR_1 => ?_)
 obtain ⟨A_1, c_1, rfl, ho_1, ⟨N_1, hC_1, hNx_1⟩, hB_1, hWt_1, hX_1⟩ := hR_1
 have hn_1 := hNx_1.not hn hB.lt
 have nx_1 := (NextM.refl w N).trans hNx_1 HB0.size
 replace ho_1 := ho_1.mono HB0.size
 have HB_1 := HB0.step hX_1 (fun k hk hY => hY)
 have hl_1 : (ws.drop body).length = wl - body := by rw [List.length_drop, hwl]
 refine ⟨_, rfl, ?_⟩
 refine q_mv (pe hs rfl rfl) ?_
 refine q_ex (v := .slice A_1 (xs.length) (c_1)) (pe hs rfl rfl) rfl ?_
 refine q_ex (v := .int .i64 ((r : Nat) : Int)) (pe hs rfl rfl) rfl ?_
 refine q_at (pe hs rfl rfl) ?_
 refine q_at (pe hs rfl rfl) ?_
 refine x_nil (hK_2 _ _ ?_)
 refine w2_seq (fun K_3 hK_3 => ?_)
 refine w2_sr (fun K_4 hK_4 => ?_)
 refine q_mv (pe hs rfl rfl) ?_
 refine q_v 17 (.bool (!decide (r = 0))) (o_neq (m := r) (n := 0) rfl (pe hs rfl rfl) rfl) ?_
 refine x_nil (hK_4 _ _ ?_)
 refine w2_split (pe hs rfl rfl) (fun h_1 => ?_) (fun h_1 => ?_)
 ·simp only [DD9] at h_1
  have hr0 : ¬ r = 0 := h_1
  refine w2_sr (fun K_5 hK_5 => ?_)
  refine q_mv (pe hs rfl rfl) ?_
  refine q_as (.slice none (0) (0)) rfl ?_
  refine q_at (pe hs rfl rfl) ?_
  refine x_nil (hK_5 _ _ ?_)
  refine w2_ret ?_
  refine thn_ret ?_
  refine ret2 rfl hd (pe hs rfl rfl) (pe hs rfl rfl) ?_
  have hx2 := stepB1 (co := ⟨ks, num, ev, cnt⟩) (dead := dead) hb0 hnw hs0 hr0
  rw [hx] at hx2
  obtain rfl := Option.some.inj hx2
  have hs9 : Sep (blkA ((subA A body c))) N_1 := fun j hj hm => (nx_1.sep hsep hWt0.lt) j (blkA_sub hj) hm
  refine ⟨.inl ⟨hr0, rfl, rfl, ⟨N_1, (subA A body c), c - body, ⟨?_, ?_, hWt_1, hn_1, hs9⟩, nx_1, fun j hj => blkA_sub hj⟩⟩, HB_1⟩
  ·have h9 := hC_1; rw [if_neg hr0] at h9; exact h9
  ·have h9 := hB_1; rw [← List.length_drop.trans (congrArg (· - body) hwl)] at h9; exact h9
 ·simp only [DD9] at h_1
  have hr0 : r = 0 := by have h9 := h_1; omega
  have hxl2 := hxl hr0
  refine w2_skip ?_
  refine hK_3 _ _ ?_
  refine w2_seq (fun K_6 hK_6 => ?_)
  rcases hu : unwrapL xs with _ | b
  ·skip
   refine x_region (by kernel_rfl) ?_
   refine q_mv (pe hs rfl rfl) ?_
   refine q_ca (vs := #[.slice A_1 (xs.length) (c_1)]) Try.func71 (args1 (pe hs rfl rfl)) (Unwrap_none _ (ho_1).bs rfl (by omega) hu) (fun e_2 w_2 hR_2 => ?_)
   obtain ⟨q_1, hq_1, rfl, hb_1⟩ := hR_2
   replace hB_1 := hB_1.nx hb_1
   replace hC_1 := hC_1.nx hb_1
   replace hWt_1 := hWt_1.nx hb_1
   replace ho_1 := ho_1.nx hb_1
   have HB_2 := HB_1.then hb_1
   refine ⟨_, rfl, ?_⟩
   refine q_mv (pe hs rfl rfl) ?_
   refine q_ex (v := .slice none (0) (0)) (pe hs rfl rfl) rfl ?_
   refine q_ex (v := .int .i64 ((q_1 : Nat) : Int)) (pe hs rfl rfl) rfl ?_
   refine q_at (pe hs rfl rfl) ?_
   refine q_at (pe hs rfl rfl) ?_
   refine x_nil (hK_6 _ _ ?_)
   refine w2_seq (fun K_7 hK_7 => ?_)
   refine w2_sr (fun K_8 hK_8 => ?_)
   refine q_mv (pe hs rfl rfl) ?_
   refine q_v 25 (.bool (true)) (o_eq (o_neq (m := q_1) (n := 0) rfl (pe hs rfl rfl) rfl) (by simp [hq_1])) ?_
   refine x_nil (hK_8 _ _ ?_)
   refine w2_condT (pe hs rfl rfl) ?_
   refine w2_sr (fun K_9 hK_9 => ?_)
   refine q_as (.slice none (0) (0)) rfl ?_
   refine q_as (.int .i64 ((3 : Nat) : Int)) rfl ?_
   refine x_nil (hK_9 _ _ ?_)
   refine w2_ret ?_
   refine thn_ret ?_
   refine ret2 rfl hd (pe hs rfl rfl) (pe hs rfl rfl) ?_
   have hx2 := stepB2 (co := ⟨ks, num, ev, cnt⟩) (dead := dead) hb0 hnw hs0 hr0 hu
   rw [hx] at hx2
   obtain rfl := Option.some.inj hx2
   have hs9 : Sep (blkA ((subA A body c))) N_1 := fun j hj hm => (nx_1.sep hsep hWt0.lt) j (blkA_sub hj) hm
   refine ⟨.inl ⟨show ¬ (3 : Nat) = 0 by decide, rfl, rfl, ⟨N_1, (subA A body c), c - body, ⟨?_, ?_, hWt_1, hn_1, hs9⟩, nx_1, fun j hj => blkA_sub hj⟩⟩, HB_2⟩
   ·have h9 := hC_1; rw [if_pos hr0] at h9; exact h9
   ·have h9 := hB_1; rw [← List.length_drop.trans (congrArg (· - body) hwl)] at h9; exact h9
  ·skip
   refine x_region (by kernel_rfl) ?_
   refine q_mv (pe hs rfl rfl) ?_
   refine q_ca (vs := #[.slice A_1 (xs.length) (c_1)]) Try.func71 (args1 (pe hs rfl rfl)) (Unwrap_some _ (ho_1).bs rfl (by omega) hu) (fun e_3 w_3 hR_3 => ?_)
   obtain ⟨A_2, c_2, rfl, ho_2, hb_2⟩ := hR_3
   have gz_1 := ho_2.ge'
   have sp_1 : Sep (blkA A_2) N_1 := (Sep.new hC_1.lt gz_1).symm
   replace ho_2 := ho_2.mono HB_1.size
   replace hB_1 := hB_1.nx hb_2
   replace hC_1 := hC_1.nx hb_2
   replace hWt_1 := hWt_1.nx hb_2
   have HB_3 := HB_1.then hb_2
   refine ⟨_, rfl, ?_⟩
   refine q_mv (pe hs rfl rfl) ?_
   refine q_ex (v := .slice A_2 (b.length) (c_2)) (pe hs rfl rfl) rfl ?_
   refine q_ex (v := .int .i64 ((0 : Nat) : Int)) (pe hs rfl rfl) rfl ?_
   refine q_at (pe hs rfl rfl) ?_
   refine q_at (v := .int .i64 ((0 : Nat) : Int)) (pe hs rfl rfl) ?_
   refine x_nil (hK_6 _ _ ?_)
   refine w2_seq (fun K_10 hK_10 => ?_)
   refine w2_sr (fun K_11 hK_11 => ?_)
   refine q_mv (v := .int .i64 ((0 : Nat) : Int)) (pe hs rfl rfl) ?_
   refine q_v 25 (.bool (false)) (o_eq (o_eq (o_neq (m := 0) (n := 0) rfl (pe hs rfl rfl) rfl) rfl) rfl) ?_
   refine x_nil (hK_11 _ _ ?_)
   refine w2_condF (pe hs rfl rfl) ?_
   refine w2_skip ?_
   refine hK_10 _ _ ?_
   refine w2_sr (fun K_12 hK_12 => ?_)
   refine q_mv ((pm rfl).trans t0) ?_
   refine q_nc (pe hs rfl rfl) ?_
   refine q_fa 4 (pe hs rfl rfl) ?_
   refine op_do rfl rfl (o_store1 rfl (pe hs rfl rfl) rfl rfl rfl hB_1 (by simp only [List.length_cons, List.length_nil]; omega) ⟨by kernel_rfl, by kernel_rfl⟩) (fun w_4 hR_4 => ?_)
   obtain ⟨hB_2, hX_2⟩ := hR_4
   replace hC_1 := hC_1.keepX hX_2 hn_1
   replace hWt_1 := hWt_1.keepX hB_1 (by decide) hX_2
   replace ho_2 := ho_2.keepX hB_1 (by decide) hX_2
   have HB_4 := HB_3.step hX_2 (fun k hk (hY : k = gr) => .inl hY)
   clear hB_1
   simp only [List.set_cons_zero, List.set_cons_succ] at hB_2
   refine x_nil (hK_12 _ _ ?_)
   refine w2_sr (fun K_13 hK_13 => ?_)
   refine q_mv ((pm rfl).trans t0) ?_
   refine q_nc (pe hs rfl rfl) ?_
   refine q_fa 0 (pe hs rfl rfl) ?_
   refine q_ca (vs := #[.pointer (some ⟨gr, 0, none⟩)]) Try.func41 (args1 (pe hs rfl rfl)) (count_r _ hB_2 hC_1 hn_1 (by omega) (by omega)) (fun e_4 w_5 hR_5 => ?_)
   obtain ⟨rfl, ⟨N_2, hC_2, hNx_2⟩, hB_3, hX_3⟩ := hR_5
   have hn_2 := hNx_2.not hn_1 hB_2.lt
   replace hWt_1 := hWt_1.keep2 hB_2 (by decide) hC_1 hX_3
   have sp_2 := hNx_2.sep sp_1 ho_2.lt
   replace ho_2 := ho_2.keep2 hB_2 (by decide) hC_1 hX_3
   have nx_2 := nx_1.trans hNx_2 HB_4.size
   have HB_5 := HB_4.step hX_3 (fun k hk hY => hY)
   refine ⟨_, rfl, ?_⟩
   refine x_nil (hK_13 _ _ ?_)
   refine w2_sr (fun K_14 hK_14 => ?_)
   refine q_mv (pe hs rfl rfl) ?_
   refine q_at (pe hs rfl rfl) ?_
   refine q_as (.int .i64 ((0 : Nat) : Int)) rfl ?_
   refine x_nil (hK_14 _ _ ?_)
   refine w2_ret ?_
   refine ret2 rfl hd (pe hs rfl rfl) (pe hs rfl rfl) ?_
   have hx2 := stepB3 (co := ⟨ks, num, ev, cnt⟩) (dead := dead) hb0 hnw hs0 hr0 hu
   rw [hx] at hx2
   obtain rfl := Option.some.inj hx2
   have hs9 : Sep (blkA ((subA A body c))) N_2 := fun j hj hm => (nx_2.sep hsep hWt0.lt) j (blkA_sub hj) hm
   refine ⟨.inr ⟨rfl, b, _, _, rfl, rfl, ho_2, ⟨N_2, (subA A body c), c - body, ⟨?_, ?_, hWt_1, hn_2, hs9⟩, nx_2, fun j hj => blkA_sub hj, sp_2⟩⟩, HB_5⟩
   ·have h9 := hC_2; rw [if_pos hr0] at h9; exact h9
   ·have h9 := hB_3; rw [← List.length_drop.trans (congrArg (· - body) hwl)] at h9; exact h9
end Go.Proofs.Ytggalcdkfielkaa
/-
 WALKS: record: a reader is fed.
-/
namespace Go.Proofs.Ytggalcdkfielkaa
open Go.RowKit
set_option linter.unusedVariables false
set_option linter.unusedSimpArgs false
set_option maxRecDepth 100000
attribute [local irreducible] wpList wpListIn putsR

theorem w2_scope0 {P : Program} {c : Code} {Q : Exit → Act → World → Prop} {a : Act} {w : World} (h : WP2 false P c (Exit.noGoto Q) a w) : WP2 false P (.scope c) Q a w := ⟨wp_scope_straight h.1, fun hb => by cases hb⟩
theorem ng_ret {Q : Exit → Act → World → Prop} {a : Act} {w : World} (h : Q .ret a w) : Exit.noGoto Q .ret a w := h
theorem step_cases (r : Rd) : (r.body = 0 ∧ r.wait.length < 18 ∧ stepR r = none) ∨ (r.body = 0 ∧ 18 ≤ r.wait.length ∧ ∃ x, stepR r = some x) ∨ (0 < r.body ∧ r.wait.length < r.body ∧ stepR r = none) ∨ (0 < r.body ∧ r.body ≤ r.wait.length ∧ ∃ x, stepR r = some x) := by
 unfold stepR
 by_cases hb : r.body = 0
 ·rw [if_pos hb]
  by_cases hw : r.wait.length < 18
  ·rw [if_pos hw]; exact .inl ⟨hb, hw, rfl⟩
  ·rw [if_neg hw]
   refine .inr (.inl ⟨hb, by omega, ?_⟩)
   dsimp only
   split
   ·exact ⟨_, rfl⟩
   ·split <;> exact ⟨_, rfl⟩
 ·rw [if_neg hb]
  by_cases hw : r.wait.length < r.body
  ·rw [if_pos hw]; exact .inr (.inr (.inl ⟨by omega, hw, rfl⟩))
  ·rw [if_neg hw]
   refine .inr (.inr (.inr ⟨by omega, by omega, ?_⟩))
   dsimp only
   split
   ·exact ⟨_, rfl⟩
   ·split <;> exact ⟨_, rfl⟩
theorem stepR_inv {r : Rd} {x : Rd × Nat × List (List Nat)} (h : stepR r = some x) : x.1.co.n ≤ r.co.n + 1 ∧ x.1.co.every = r.co.every ∧ x.1.co.cnt ≤ r.co.cnt + 1 ∧ x.1.dead = r.dead ∧ (r.body ≤ 65535 → x.1.body ≤ 65535) ∧ (r.body = 0 → x.2.2 = []) := by
 unfold stepR at h
 split at h
 ·rename_i hb
  split at h
  ·cases h
  ·dsimp only at h
   split at h
   ·cases h; exact ⟨by show r.co.n ≤ _; omega, rfl, by show r.co.cnt ≤ _; omega, rfl, id, fun _ => rfl⟩
   ·split at h
    ·cases h; exact ⟨Nat.le_refl _, rfl, by show r.co.cnt ≤ _; omega, rfl, id, fun _ => rfl⟩
    ·rename_i hz
     cases h
     refine ⟨Nat.le_refl _, rfl, by show r.co.cnt ≤ _; omega, rfl, fun _ => ?_, fun _ => rfl⟩
     have h1 := sizeN_top (lenOf (openL r.co.k (nonceL r.co.n) [] (r.wait.take 18)).1 / 2 - 1)
     show lenOf (openL r.co.k (nonceL r.co.n) [] (r.wait.take 18)).1 + 16 ≤ 65535
     omega
 ·rename_i hb
  split at h
  ·cases h
  ·dsimp only at h
   split at h
   ·cases h; exact ⟨by show r.co.n ≤ _; omega, rfl, by show r.co.cnt ≤ _; omega, rfl, id, fun h => absurd h hb⟩
   ·split at h
    ·cases h; exact ⟨Nat.le_refl _, rfl, by show r.co.cnt ≤ _; omega, rfl, id, fun h => absurd h hb⟩
    ·cases h; exact ⟨Nat.le_refl _, rfl, Nat.le_refl _, rfl, fun _ => Nat.zero_le _, fun h => absurd h hb⟩
theorem run_none {r : Rd} (h : stepR r = none) (f : Nat) (out : List (List Nat)) : runR (f + 1) r out = (r, 0, out) := by rw [runR, h]
theorem run_bad {r : Rd} {x : Rd × Nat × List (List Nat)} (h : stepR r = some x) (hx : ¬ x.2.1 = 0) (f : Nat) (out : List (List Nat)) : runR (f + 1) r out = (x.1.die, x.2.1, out) := by
 rw [runR, h]
 dsimp only
 rw [if_pos hx]
theorem run_good {r : Rd} {x : Rd × Nat × List (List Nat)} (h : stepR r = some x) (hx : x.2.1 = 0) (f : Nat) (out : List (List Nat)) : runR (f + 1) r out = runR f x.1 (out ++ x.2.2) := by
 rw [runR, h]
 dsimp only
 rw [if_neg (by omega)]
theorem CipherAt.keptT {T : TypeId} {w w' : World} {M : Nat → Prop} {g n : Nat} {k : List Nat} (h : CipherAt w M g k n) (hk : KeptT T w w') (h1 : 62 ≠ T) (h2 : 5 ≠ T) : CipherAt w' M g k n := by
 obtain ⟨A, c, hB, hO, hg, hA⟩ := h.row
 exact ⟨h.key, h.num, h.lt.up hk.size, A, c, hk.blk hB h1, hO.keptT hk h2, hg, hA⟩
theorem ReaderP.keptT {T : TypeId} {w w' : World} {N : Nat → Prop} {gr gc c : Nat} {A : Option Addr} {r : Rd} (h : ReaderP w N gr gc A c r) (hk : KeptT T w w') (h1 : 62 ≠ T) (h2 : 5 ≠ T) (h3 : 71 ≠ T) : ReaderP w' N gr gc A c r :=
 ⟨h.cip.keptT hk h1 h2, hk.blk h.blk h3, h.wt.keptT hk h2, h.apart, h.sep⟩
theorem ReaderP.nx {w w' : World} {N : Nat → Prop} {gr gc c : Nat} {A : Option Addr} {r : Rd} (h : ReaderP w N gr gc A c r) (hb : Below w.heap.size w w') : ReaderP w' N gr gc A c r :=
 ⟨h.cip.nx hb, h.blk.nx hb, h.wt.nx hb, h.apart, h.sep⟩
theorem whole_bad {N : Nat → Prop} {gr gc ev cnt num body c : Nat} {A : Option Addr} {ks ws : List Nat} {dead : Bool} {x : Rd × Nat × List (List Nat)} (w : World) (hP : ReaderP w N gr gc A c ⟨⟨ks, num, ev, cnt⟩, ws, body, dead⟩) (hnum : num < 9223372036854775807) (hx : stepR ⟨⟨ks, num, ev, cnt⟩, ws, body, dead⟩ = some x) (hb0 : 0 < body) (hnw : body ≤ ws.length) (hb6 : body ≤ 65535) (he1 : 1 ≤ ev) (hc1 : cnt < 4611686018427387904) (hz : ¬ x.2.1 = 0) :
  Calls Try.prog 49 #[.pointer (some ⟨gr, 0, none⟩)] w fun e w' => e = .returned (.tuple #[.slice none 0 0, .int .i64 ((x.2.1 : Nat) : Int)]) ∧ (∃ N' A' c', ReaderP w' N' gr gc A' c' x.1 ∧ NextM w N N' ∧ ∀ j, blkA A' j → blkA A j) ∧ BelowX (fun j => j = gr ∨ j = gc) w w' := by
 refine Calls.mono (whole_any w hP hnum hx hb0 hnw hb6 he1 hc1) ?_
 rintro e w' ⟨⟨_, _, he, h1⟩ | ⟨h, _⟩, h2⟩
 ·exact ⟨he, h1, h2⟩
 ·exact absurd h hz
theorem whole_ok {N : Nat → Prop} {gr gc ev cnt num body c : Nat} {A : Option Addr} {ks ws : List Nat} {dead : Bool} {x : Rd × Nat × List (List Nat)} (w : World) (hP : ReaderP w N gr gc A c ⟨⟨ks, num, ev, cnt⟩, ws, body, dead⟩) (hnum : num < 9223372036854775807) (hx : stepR ⟨⟨ks, num, ev, cnt⟩, ws, body, dead⟩ = some x) (hb0 : 0 < body) (hnw : body ≤ ws.length) (hb6 : body ≤ 65535) (he1 : 1 ≤ ev) (hc1 : cnt < 4611686018427387904) (hz : x.2.1 = 0) :
  Calls Try.prog 49 #[.pointer (some ⟨gr, 0, none⟩)] w fun e w' => ∃ (b : List Nat) (A1 : Option Addr) (c1 : Nat), e = .returned (.tuple #[.slice A1 b.length c1, .int .i64 0]) ∧ x.2.2 = [b] ∧ Own w' w.heap.size A1 c1 b ∧ (∃ N' A' c', ReaderP w' N' gr gc A' c' x.1 ∧ NextM w N N' ∧ (∀ j, blkA A' j → blkA A j) ∧ Sep (blkA A1) N') ∧ BelowX (fun j => j = gr ∨ j = gc) w w' := by
 refine Calls.mono (whole_any w hP hnum hx hb0 hnw hb6 he1 hc1) ?_
 rintro e w' ⟨⟨h, _⟩ | ⟨_, b, A1, c1, h3, he, hO, h1⟩, h2⟩
 ·exact absurd hz h
 ·exact ⟨b, A1, c1, he, h3, hO, h1, h2⟩
/-- A reader lies at gr, its cipher at gc; M: all their blocks. -/
structure ReaderAt (w : World) (M : Nat → Prop) (gr gc : Nat) (r : Rd) : Prop where
 lt : Lt w M
 every : 1 ≤ r.co.every
 body : r.body ≤ 65535
 row : ∃ N A c, ReaderP w N gr gc A c r ∧ M gr ∧ (∀ j, N j → M j) ∧ ∀ j, blkA A j → M j
theorem ReaderAt.keep {w w' : World} {M : Nat → Prop} {gr gc : Nat} {r : Rd} (h : ReaderAt w M gr gc r) (hb : KeptM M w w') (hs : w.heap.size ≤ w'.heap.size) : ReaderAt w' M gr gc r := by
 obtain ⟨N, A, c, hP, hg, hN, hA⟩ := h.row
 exact ⟨h.lt.up hs, h.every, h.body, N, A, c, ⟨hP.cip.keep (fun j hj => hb j (hN j hj)) hs, (hb gr hg).trans hP.blk, hP.wt.keep (fun j hj => hb j (hA j hj)), hP.apart, hP.sep⟩, hg, hN, hA⟩
theorem ReaderAt.nx {w w' : World} {M : Nat → Prop} {gr gc : Nat} {r : Rd} (h : ReaderAt w M gr gc r) (hb : Below w.heap.size w w') : ReaderAt w' M gr gc r := h.keep (kept_of hb h.lt) hb.size
theorem ReaderAt.keepM {w w' : World} {M X : Nat → Prop} {gr gc : Nat} {r : Rd} (h : ReaderAt w M gr gc r) (hb : BelowX X w w') (hs : Sep M X) : ReaderAt w' M gr gc r := h.keep (hb.kept h.lt hs) hb.size
theorem ReaderAt.cipher {w : World} {M : Nat → Prop} {gr gc : Nat} {r : Rd} (h : ReaderAt w M gr gc r) : ∃ N, CipherAt w N gc r.co.k r.co.n := by obtain ⟨N, A, c, hP, _⟩ := h.row; exact ⟨N, hP.cip⟩
theorem NewReader_any {M : Nat → Prop} {gc num : Nat} {ks : List Nat} (z : Int) (w : World) (hC : CipherAt w M gc ks num) :
  Calls Try.prog 18 #[.pointer (some ⟨gc, 0, none⟩), .int .i64 (z)] w fun e w' => ∃ (M' : Nat → Prop) (gr : Nat), e = .returned (.pointer (some ⟨gr, 0, none⟩)) ∧ ReaderAt w' M' gr gc ⟨⟨ks, num, everyN z, 0⟩, [], 0, false⟩ ∧ NextM w M M' ∧ Below w.heap.size w w' := by
 refine x_enter 12 Try.func18 rfl rfl (fun a hs hd ha0 => ?_)
 have t0 : a.eval (.tmp 0) = .pointer (some ⟨gc, 0, none⟩) := ha0 0 _ rfl
 have t1 : a.eval (.tmp 1) = .int .i64 (z) := ha0 1 _ rfl
 clear ha0
 refine w2_sr (fun K_1 hK_1 => ?_)
 refine q_as (.pointer none) rfl ?_
 refine x_nil (hK_1 _ _ ?_)
 refine w2_seq (fun K_2 hK_2 => ?_)
 refine w2_sr (fun K_3 hK_3 => ?_)
 refine q_mv ((pm rfl).trans t0) ?_
 refine q_v 6 (.bool (false)) (o_nil (b := false) rfl (pe hs rfl rfl) rfl rfl ⟨62, fun _ => by kernel_rfl⟩) ?_
 refine x_nil (hK_3 _ _ ?_)
 refine w2_condF (pe hs rfl rfl) ?_
 refine w2_skip ?_
 refine hK_2 _ _ ?_
 refine w2_sr (fun K_4 hK_4 => ?_)
 refine q_mv ((pm rfl).trans t0) ?_
 refine q_mv ((pm rfl).trans t1) ?_
 refine q_ca (vs := #[.pointer (some ⟨gc, 0, none⟩), .int .i64 (z)]) Try.func38 (args2 (pe hs rfl rfl) (pe hs rfl rfl)) (newCounter_any _ _) (fun e_1 w_1 hR_1 => ?_)
 obtain ⟨rfl, hb_2⟩ := hR_1
 refine ⟨_, rfl, ?_⟩
 refine q_v 10 (.agg #[.pointer (some ⟨gc, 0, none⟩), .int .i64 ((everyN z : Nat) : Int), .int .i64 ((0 : Nat) : Int), .slice none (0) (0), .int .i64 ((0 : Nat) : Int), .bool (false)]) (o_bld (vs := #[(0, .agg #[.pointer (some ⟨gc, 0, none⟩), .int .i64 ((everyN z : Nat) : Int), .int .i64 ((0 : Nat) : Int)])]) (v := .agg #[.pointer (some ⟨gc, 0, none⟩), .int .i64 ((everyN z : Nat) : Int), .int .i64 ((0 : Nat) : Int), .slice none (0) (0), .int .i64 ((0 : Nat) : Int), .bool (false)]) rfl (bld1 (pe hs rfl rfl)) (fun _ => by kernel_rfl)) ?_
 refine op_ex (d := 11) rfl rfl (o_boxL (cs := #[.pointer (some ⟨gc, 0, none⟩), .int .i64 ((everyN z : Nat) : Int), .int .i64 ((0 : Nat) : Int), .slice none (0) (0), .int .i64 ((0 : Nat) : Int), .bool (false)]) rfl (pe hs rfl rfl)) (fun v_1 w_2 hR_2 => ?_)
 obtain ⟨g_1, rfl, hle_1, hB_1, hb_3⟩ := hR_2
 have ge_1 : w.heap.size ≤ g_1 := Nat.le_trans hb_2.size hle_1
 have HB_1 := below_from hb_2 hb_3
 refine q_at (pe hs rfl rfl) ?_
 refine x_nil (hK_4 _ _ ?_)
 refine w2_ret ?_
 refine ret1 rfl hd (pe hs rfl rfl) ?_
 exact ⟨MX w M w_2, g_1, rfl, ⟨hC.lt.mx HB_1.size, everyN_pos z, Nat.zero_le _, M, none, 0, ⟨hC.nx HB_1, hB_1, Wt.nil _, fun h => absurd (hC.lt _ h) (by have := ge_1; omega), fun j hj => absurd hj blkA_none⟩, .inr ⟨ge_1, hB_1.lt⟩, fun j hj => .inl hj, fun j hj => absurd hj blkA_none⟩, fun j hj => hj.imp id (fun h => h.1), HB_1⟩
theorem Left_blk {gr gc ev cnt wl body c : Nat} {A : Option Addr} {dead : Bool} (w : World) (hB : Blk w gr #[.pointer (some ⟨gc, 0, none⟩), .int .i64 ((ev : Nat) : Int), .int .i64 ((cnt : Nat) : Int), .slice A (wl) (c), .int .i64 ((body : Nat) : Int), .bool (dead)] 71) :
  Calls Try.prog 27 #[.pointer (some ⟨gr, 0, none⟩)] w fun e w' => e = .returned (.int .i64 ((wl : Nat) : Int)) ∧ w = w' := by
 refine x_enter 10 Try.func27 rfl rfl (fun a hs hd ha0 => ?_)
 have t0 : a.eval (.tmp 0) = .pointer (some ⟨gr, 0, none⟩) := ha0 0 _ rfl
 clear ha0
 refine w2_sr (fun K_1 hK_1 => ?_)
 refine q_as (.int .i64 ((0 : Nat) : Int)) rfl ?_
 refine x_nil (hK_1 _ _ ?_)
 refine w2_seq (fun K_2 hK_2 => ?_)
 refine w2_sr (fun K_3 hK_3 => ?_)
 refine q_mv ((pm rfl).trans t0) ?_
 refine q_v 4 (.bool (false)) (o_nil (b := false) rfl (pe hs rfl rfl) rfl rfl ⟨71, fun _ => by kernel_rfl⟩) ?_
 refine x_nil (hK_3 _ _ ?_)
 refine w2_condF (pe hs rfl rfl) ?_
 refine w2_skip ?_
 refine hK_2 _ _ ?_
 refine w2_sr (fun K_4 hK_4 => ?_)
 refine q_mv ((pm rfl).trans t0) ?_
 refine q_nc (pe hs rfl rfl) ?_
 refine q_fa 3 (pe hs rfl rfl) ?_
 refine q_ld (v := .slice A (wl) (c)) (pe hs rfl rfl) hB rfl ?_
 refine q_v 9 (.int .i64 ((wl : Nat) : Int)) (o_len rfl (pe hs rfl rfl)) ?_
 refine q_at (pe hs rfl rfl) ?_
 refine x_nil (hK_4 _ _ ?_)
 refine w2_ret ?_
 refine ret1 rfl hd (pe hs rfl rfl) ?_
 exact ⟨rfl, rfl⟩
theorem RCount_blk {gr gc ev cnt wl body c : Nat} {A : Option Addr} {dead : Bool} (w : World) (hB : Blk w gr #[.pointer (some ⟨gc, 0, none⟩), .int .i64 ((ev : Nat) : Int), .int .i64 ((cnt : Nat) : Int), .slice A (wl) (c), .int .i64 ((body : Nat) : Int), .bool (dead)] 71) :
  Calls Try.prog 28 #[.pointer (some ⟨gr, 0, none⟩)] w fun e w' => e = .returned (.int .i64 ((cnt : Nat) : Int)) ∧ w = w' := by
 refine x_enter 10 Try.func28 rfl rfl (fun a hs hd ha0 => ?_)
 have t0 : a.eval (.tmp 0) = .pointer (some ⟨gr, 0, none⟩) := ha0 0 _ rfl
 clear ha0
 refine w2_sr (fun K_1 hK_1 => ?_)
 refine q_as (.int .i64 ((0 : Nat) : Int)) rfl ?_
 refine x_nil (hK_1 _ _ ?_)
 refine w2_seq (fun K_2 hK_2 => ?_)
 refine w2_sr (fun K_3 hK_3 => ?_)
 refine q_mv ((pm rfl).trans t0) ?_
 refine q_v 4 (.bool (false)) (o_nil (b := false) rfl (pe hs rfl rfl) rfl rfl ⟨71, fun _ => by kernel_rfl⟩) ?_
 refine x_nil (hK_3 _ _ ?_)
 refine w2_condF (pe hs rfl rfl) ?_
 refine w2_skip ?_
 refine hK_2 _ _ ?_
 refine w2_sr (fun K_4 hK_4 => ?_)
 refine q_mv ((pm rfl).trans t0) ?_
 refine q_nc (pe hs rfl rfl) ?_
 refine q_fa 0 (pe hs rfl rfl) ?_
 refine q_fa 2 (pe hs rfl rfl) ?_
 refine q_ld (v := .int .i64 ((cnt : Nat) : Int)) (pe hs rfl rfl) hB rfl ?_
 refine q_at (pe hs rfl rfl) ?_
 refine x_nil (hK_4 _ _ ?_)
 refine w2_ret ?_
 refine ret1 rfl hd (pe hs rfl rfl) ?_
 exact ⟨rfl, rfl⟩
theorem Dead_blk {gr gc ev cnt wl body c : Nat} {A : Option Addr} {dead : Bool} (w : World) (hB : Blk w gr #[.pointer (some ⟨gc, 0, none⟩), .int .i64 ((ev : Nat) : Int), .int .i64 ((cnt : Nat) : Int), .slice A (wl) (c), .int .i64 ((body : Nat) : Int), .bool (dead)] 71) :
  Calls Try.prog 26 #[.pointer (some ⟨gr, 0, none⟩)] w fun e w' => e = .returned (.bool dead) ∧ w = w' := by
 refine x_enter 11 Try.func26 rfl rfl (fun a hs hd ha0 => ?_)
 have t0 : a.eval (.tmp 0) = .pointer (some ⟨gr, 0, none⟩) := ha0 0 _ rfl
 clear ha0
 refine w2_sr (fun K_1 hK_1 => ?_)
 refine q_as (.bool (false)) rfl ?_
 refine x_nil (hK_1 _ _ ?_)
 refine w2_sr (fun K_2 hK_2 => ?_)
 refine q_mv ((pm rfl).trans t0) ?_
 refine q_v 4 (.bool (true)) (o_nilN (b := false) rfl (pe hs rfl rfl) rfl rfl ⟨71, fun _ => by kernel_rfl⟩) ?_
 refine q_mv (pe hs rfl rfl) ?_
 refine op_valG (e := 5) (d := 6) (v := .pointer (some ⟨gr, 0, none⟩)) rfl rfl (by kernel_rfl) (pe hs rfl rfl) (o_move rfl ((pm rfl).trans t0)) ?_
 refine op_valG (e := 5) (d := 7) (v := .pointer (some ⟨gr, 0, none⟩)) rfl rfl (by kernel_rfl) (pe hs rfl rfl) (o_nilCheck rfl (pe hs rfl rfl)) ?_
 refine op_valG (e := 5) (d := 8) (v := .pointer (some ⟨gr, 5, none⟩)) rfl rfl (by kernel_rfl) (pe hs rfl rfl) (o_field (k' := 5) rfl (pe hs rfl rfl) (fun _ => by kernel_rfl)) ?_
 refine op_valG (e := 5) (d := 9) (v := .bool (dead)) rfl rfl (by kernel_rfl) (pe hs rfl rfl) (o_load1 rfl (pe hs rfl rfl) hB rfl ⟨by kernel_rfl, by kernel_rfl⟩) ?_
 refine q_v 10 (.bool (dead)) (o_pickT rfl (pe hs rfl rfl) (pe hs rfl rfl)) ?_
 refine q_at (pe hs rfl rfl) ?_
 refine x_nil (hK_2 _ _ ?_)
 refine w2_ret ?_
 refine ret1 rfl hd (pe hs rfl rfl) ?_
 exact ⟨rfl, rfl⟩
theorem Feed_dead {gr gc ev cnt wl body c : Nat} {A : Option Addr} (w : World) (hB : Blk w gr #[.pointer (some ⟨gc, 0, none⟩), .int .i64 ((ev : Nat) : Int), .int .i64 ((cnt : Nat) : Int), .slice A (wl) (c), .int .i64 ((body : Nat) : Int), .bool (true)] 71) {A0 : Option Addr} {c0 q : Nat} :
  Calls Try.prog 23 #[.pointer (some ⟨gr, 0, none⟩), .slice A0 (q) (c0)] w fun e w' => e = .returned (.tuple #[.slice none 0 0, .int .i64 10]) ∧ w = w' := by
 refine x_enterI 83 Try.func23 rfl rfl (fun a hs hd ha0 => ?_)
 have t0 : a.eval (.tmp 0) = .pointer (some ⟨gr, 0, none⟩) := ha0 0 _ rfl
 clear ha0
 refine w2_sr (fun K_1 hK_1 => ?_)
 refine q_as (.slice none (0) (0)) rfl ?_
 refine q_as (.int .i64 ((0 : Nat) : Int)) rfl ?_
 refine x_nil (hK_1 _ _ ?_)
 refine w2_scope0 ?_
 refine w2_sr (fun K_2 hK_2 => ?_)
 refine q_as (.slice none (0) (0)) rfl ?_
 refine x_nil (hK_2 _ _ ?_)
 refine w2_sr (fun K_3 hK_3 => ?_)
 refine q_as (.int .i64 ((0 : Nat) : Int)) rfl ?_
 refine x_nil (hK_3 _ _ ?_)
 refine w2_seq (fun K_4 hK_4 => ?_)
 refine w2_block (fun K_5 hK_5 => ?_)
 refine w2_sr (fun K_6 hK_6 => ?_)
 refine q_mv ((pm rfl).trans t0) ?_
 refine q_v 11 (.bool (false)) (o_nil (b := false) rfl (pe hs rfl rfl) rfl rfl ⟨71, fun _ => by kernel_rfl⟩) ?_
 refine q_at (pe hs rfl rfl) ?_
 refine x_nil (hK_6 _ _ ?_)
 refine w2_condF (pe hs rfl rfl) ?_
 refine w2_sr (fun K_7 hK_7 => ?_)
 refine q_mv ((pm rfl).trans t0) ?_
 refine q_nc (pe hs rfl rfl) ?_
 refine q_fa 5 (pe hs rfl rfl) ?_
 refine q_ld (v := .bool (true)) (pe hs rfl rfl) hB rfl ?_
 refine q_at (pe hs rfl rfl) ?_
 refine x_nil (hK_7 _ _ ?_)
 refine w2_condT (pe hs rfl rfl) ?_
 refine w2_sr (fun K_8 hK_8 => ?_)
 refine q_as (.slice none (0) (0)) rfl ?_
 refine q_as (.int .i64 ((10 : Nat) : Int)) rfl ?_
 refine x_nil (hK_8 _ _ ?_)
 refine w2_ret ?_
 refine exb_ret ?_
 refine thn_ret ?_
 refine ng_ret ?_
 refine ret2 rfl hd (pe hs rfl rfl) (pe hs rfl rfl) ?_
 exact ⟨rfl, rfl⟩
set_option maxHeartbeats 1000000 in
theorem Feed_any {M : Nat → Prop} {gr gc : Nat} {rd r' : Rd} {err : Nat} {outs : List (List Nat)} {B0 : Option Addr} {d0 q : Nat} {bs : List Nat} (w : World) (hR : ReaderAt w M gr gc rd) (hd : rd.dead = false) (h0 : Bs w B0 d0 bs) (hq : bs.length = q) (hf : feedR rd bs = (r', err, outs)) (b1 : rd.co.n + (rd.wait.length + q) < 4611686018427387904) (b2 : rd.co.cnt + (rd.wait.length + q) < 4611686018427387904) (b3 : rd.wait.length + q ≤ 1000000000) :
  Calls Try.prog 23 #[.pointer (some ⟨gr, 0, none⟩), .slice B0 (q) (d0)] w fun e w' => ∃ ps A c, e = .returned (.tuple #[.slice A (ps.length) c, .int .i64 ((err : Nat) : Int)]) ∧ ps.map Part.xs = outs ∧ RowS w' w.heap.size A c ps ∧ AllOwn w' w.heap.size ps ∧ (∃ M', ReaderAt w' M' gr gc r' ∧ NextM w M M' ∧ Sep (blkP ps) M' ∧ Sep (blkA A) M') ∧ BelowX M w w' := by
 obtain ⟨hlt, hev1, hbd, N0, Aw, cw, hP, hMg, hMN, hMA⟩ := hR
 obtain ⟨⟨ks0, num0, ev, cnt0⟩, ws0, body0, dead0⟩ := rd
 dsimp only at hd hev1 hbd b1 b2 b3
 subst hd
 obtain ⟨hC, hB, hWt, hn, hsep⟩ := hP
 dsimp only at hC hB hWt
 refine x_enterI 83 Try.func23 rfl rfl (fun a hs hd ha0 => ?_)
 have t0 : a.eval (.tmp 0) = .pointer (some ⟨gr, 0, none⟩) := ha0 0 _ rfl
 have t1 : a.eval (.tmp 1) = .slice B0 (q) (d0) := ha0 1 _ rfl
 clear ha0
 have HB0 : BelowX (fun j => j = gr ∨ j = gc ∨ blkA Aw j) w w := BelowX.refl _ _
 refine w2_sr (fun K_1 hK_1 => ?_)
 refine q_as (.slice none (0) (0)) rfl ?_
 refine q_as (.int .i64 ((0 : Nat) : Int)) rfl ?_
 refine x_nil (hK_1 _ _ ?_)
 refine w2_scope0 ?_
 refine w2_sr (fun K_2 hK_2 => ?_)
 refine q_as (.slice none (0) (0)) rfl ?_
 refine x_nil (hK_2 _ _ ?_)
 refine w2_sr (fun K_3 hK_3 => ?_)
 refine q_as (.int .i64 ((0 : Nat) : Int)) rfl ?_
 refine x_nil (hK_3 _ _ ?_)
 refine w2_seq (fun K_4 hK_4 => ?_)
 refine w2_block (fun K_5 hK_5 => ?_)
 refine w2_sr (fun K_6 hK_6 => ?_)
 refine q_mv ((pm rfl).trans t0) ?_
 refine q_v 11 (.bool (false)) (o_nil (b := false) rfl (pe hs rfl rfl) rfl rfl ⟨71, fun _ => by kernel_rfl⟩) ?_
 refine q_at (pe hs rfl rfl) ?_
 refine x_nil (hK_6 _ _ ?_)
 refine w2_condF (pe hs rfl rfl) ?_
 refine w2_sr (fun K_7 hK_7 => ?_)
 refine q_mv ((pm rfl).trans t0) ?_
 refine q_nc (pe hs rfl rfl) ?_
 refine q_fa 5 (pe hs rfl rfl) ?_
 refine q_ld (v := .bool (false)) (pe hs rfl rfl) hB rfl ?_
 refine q_at (pe hs rfl rfl) ?_
 refine x_nil (hK_7 _ _ ?_)
 refine w2_condF (pe hs rfl rfl) ?_
 refine w2_skip ?_
 refine hK_5 _ _ ?_
 refine hK_4 _ _ ?_
 refine w2_sr (fun K_8 hK_8 => ?_)
 refine q_mv ((pm rfl).trans t0) ?_
 refine q_mv ((pm rfl).trans t0) ?_
 refine q_nc (pe hs rfl rfl) ?_
 refine q_fa 3 (pe hs rfl rfl) ?_
 refine q_ld (v := .slice Aw (ws0.length) (cw)) (pe hs rfl rfl) hB rfl ?_
 refine q_mv ((pm rfl).trans t1) ?_
 refine op_ex (d := 23) rfl rfl (o_appW rfl (pe hs rfl rfl) (pe hs rfl rfl) hWt h0 rfl hq (by omega)) (fun v_1 w_1 hR_1 => ?_)
 obtain ⟨A_1, c_1, rfl, hWt_1, hX_1, hA_1⟩ := hR_1
 have hsep1 : Sep (blkA A_1) N0 := fun j hj hm => (hA_1 j hj).elim (fun h => hsep j h hm) (fun h => absurd (hC.lt j hm) (Nat.not_lt.2 h))
 have hC0 := hC.mem
 replace hB := hX_1.blk hB (hWt.sepB hB (by decide))
 replace hC := hC.keepM hX_1 hsep.symm
 have HB_1 := HB0.step hX_1 (fun k hk hY => .inr (.inr hY))
 refine q_nc (pe hs rfl rfl) ?_
 refine q_fa 3 (pe hs rfl rfl) ?_
 refine op_do rfl rfl (o_store1 rfl (pe hs rfl rfl) (pe hs rfl rfl) rfl rfl hB (by simp only [List.length_cons, List.length_nil]; omega) ⟨by kernel_rfl, by kernel_rfl⟩) (fun w_2 hR_2 => ?_)
 obtain ⟨hB_1, hX_2⟩ := hR_2
 replace hC := hC.keepX hX_2 hn
 replace hWt_1 := hWt_1.keepX hB (by decide) hX_2
 have HB_2 := HB_1.step hX_2 (fun k hk (hY : k = gr) => .inl hY)
 clear hB
 simp only [List.set_cons_zero, List.set_cons_succ] at hB_1
 refine x_nil (hK_8 _ _ ?_)
 refine w2_seq (fun K_9 hK_9 => ?_)
 refine w2_label ?_
 refine hK_9 _ _ ?_
 refine w2_seq (fun K_10 hK_10 => ?_)
 refine w2_block (fun K_11 hK_11 => ?_)
 refine x_loop (fun nn aa ww => ∃ (N : Nat → Prop) (A : Option Addr) (c : Nat) (rd : Rd) (ps : List Part) (A5 : Option Addr) (c5 : Nat) (e7 : Nat) (f : Nat), nn = f ∧ aa.tmps.size = 83 ∧ aa.defers = [] ∧ aa.eval (.tmp 0) = .pointer (some ⟨gr, 0, none⟩) ∧ aa.eval (.tmp 1) = .slice B0 (q) (d0) ∧ aa.eval (.tmp 4) = .slice none (0) (0) ∧ aa.eval (.tmp 5) = .int .i64 ((0 : Nat) : Int) ∧ aa.eval (.tmp 6) = .slice A5 (ps.length) (c5) ∧ aa.eval (.tmp 7) = .int .i64 ((e7 : Nat) : Int) ∧ aa.eval (.tmp 9) = .bool (false) ∧ aa.eval (.tmp 10) = .pointer (some ⟨gr, 0, none⟩) ∧ aa.eval (.tmp 11) = .bool (false) ∧ aa.eval (.tmp 12) = .bool (false) ∧ aa.eval (.tmp 13) = .pointer (some ⟨gr, 0, none⟩) ∧ aa.eval (.tmp 14) = .pointer (some ⟨gr, 0, none⟩) ∧ aa.eval (.tmp 15) = .pointer (some ⟨gr, 5, none⟩) ∧ aa.eval (.tmp 16) = .bool (false) ∧ aa.eval (.tmp 17) = .pointer (some ⟨gr, 0, none⟩) ∧ aa.eval (.tmp 18) = .pointer (some ⟨gr, 0, none⟩) ∧ aa.eval (.tmp 19) = .pointer (some ⟨gr, 0, none⟩) ∧ aa.eval (.tmp 20) = .pointer (some ⟨gr, 3, none⟩) ∧ aa.eval (.tmp 21) = .slice Aw (ws0.length) (cw) ∧ aa.eval (.tmp 22) = .slice B0 (q) (d0) ∧ aa.eval (.tmp 23) = .slice A_1 (ws0.length + q) (c_1) ∧ aa.eval (.tmp 24) = .pointer (some ⟨gr, 0, none⟩) ∧ aa.eval (.tmp 25) = .pointer (some ⟨gr, 3, none⟩) ∧ ReaderP ww N gr gc A c rd ∧ RowS ww w.heap.size A5 c5 ps ∧ AllOwn ww w.heap.size ps ∧ NextM w N0 N ∧ (∀ j, blkA A j → blkA Aw j ∨ w.heap.size ≤ j) ∧ BelowX (fun j => j = gr ∨ j = gc ∨ blkA Aw j) w ww ∧ runR f rd (ps.map Part.xs) = (r', err, outs) ∧ rd.wait.length < f ∧ rd.co.n + rd.wait.length < 4611686018427387904 ∧ rd.co.cnt + rd.wait.length < 4611686018427387904 ∧ rd.co.every = ev ∧ rd.body ≤ 65535 ∧ ps.length + rd.wait.length ≤ 1000000000 ∧ e7 = 0 ∧ rd.dead = false ∧ Sep (blkP ps) N ∧ Sep (blkA A5) N ∧ Sep (blkP ps) (blkA A)) ((ws0 ++ bs).length + 1) ?_ ?_
 ·exact ⟨N0, A_1, c_1, ⟨⟨ks0, num0, ev, cnt0⟩, ws0 ++ bs, body0, false⟩, [], none, 0, 0, (ws0 ++ bs).length + 1, rfl, (by rw [putsR_size]; exact hs), (by rw [putsR_defers]; exact hd), ((pm rfl).trans t0), ((pm rfl).trans t1), (pe hs rfl rfl), (pe hs rfl rfl), (pe hs rfl rfl), (pe hs rfl rfl), (pe hs rfl rfl), (pe hs rfl rfl), (pe hs rfl rfl), (pe hs rfl rfl), (pe hs rfl rfl), (pe hs rfl rfl), (pe hs rfl rfl), (pe hs rfl rfl), (pe hs rfl rfl), (pe hs rfl rfl), (pe hs rfl rfl), (pe hs rfl rfl), (pe hs rfl rfl), (pe hs rfl rfl), (pe hs rfl rfl), (pe hs rfl rfl), (pe hs rfl rfl), ⟨hC, by show Blk _ _ #[_, _, _, .slice _ ((ws0 ++ bs).length) _, _, _] _; rw [List.length_append, hq]; exact hB_1, hWt_1, hn, hsep1⟩, RowS.nil _ _, (fun _ h => absurd h (by simp)), NextM.refl _ _, hA_1, HB_2, hf, Nat.lt_succ_self _, (by show num0 + (ws0 ++ bs).length < _; rw [List.length_append, hq]; exact b1), (by show cnt0 + (ws0 ++ bs).length < _; rw [List.length_append, hq]; exact b2), rfl, hbd, (by show 0 + (ws0 ++ bs).length ≤ _; rw [List.length_append, hq]; omega), rfl, rfl, (fun j hj => absurd hj blkP_nil), (fun j hj => absurd hj blkA_none), (fun j hj => absurd hj blkP_nil)⟩
 ·skip
  clear t0 t1 hd hC hWt_1 hB_1 HB_2
  rintro nna_1 a_1 w_3 ⟨N, A, c, rd, ps, A5, c5, e7, f, hm_1, hs_1, hd_1, ta_1_0, ta_1_1, ta_1_4, ta_1_5, ta_1_6, ta_1_7, ta_1_9, ta_1_10, ta_1_11, ta_1_12, ta_1_13, ta_1_14, ta_1_15, ta_1_16, ta_1_17, ta_1_18, ta_1_19, ta_1_20, ta_1_21, ta_1_22, ta_1_23, ta_1_24, ta_1_25, hP, hRw, hAO, b4, b5, HBL, b7, b8, b9, b10, b11, b12, b13, b14, b15, s1, s2, s3⟩ K_12 hK_12
  subst hm_1
  obtain ⟨⟨ks, num, ev1, cnt⟩, ws, body, dead⟩ := rd
  obtain ⟨f1, rfl⟩ : ∃ q, nna_1 = q + 1 := ⟨nna_1 - 1, by omega⟩
  dsimp only at b8 b9 b10 b11 b12 b13 b15
  obtain rfl : ev = ev1 := b11.symm
  subst b14 b15
  have hPB := hP.blk
  dsimp only at hPB
  refine w2_block (fun K_13 hK_13 => ?_)
  refine w2_block (fun K_14 hK_14 => ?_)
  refine w2_seq (fun K_15 hK_15 => ?_)
  rcases step_cases ⟨⟨ks, num, ev, cnt⟩, ws, body, false⟩ with ⟨q1, q2, q3⟩ | ⟨q1, q2, x, q3⟩ | ⟨q1, q2, q3⟩ | ⟨q1, q2, x, q3⟩
  ·skip
   dsimp only at q1 q2
   refine x_region (by kernel_rfl) ?_
   refine q_mv ((pm rfl).trans ta_1_0) ?_
   refine q_nc (pe hs_1 rfl rfl) ?_
   refine q_fa 4 (pe hs_1 rfl rfl) ?_
   refine q_ld (v := .int .i64 ((body : Nat) : Int)) (pe hs_1 rfl rfl) hPB rfl ?_
   refine q_v 31 (.bool (true)) (o_eq (o_eql (m := body) (n := 0) rfl (pe hs_1 rfl rfl) rfl) (by rw [decide_eq_true q1])) ?_
   refine q_mv (pe hs_1 rfl rfl) ?_
   refine op_valG (e := 32) (d := 33) (v := .pointer (some ⟨gr, 0, none⟩)) rfl rfl (by kernel_rfl) (pe hs_1 rfl rfl) (o_move rfl ((pm rfl).trans ta_1_0)) ?_
   refine op_valG (e := 32) (d := 34) (v := .pointer (some ⟨gr, 0, none⟩)) rfl rfl (by kernel_rfl) (pe hs_1 rfl rfl) (o_nilCheck rfl (pe hs_1 rfl rfl)) ?_
   refine op_valG (e := 32) (d := 35) (v := .pointer (some ⟨gr, 3, none⟩)) rfl rfl (by kernel_rfl) (pe hs_1 rfl rfl) (o_field (k' := 3) rfl (pe hs_1 rfl rfl) (fun _ => by kernel_rfl)) ?_
   refine op_valG (e := 32) (d := 36) (v := .slice A (ws.length) (c)) rfl rfl (by kernel_rfl) (pe hs_1 rfl rfl) (o_load1 rfl (pe hs_1 rfl rfl) hPB rfl ⟨by kernel_rfl, by kernel_rfl⟩) ?_
   refine op_valG (e := 32) (d := 37) (v := .int .i64 ((ws.length : Nat) : Int)) rfl rfl (by kernel_rfl) (pe hs_1 rfl rfl) (o_len rfl (pe hs_1 rfl rfl)) ?_
   refine op_valG (e := 32) (d := 38) (v := .bool (false)) rfl rfl (by kernel_rfl) (pe hs_1 rfl rfl) (o_eq (o_geq (m := ws.length) (n := 18) rfl (pe hs_1 rfl rfl) rfl) (by rw [decide_eq_false (by omega)])) ?_
   refine q_v 39 (.bool (false)) (o_pickT rfl (pe hs_1 rfl rfl) (pe hs_1 rfl rfl)) ?_
   refine q_at (pe hs_1 rfl rfl) ?_
   refine x_nil (hK_15 _ _ ?_)
   refine w2_condF (pe hs_1 rfl rfl) ?_
   refine w2_seq (fun K_16 hK_16 => ?_)
   refine x_drawn 15 [fun _ v => v = .pointer (some ⟨gr, 0, none⟩), fun _ v => v = .pointer (some ⟨gr, 0, none⟩), fun _ v => v = .pointer (some ⟨gr, 4, none⟩), fun _ v => v = .int .i64 ((body : Nat) : Int), fun _ v => v = .bool (false), fun _ v => v = .bool (false), fun _ _ => True, fun _ _ => True, fun _ _ => True, fun _ _ => True, fun _ _ => True, fun _ _ => True, fun _ _ => True, fun _ _ => True, fun _ _ => True] [45, 46, 47, 48, 49, 50, 51, 52, 53, 54, 55, 56, 57, 58, 59] hs_1 hd_1 (by kernel_rfl) (by kernel_rfl) (by kernel_rfl) (by kernel_rfl) (by kernel_rfl) ⟨stLit, stLit, stLit, stLit, stLit, stLit, stLit, stLit, stLit, stLit, stLit, stLit, stLit, stLit, stLit, trivial⟩ ⟨(step_ok rfl (fun a' w' hb' hO hD => by
     have d_1 := (hO 0 (by decide)).trans ((pm rfl).trans ta_1_0)
     exact .inl ⟨_, _, (o_move rfl d_1), rfl, Below.refl _ _⟩)),
(step_ok rfl (fun a' w' hb' hO hD => by
     have d_2 : a'.eval (.tmp 45) = .pointer (some ⟨gr, 0, none⟩) := hD 0 45 (by kernel_rfl) rfl
     exact .inl ⟨_, _, (o_nilCheck rfl d_2), rfl, Below.refl _ _⟩)),
(step_ok rfl (fun a' w' hb' hO hD => by
     have d_3 : a'.eval (.tmp 46) = .pointer (some ⟨gr, 0, none⟩) := hD 1 46 (by kernel_rfl) rfl
     exact .inl ⟨_, _, (o_field (k' := 4) rfl d_3 (fun _ => by kernel_rfl)), rfl, Below.refl _ _⟩)),
(step_ok rfl (fun a' w' hb' hO hD => by
     have d_4 : a'.eval (.tmp 47) = .pointer (some ⟨gr, 4, none⟩) := hD 2 47 (by kernel_rfl) rfl
     exact .inl ⟨_, _, (o_load1 rfl d_4 (hPB.nx hb') rfl ⟨by kernel_rfl, by kernel_rfl⟩), rfl, Below.refl _ _⟩)),
(step_ok rfl (fun a' w' hb' hO hD => by
     have d_5 : a'.eval (.tmp 48) = .int .i64 ((body : Nat) : Int) := hD 3 48 (by kernel_rfl) rfl
     have e0 : (.bool (decide (0 < body)) : Value) = .bool (false) := (by rw [decide_eq_false (by omega)])
     exact .inl ⟨_, _, (o_gtr (m := body) (n := 0) rfl d_5 rfl), e0, Below.refl _ _⟩)),
(step_ok rfl (fun a' w' hb' hO hD => by
     have d_6 : a'.eval (.tmp 49) = .bool (false) := hD 4 49 (by kernel_rfl) rfl
     exact .inl ⟨_, _, (o_move rfl d_6), rfl, Below.refl _ _⟩)),
(step_no 5 true false 50 rfl rfl (by kernel_rfl) (fun _ _ h => h) (by decide) (fun _ => trivial)),
(step_no 5 true false 50 rfl rfl (by kernel_rfl) (fun _ _ h => h) (by decide) (fun _ => trivial)),
(step_no 5 true false 50 rfl rfl (by kernel_rfl) (fun _ _ h => h) (by decide) (fun _ => trivial)),
(step_no 5 true false 50 rfl rfl (by kernel_rfl) (fun _ _ h => h) (by decide) (fun _ => trivial)),
(step_no 5 true false 50 rfl rfl (by kernel_rfl) (fun _ _ h => h) (by decide) (fun _ => trivial)),
(step_no 5 true false 50 rfl rfl (by kernel_rfl) (fun _ _ h => h) (by decide) (fun _ => trivial)),
(step_no 5 true false 50 rfl rfl (by kernel_rfl) (fun _ _ h => h) (by decide) (fun _ => trivial)),
(step_no 5 true false 50 rfl rfl (by kernel_rfl) (fun _ _ h => h) (by decide) (fun _ => trivial)),
(step_no 5 true false 50 rfl rfl (by kernel_rfl) (fun _ _ h => h) (by decide) (fun _ => trivial)), trivial⟩ (fun a_2 w_4 hs_2 hd_2 hb_1 hO_1 hV_1 => ?_)
   have ta_2_6 := (hO_1 6 (by decide)).trans ((pm rfl).trans ta_1_6)
   have ta_2_7 := (hO_1 7 (by decide)).trans ((pm rfl).trans ta_1_7)
   clear ta_1_0 ta_1_1 ta_1_4 ta_1_5 ta_1_10 ta_1_11 ta_1_9 ta_1_13 ta_1_14 ta_1_15 ta_1_16 ta_1_12 ta_1_17 ta_1_18 ta_1_19 ta_1_20 ta_1_21 ta_1_22 ta_1_23 ta_1_24 ta_1_25 ta_1_6 ta_1_7 hd_1
   replace hPB := hPB.nx hb_1
   replace hRw := hRw.nx hb_1
   replace hAO := hAO.nx hb_1
   replace hP := hP.nx hb_1
   have HB_3 := HBL.then hb_1
   have ta_2_50 : a_2.eval (.tmp 50) = .bool (false) := hV_1 5 50 rfl rfl
   clear hV_1 hO_1
   simp only [List.drop_succ_cons, List.drop_zero]
   refine op_left (e := 50) rfl rfl (by kernel_rfl) ((pm rfl).trans ta_2_50) rfl ?_
   refine q_v 61 (.bool (false)) (o_pickF rfl ((pm rfl).trans ta_2_50) rfl) ?_
   refine q_at (pe hs_2 rfl rfl) ?_
   refine x_nil (hK_16 _ _ ?_)
   refine w2_condF (pe hs_2 rfl rfl) ?_
   refine w2_exit ?_
   refine exb_out rfl ?_
   refine exb_out rfl ?_
   refine thn_exit ?_
   refine exb_hit ?_
   refine hK_11 _ _ ?_
   refine hK_10 _ _ ?_
   refine w2_seq (fun K_17 hK_17 => ?_)
   refine w2_sr (fun K_18 hK_18 => ?_)
   refine q_mv (v := .int .i64 ((0 : Nat) : Int)) ((pm rfl).trans ta_2_7) ?_
   refine q_v 74 (.bool (false)) (o_eq (o_neq (m := 0) (n := 0) rfl (pe hs_2 rfl rfl) rfl) rfl) ?_
   refine x_nil (hK_18 _ _ ?_)
   refine w2_condF (pe hs_2 rfl rfl) ?_
   refine w2_skip ?_
   refine hK_17 _ _ ?_
   refine w2_sr (fun K_19 hK_19 => ?_)
   refine q_mv ((pm rfl).trans ta_2_6) ?_
   refine q_mv (v := .int .i64 ((0 : Nat) : Int)) ((pm rfl).trans ta_2_7) ?_
   refine q_at (pe hs_2 rfl rfl) ?_
   refine q_at (v := .int .i64 ((0 : Nat) : Int)) (pe hs_2 rfl rfl) ?_
   refine x_nil (hK_19 _ _ ?_)
   refine w2_ret ?_
   refine ng_ret ?_
   refine ret2 rfl hd_2 (pe hs_2 rfl rfl) (pe hs_2 rfl rfl) ?_
   have h9 := b7
   rw [run_none q3] at h9
   cases h9
   exact ⟨ps, A5, c5, rfl, rfl, hRw, hAO, ⟨fun j => N j ∨ j = gr ∨ blkA A j, ⟨fun j hj => hj.elim (hP.cip.lt j) (fun h => h.elim (fun h => h ▸ hPB.lt) (hP.wt.lt j)), hev1, b12, N, A, c, hP, .inr (.inl rfl), fun j hj => .inl hj, fun j hj => .inr (.inr hj)⟩, fun j hj => hj.elim (fun h => (b4 j h).imp (hMN j) id) (fun h => h.elim (fun h => .inl (h ▸ hMg)) (fun h => (b5 j h).imp (hMA j) id)), fun j hj hm => hm.elim (s1 j hj) (fun h => h.elim (fun h => by subst h; obtain ⟨p, hp, hk⟩ := hj; exact (hAO p hp).sepB hPB (by decide) hk) (s3 j hj)), fun j hj hm => hm.elim (s2 j hj) (fun h => h.elim (fun h => by subst h; exact hRw.sepB hPB (by decide) hj) (hRw.sepW hP.wt j hj))⟩, HB_3.mono (fun k _ hk => hk.elim (fun e => e ▸ hMg) (fun h => h.elim (fun e => e ▸ hMN _ hC0) (fun h => hMA _ h)))⟩
  ·skip
   dsimp only at q1 q2
   refine x_region (by kernel_rfl) ?_
   refine q_mv ((pm rfl).trans ta_1_0) ?_
   refine q_nc (pe hs_1 rfl rfl) ?_
   refine q_fa 4 (pe hs_1 rfl rfl) ?_
   refine q_ld (v := .int .i64 ((body : Nat) : Int)) (pe hs_1 rfl rfl) hPB rfl ?_
   refine q_v 31 (.bool (true)) (o_eq (o_eql (m := body) (n := 0) rfl (pe hs_1 rfl rfl) rfl) (by rw [decide_eq_true q1])) ?_
   refine q_mv (pe hs_1 rfl rfl) ?_
   refine op_valG (e := 32) (d := 33) (v := .pointer (some ⟨gr, 0, none⟩)) rfl rfl (by kernel_rfl) (pe hs_1 rfl rfl) (o_move rfl ((pm rfl).trans ta_1_0)) ?_
   refine op_valG (e := 32) (d := 34) (v := .pointer (some ⟨gr, 0, none⟩)) rfl rfl (by kernel_rfl) (pe hs_1 rfl rfl) (o_nilCheck rfl (pe hs_1 rfl rfl)) ?_
   refine op_valG (e := 32) (d := 35) (v := .pointer (some ⟨gr, 3, none⟩)) rfl rfl (by kernel_rfl) (pe hs_1 rfl rfl) (o_field (k' := 3) rfl (pe hs_1 rfl rfl) (fun _ => by kernel_rfl)) ?_
   refine op_valG (e := 32) (d := 36) (v := .slice A (ws.length) (c)) rfl rfl (by kernel_rfl) (pe hs_1 rfl rfl) (o_load1 rfl (pe hs_1 rfl rfl) hPB rfl ⟨by kernel_rfl, by kernel_rfl⟩) ?_
   refine op_valG (e := 32) (d := 37) (v := .int .i64 ((ws.length : Nat) : Int)) rfl rfl (by kernel_rfl) (pe hs_1 rfl rfl) (o_len rfl (pe hs_1 rfl rfl)) ?_
   refine op_valG (e := 32) (d := 38) (v := .bool (true)) rfl rfl (by kernel_rfl) (pe hs_1 rfl rfl) (o_eq (o_geq (m := ws.length) (n := 18) rfl (pe hs_1 rfl rfl) rfl) (by rw [decide_eq_true q2])) ?_
   refine q_v 39 (.bool (true)) (o_pickT rfl (pe hs_1 rfl rfl) (pe hs_1 rfl rfl)) ?_
   refine q_at (pe hs_1 rfl rfl) ?_
   refine x_nil (hK_15 _ _ ?_)
   refine w2_condT (pe hs_1 rfl rfl) ?_
   refine w2_seq (fun K_20 hK_20 => ?_)
   rcases Classical.em (x.2.1 = 0) with hz | hz
   ·skip
    refine x_region (by kernel_rfl) ?_
    refine q_mv ((pm rfl).trans ta_1_0) ?_
    refine q_ca (vs := #[.pointer (some ⟨gr, 0, none⟩)]) Try.func48 (args1 (pe hs_1 rfl rfl)) (length_any _ (by rw [q1] at hP; exact hP) (by omega) (by rw [← q3, q1]) q2) (fun e_1 w_5 hR_3 => ?_)
    obtain ⟨rfl, ⟨N_1, A_2, c_2, hP_1, hN_1, hA_2⟩, hX_3⟩ := hR_3
    have hRw2 := hRw.keep2 hPB (by decide) hP.cip hX_3
    have hAO2 := hAO.keep2 hPB (by decide) hP.cip hX_3
    have HB_4 := HBL.step hX_3 (fun k hk hY => hY.elim .inl (fun h => .inr (.inl h)))
    have s1b := hN_1.sep s1 hAO.lt
    have s2b := hN_1.sep s2 hRw.lt
    have s3b : Sep (blkP ps) (blkA A_2) := fun j hj hm => s3 j hj (hA_2 j hm)
    have hN9 := b4.trans hN_1 HBL.size
    have hA9 := fun j hj => b5 j (hA_2 j hj)
    obtain ⟨i1, i2, i3, i4, i5, i6⟩ := stepR_inv q3
    have i7 := stepR_lt q3
    dsimp only at i1 i2 i3 i4 i5 i6 i7
    refine ⟨_, rfl, ?_⟩
    refine q_at (pe hs_1 rfl rfl) ?_
    refine x_nil (hK_20 _ _ ?_)
    refine w2_sr (fun K_21 hK_21 => ?_)
    refine q_mv (pe hs_1 rfl rfl) ?_
    refine q_v 43 (.bool (false)) (o_eq (o_neq (m := x.2.1) (n := 0) rfl (pe hs_1 rfl rfl) rfl) (by simp [hz])) ?_
    refine x_nil (hK_21 _ _ ?_)
    refine w2_condF (pe hs_1 rfl rfl) ?_
    refine w2_skip ?_
    refine hK_14 _ _ ?_
    refine hK_13 _ _ ?_
    refine hK_12 _ _ _ ⟨N_1, A_2, c_2, x.1, ps, A5, c5, x.2.1, f1, rfl, (by rw [putsR_size]; exact hs_1), (by rw [putsR_defers]; exact hd_1), ((pm rfl).trans ta_1_0), ((pm rfl).trans ta_1_1), ((pm rfl).trans ta_1_4), ((pm rfl).trans ta_1_5), ((pm rfl).trans ta_1_6), (pe hs_1 rfl rfl), ((pm rfl).trans ta_1_9), ((pm rfl).trans ta_1_10), ((pm rfl).trans ta_1_11), ((pm rfl).trans ta_1_12), ((pm rfl).trans ta_1_13), ((pm rfl).trans ta_1_14), ((pm rfl).trans ta_1_15), ((pm rfl).trans ta_1_16), ((pm rfl).trans ta_1_17), ((pm rfl).trans ta_1_18), ((pm rfl).trans ta_1_19), ((pm rfl).trans ta_1_20), ((pm rfl).trans ta_1_21), ((pm rfl).trans ta_1_22), ((pm rfl).trans ta_1_23), ((pm rfl).trans ta_1_24), ((pm rfl).trans ta_1_25), hP_1, hRw2, hAO2, hN9, hA9, HB_4, (by rw [← b7, run_good q3 hz, i6 q1, List.append_nil]), (by omega), (by omega), (by omega), i2, (i5 b12), (by omega), hz, i4, s1b, s2b, s3b⟩ ?_
    omega
   ·skip
    refine x_region (by kernel_rfl) ?_
    refine q_mv ((pm rfl).trans ta_1_0) ?_
    refine q_ca (vs := #[.pointer (some ⟨gr, 0, none⟩)]) Try.func48 (args1 (pe hs_1 rfl rfl)) (length_any _ (by rw [q1] at hP; exact hP) (by omega) (by rw [← q3, q1]) q2) (fun e_2 w_6 hR_4 => ?_)
    obtain ⟨rfl, ⟨N_2, A_3, c_3, hP_2, hN_2, hA_3⟩, hX_4⟩ := hR_4
    have hRw2 := hRw.keep2 hPB (by decide) hP.cip hX_4
    have hAO2 := hAO.keep2 hPB (by decide) hP.cip hX_4
    have HB_5 := HBL.step hX_4 (fun k hk hY => hY.elim .inl (fun h => .inr (.inl h)))
    have s1b := hN_2.sep s1 hAO.lt
    have s2b := hN_2.sep s2 hRw.lt
    have s3b : Sep (blkP ps) (blkA A_3) := fun j hj hm => s3 j hj (hA_3 j hm)
    have hN9 := b4.trans hN_2 HBL.size
    have hA9 := fun j hj => b5 j (hA_3 j hj)
    obtain ⟨i1, i2, i3, i4, i5, i6⟩ := stepR_inv q3
    have i7 := stepR_lt q3
    dsimp only at i1 i2 i3 i4 i5 i6 i7
    have hPB2 := hP_2.blk
    have hC2 := hP_2.cip
    have hn2 := hP_2.apart
    refine ⟨_, rfl, ?_⟩
    refine q_at (pe hs_1 rfl rfl) ?_
    refine x_nil (hK_20 _ _ ?_)
    refine w2_sr (fun K_22 hK_22 => ?_)
    refine q_mv (pe hs_1 rfl rfl) ?_
    refine q_v 43 (.bool (true)) (o_eq (o_neq (m := x.2.1) (n := 0) rfl (pe hs_1 rfl rfl) rfl) (by simp [hz])) ?_
    refine x_nil (hK_22 _ _ ?_)
    refine w2_condT (pe hs_1 rfl rfl) ?_
    refine w2_exit ?_
    refine exb_out rfl ?_
    refine exb_out rfl ?_
    refine thn_exit ?_
    refine exb_hit ?_
    refine hK_11 _ _ ?_
    refine hK_10 _ _ ?_
    refine w2_seq (fun K_23 hK_23 => ?_)
    refine w2_sr (fun K_24 hK_24 => ?_)
    refine q_mv (pe hs_1 rfl rfl) ?_
    refine q_v 74 (.bool (true)) (o_eq (o_neq (m := x.2.1) (n := 0) rfl (pe hs_1 rfl rfl) rfl) (by simp [hz])) ?_
    refine x_nil (hK_24 _ _ ?_)
    refine w2_condT (pe hs_1 rfl rfl) ?_
    refine x_region (by kernel_rfl) ?_
    refine q_mv ((pm rfl).trans ta_1_0) ?_
    refine q_mv ((pm rfl).trans ta_1_0) ?_
    refine q_nc (pe hs_1 rfl rfl) ?_
    refine q_fa 5 (pe hs_1 rfl rfl) ?_
    refine op_do rfl rfl (o_store1 rfl (pe hs_1 rfl rfl) rfl rfl rfl hPB2 (by simp only [List.length_cons, List.length_nil]; omega) ⟨by kernel_rfl, by kernel_rfl⟩) (fun w_7 hR_5 => ?_)
    obtain ⟨hB_2, hX_5⟩ := hR_5
    replace hC2 := hC2.keepX hX_5 hn2
    replace hRw2 := hRw2.keepX hPB2 (by decide) hX_5
    replace hAO2 := hAO2.keepX hPB2 (by decide) hX_5
    have HB_6 := HB_5.step hX_5 (fun k hk (hY : k = gr) => .inl hY)
    clear hPB2
    simp only [List.set_cons_zero, List.set_cons_succ] at hB_2
    refine q_nc (pe hs_1 rfl rfl) ?_
    refine q_fa 3 (pe hs_1 rfl rfl) ?_
    refine op_do rfl rfl (o_store1 rfl (pe hs_1 rfl rfl) rfl rfl rfl hB_2 (by simp only [List.length_cons, List.length_nil]; omega) ⟨by kernel_rfl, by kernel_rfl⟩) (fun w_8 hR_6 => ?_)
    obtain ⟨hB_3, hX_6⟩ := hR_6
    replace hC2 := hC2.keepX hX_6 hn2
    replace hRw2 := hRw2.keepX hB_2 (by decide) hX_6
    replace hAO2 := hAO2.keepX hB_2 (by decide) hX_6
    have HB_7 := HB_6.step hX_6 (fun k hk (hY : k = gr) => .inl hY)
    clear hB_2
    simp only [List.set_cons_zero, List.set_cons_succ] at hB_3
    refine x_nil (hK_23 _ _ ?_)
    refine w2_sr (fun K_25 hK_25 => ?_)
    refine q_mv ((pm rfl).trans ta_1_6) ?_
    refine q_mv (pe hs_1 rfl rfl) ?_
    refine q_at (pe hs_1 rfl rfl) ?_
    refine q_at (pe hs_1 rfl rfl) ?_
    refine x_nil (hK_25 _ _ ?_)
    refine w2_ret ?_
    refine ng_ret ?_
    refine ret2 rfl hd_1 (pe hs_1 rfl rfl) (pe hs_1 rfl rfl) ?_
    have h9 := b7
    rw [run_bad q3 hz] at h9
    cases h9
    exact ⟨ps, A5, c5, rfl, rfl, hRw2, hAO2, ⟨fun j => N_2 j ∨ j = gr, ⟨fun j hj => hj.elim (hC2.lt j) (fun h => h ▸ hB_3.lt), by show 1 ≤ x.1.co.every; rw [i2]; exact hev1, i5 b12, N_2, none, 0, ⟨hC2, hB_3, Wt.nil _, hn2, fun j hj => absurd hj blkA_none⟩, .inr rfl, fun j hj => .inl hj, fun j hj => absurd hj blkA_none⟩, fun j hj => hj.elim (fun h => (hN9 j h).imp (hMN j) id) (fun h => .inl (h ▸ hMg)), fun j hj hm => hm.elim (s1b j hj) (fun h => by subst h; obtain ⟨p, hp, hk⟩ := hj; exact (hAO2 p hp).sepB hB_3 (by decide) hk), fun j hj hm => hm.elim (s2b j hj) (fun h => by subst h; exact hRw2.sepB hB_3 (by decide) hj)⟩, HB_7.mono (fun k _ hk => hk.elim (fun e => e ▸ hMg) (fun h => h.elim (fun e => e ▸ hMN _ hC0) (fun h => hMA _ h)))⟩
  ·skip
   dsimp only at q1 q2
   refine x_region (by kernel_rfl) ?_
   refine q_mv ((pm rfl).trans ta_1_0) ?_
   refine q_nc (pe hs_1 rfl rfl) ?_
   refine q_fa 4 (pe hs_1 rfl rfl) ?_
   refine q_ld (v := .int .i64 ((body : Nat) : Int)) (pe hs_1 rfl rfl) hPB rfl ?_
   refine q_v 31 (.bool (false)) (o_eq (o_eql (m := body) (n := 0) rfl (pe hs_1 rfl rfl) rfl) (by rw [decide_eq_false (by omega)])) ?_
   refine q_mv (pe hs_1 rfl rfl) ?_
   refine op_left (e := 32) rfl rfl (by kernel_rfl) (pe hs_1 rfl rfl) rfl ?_
   refine op_left (e := 32) rfl rfl (by kernel_rfl) (pe hs_1 rfl rfl) rfl ?_
   refine op_left (e := 32) rfl rfl (by kernel_rfl) (pe hs_1 rfl rfl) rfl ?_
   refine op_left (e := 32) rfl rfl (by kernel_rfl) (pe hs_1 rfl rfl) rfl ?_
   refine op_left (e := 32) rfl rfl (by kernel_rfl) (pe hs_1 rfl rfl) rfl ?_
   refine op_left (e := 32) rfl rfl (by kernel_rfl) (pe hs_1 rfl rfl) rfl ?_
   refine q_v 39 (.bool (false)) (o_pickF rfl (pe hs_1 rfl rfl) rfl) ?_
   refine q_at (pe hs_1 rfl rfl) ?_
   refine x_nil (hK_15 _ _ ?_)
   refine w2_condF (pe hs_1 rfl rfl) ?_
   refine w2_seq (fun K_26 hK_26 => ?_)
   refine x_drawn 15 [fun _ v => v = .pointer (some ⟨gr, 0, none⟩), fun _ v => v = .pointer (some ⟨gr, 0, none⟩), fun _ v => v = .pointer (some ⟨gr, 4, none⟩), fun _ v => v = .int .i64 ((body : Nat) : Int), fun _ v => v = .bool (true), fun _ v => v = .bool (true), fun _ v => v = .pointer (some ⟨gr, 0, none⟩), fun _ v => v = .pointer (some ⟨gr, 0, none⟩), fun _ v => v = .pointer (some ⟨gr, 3, none⟩), fun _ v => v = .slice A (ws.length) (c), fun _ v => v = .int .i64 ((ws.length : Nat) : Int), fun _ v => v = .pointer (some ⟨gr, 0, none⟩), fun _ v => v = .pointer (some ⟨gr, 0, none⟩), fun _ v => v = .pointer (some ⟨gr, 4, none⟩), fun _ v => v = .int .i64 ((body : Nat) : Int)] [45, 46, 47, 48, 49, 50, 51, 52, 53, 54, 55, 56, 57, 58, 59] hs_1 hd_1 (by kernel_rfl) (by kernel_rfl) (by kernel_rfl) (by kernel_rfl) (by kernel_rfl) ⟨stLit, stLit, stLit, stLit, stLit, stLit, stLit, stLit, stLit, stLit, stLit, stLit, stLit, stLit, stLit, trivial⟩ ⟨(step_ok rfl (fun a' w' hb' hO hD => by
     have d_7 := (hO 0 (by decide)).trans ((pm rfl).trans ta_1_0)
     exact .inl ⟨_, _, (o_move rfl d_7), rfl, Below.refl _ _⟩)),
(step_ok rfl (fun a' w' hb' hO hD => by
     have d_8 : a'.eval (.tmp 45) = .pointer (some ⟨gr, 0, none⟩) := hD 0 45 (by kernel_rfl) rfl
     exact .inl ⟨_, _, (o_nilCheck rfl d_8), rfl, Below.refl _ _⟩)),
(step_ok rfl (fun a' w' hb' hO hD => by
     have d_9 : a'.eval (.tmp 46) = .pointer (some ⟨gr, 0, none⟩) := hD 1 46 (by kernel_rfl) rfl
     exact .inl ⟨_, _, (o_field (k' := 4) rfl d_9 (fun _ => by kernel_rfl)), rfl, Below.refl _ _⟩)),
(step_ok rfl (fun a' w' hb' hO hD => by
     have d_10 : a'.eval (.tmp 47) = .pointer (some ⟨gr, 4, none⟩) := hD 2 47 (by kernel_rfl) rfl
     exact .inl ⟨_, _, (o_load1 rfl d_10 (hPB.nx hb') rfl ⟨by kernel_rfl, by kernel_rfl⟩), rfl, Below.refl _ _⟩)),
(step_ok rfl (fun a' w' hb' hO hD => by
     have d_11 : a'.eval (.tmp 48) = .int .i64 ((body : Nat) : Int) := hD 3 48 (by kernel_rfl) rfl
     have e0 : (.bool (decide (0 < body)) : Value) = .bool (true) := (by rw [decide_eq_true q1])
     exact .inl ⟨_, _, (o_gtr (m := body) (n := 0) rfl d_11 rfl), e0, Below.refl _ _⟩)),
(step_ok rfl (fun a' w' hb' hO hD => by
     have d_12 : a'.eval (.tmp 49) = .bool (true) := hD 4 49 (by kernel_rfl) rfl
     exact .inl ⟨_, _, (o_move rfl d_12), rfl, Below.refl _ _⟩)),
(step_yes 5 true 50 rfl rfl (by kernel_rfl) (fun _ _ h => h) (fun a' w' hb' hO hD => by
     have d_13 := (hO 0 (by decide)).trans ((pm rfl).trans ta_1_0)
     exact .inl ⟨_, _, (o_move rfl d_13), rfl, Below.refl _ _⟩)),
(step_yes 5 true 50 rfl rfl (by kernel_rfl) (fun _ _ h => h) (fun a' w' hb' hO hD => by
     have d_14 : a'.eval (.tmp 51) = .pointer (some ⟨gr, 0, none⟩) := hD 6 51 (by kernel_rfl) rfl
     exact .inl ⟨_, _, (o_nilCheck rfl d_14), rfl, Below.refl _ _⟩)),
(step_yes 5 true 50 rfl rfl (by kernel_rfl) (fun _ _ h => h) (fun a' w' hb' hO hD => by
     have d_15 : a'.eval (.tmp 52) = .pointer (some ⟨gr, 0, none⟩) := hD 7 52 (by kernel_rfl) rfl
     exact .inl ⟨_, _, (o_field (k' := 3) rfl d_15 (fun _ => by kernel_rfl)), rfl, Below.refl _ _⟩)),
(step_yes 5 true 50 rfl rfl (by kernel_rfl) (fun _ _ h => h) (fun a' w' hb' hO hD => by
     have d_16 : a'.eval (.tmp 53) = .pointer (some ⟨gr, 3, none⟩) := hD 8 53 (by kernel_rfl) rfl
     exact .inl ⟨_, _, (o_load1 rfl d_16 (hPB.nx hb') rfl ⟨by kernel_rfl, by kernel_rfl⟩), rfl, Below.refl _ _⟩)),
(step_yes 5 true 50 rfl rfl (by kernel_rfl) (fun _ _ h => h) (fun a' w' hb' hO hD => by
     have d_17 : a'.eval (.tmp 54) = .slice A (ws.length) (c) := hD 9 54 (by kernel_rfl) rfl
     exact .inl ⟨_, _, (o_len rfl d_17), rfl, Below.refl _ _⟩)),
(step_yes 5 true 50 rfl rfl (by kernel_rfl) (fun _ _ h => h) (fun a' w' hb' hO hD => by
     have d_18 := (hO 0 (by decide)).trans ((pm rfl).trans ta_1_0)
     exact .inl ⟨_, _, (o_move rfl d_18), rfl, Below.refl _ _⟩)),
(step_yes 5 true 50 rfl rfl (by kernel_rfl) (fun _ _ h => h) (fun a' w' hb' hO hD => by
     have d_19 : a'.eval (.tmp 56) = .pointer (some ⟨gr, 0, none⟩) := hD 11 56 (by kernel_rfl) rfl
     exact .inl ⟨_, _, (o_nilCheck rfl d_19), rfl, Below.refl _ _⟩)),
(step_yes 5 true 50 rfl rfl (by kernel_rfl) (fun _ _ h => h) (fun a' w' hb' hO hD => by
     have d_20 : a'.eval (.tmp 57) = .pointer (some ⟨gr, 0, none⟩) := hD 12 57 (by kernel_rfl) rfl
     exact .inl ⟨_, _, (o_field (k' := 4) rfl d_20 (fun _ => by kernel_rfl)), rfl, Below.refl _ _⟩)),
(step_yes 5 true 50 rfl rfl (by kernel_rfl) (fun _ _ h => h) (fun a' w' hb' hO hD => by
     have d_21 : a'.eval (.tmp 58) = .pointer (some ⟨gr, 4, none⟩) := hD 13 58 (by kernel_rfl) rfl
     exact .inl ⟨_, _, (o_load1 rfl d_21 (hPB.nx hb') rfl ⟨by kernel_rfl, by kernel_rfl⟩), rfl, Below.refl _ _⟩)), trivial⟩ (fun a_3 w_9 hs_3 hd_3 hb_2 hO_2 hV_2 => ?_)
   have ta_3_6 := (hO_2 6 (by decide)).trans ((pm rfl).trans ta_1_6)
   have ta_3_7 := (hO_2 7 (by decide)).trans ((pm rfl).trans ta_1_7)
   clear ta_1_0 ta_1_1 ta_1_4 ta_1_5 ta_1_10 ta_1_11 ta_1_9 ta_1_13 ta_1_14 ta_1_15 ta_1_16 ta_1_12 ta_1_17 ta_1_18 ta_1_19 ta_1_20 ta_1_21 ta_1_22 ta_1_23 ta_1_24 ta_1_25 ta_1_6 ta_1_7 hd_1
   replace hPB := hPB.nx hb_2
   replace hRw := hRw.nx hb_2
   replace hAO := hAO.nx hb_2
   replace hP := hP.nx hb_2
   have HB_8 := HBL.then hb_2
   have ta_3_50 : a_3.eval (.tmp 50) = .bool (true) := hV_2 5 50 rfl rfl
   have ta_3_55 : a_3.eval (.tmp 55) = .int .i64 ((ws.length : Nat) : Int) := hV_2 10 55 rfl rfl
   have ta_3_59 : a_3.eval (.tmp 59) = .int .i64 ((body : Nat) : Int) := hV_2 14 59 rfl rfl
   clear hV_2 hO_2
   simp only [List.drop_succ_cons, List.drop_zero]
   refine op_valG (e := 50) (d := 60) (v := .bool (false)) rfl rfl (by kernel_rfl) ((pm rfl).trans ta_3_50) (o_eq (o_geq (m := ws.length) (n := body) rfl ((pm rfl).trans ta_3_55) ((pm rfl).trans ta_3_59)) (by rw [decide_eq_false (by omega)])) ?_
   refine q_v 61 (.bool (false)) (o_pickT rfl ((pm rfl).trans ta_3_50) (pe hs_3 rfl rfl)) ?_
   refine q_at (pe hs_3 rfl rfl) ?_
   refine x_nil (hK_26 _ _ ?_)
   refine w2_condF (pe hs_3 rfl rfl) ?_
   refine w2_exit ?_
   refine exb_out rfl ?_
   refine exb_out rfl ?_
   refine thn_exit ?_
   refine exb_hit ?_
   refine hK_11 _ _ ?_
   refine hK_10 _ _ ?_
   refine w2_seq (fun K_27 hK_27 => ?_)
   refine w2_sr (fun K_28 hK_28 => ?_)
   refine q_mv (v := .int .i64 ((0 : Nat) : Int)) ((pm rfl).trans ta_3_7) ?_
   refine q_v 74 (.bool (false)) (o_eq (o_neq (m := 0) (n := 0) rfl (pe hs_3 rfl rfl) rfl) rfl) ?_
   refine x_nil (hK_28 _ _ ?_)
   refine w2_condF (pe hs_3 rfl rfl) ?_
   refine w2_skip ?_
   refine hK_27 _ _ ?_
   refine w2_sr (fun K_29 hK_29 => ?_)
   refine q_mv ((pm rfl).trans ta_3_6) ?_
   refine q_mv (v := .int .i64 ((0 : Nat) : Int)) ((pm rfl).trans ta_3_7) ?_
   refine q_at (pe hs_3 rfl rfl) ?_
   refine q_at (v := .int .i64 ((0 : Nat) : Int)) (pe hs_3 rfl rfl) ?_
   refine x_nil (hK_29 _ _ ?_)
   refine w2_ret ?_
   refine ng_ret ?_
   refine ret2 rfl hd_3 (pe hs_3 rfl rfl) (pe hs_3 rfl rfl) ?_
   have h9 := b7
   rw [run_none q3] at h9
   cases h9
   exact ⟨ps, A5, c5, rfl, rfl, hRw, hAO, ⟨fun j => N j ∨ j = gr ∨ blkA A j, ⟨fun j hj => hj.elim (hP.cip.lt j) (fun h => h.elim (fun h => h ▸ hPB.lt) (hP.wt.lt j)), hev1, b12, N, A, c, hP, .inr (.inl rfl), fun j hj => .inl hj, fun j hj => .inr (.inr hj)⟩, fun j hj => hj.elim (fun h => (b4 j h).imp (hMN j) id) (fun h => h.elim (fun h => .inl (h ▸ hMg)) (fun h => (b5 j h).imp (hMA j) id)), fun j hj hm => hm.elim (s1 j hj) (fun h => h.elim (fun h => by subst h; obtain ⟨p, hp, hk⟩ := hj; exact (hAO p hp).sepB hPB (by decide) hk) (s3 j hj)), fun j hj hm => hm.elim (s2 j hj) (fun h => h.elim (fun h => by subst h; exact hRw.sepB hPB (by decide) hj) (hRw.sepW hP.wt j hj))⟩, HB_8.mono (fun k _ hk => hk.elim (fun e => e ▸ hMg) (fun h => h.elim (fun e => e ▸ hMN _ hC0) (fun h => hMA _ h)))⟩
  ·skip
   dsimp only at q1 q2
   refine x_region (by kernel_rfl) ?_
   refine q_mv ((pm rfl).trans ta_1_0) ?_
   refine q_nc (pe hs_1 rfl rfl) ?_
   refine q_fa 4 (pe hs_1 rfl rfl) ?_
   refine q_ld (v := .int .i64 ((body : Nat) : Int)) (pe hs_1 rfl rfl) hPB rfl ?_
   refine q_v 31 (.bool (false)) (o_eq (o_eql (m := body) (n := 0) rfl (pe hs_1 rfl rfl) rfl) (by rw [decide_eq_false (by omega)])) ?_
   refine q_mv (pe hs_1 rfl rfl) ?_
   refine op_left (e := 32) rfl rfl (by kernel_rfl) (pe hs_1 rfl rfl) rfl ?_
   refine op_left (e := 32) rfl rfl (by kernel_rfl) (pe hs_1 rfl rfl) rfl ?_
   refine op_left (e := 32) rfl rfl (by kernel_rfl) (pe hs_1 rfl rfl) rfl ?_
   refine op_left (e := 32) rfl rfl (by kernel_rfl) (pe hs_1 rfl rfl) rfl ?_
   refine op_left (e := 32) rfl rfl (by kernel_rfl) (pe hs_1 rfl rfl) rfl ?_
   refine op_left (e := 32) rfl rfl (by kernel_rfl) (pe hs_1 rfl rfl) rfl ?_
   refine q_v 39 (.bool (false)) (o_pickF rfl (pe hs_1 rfl rfl) rfl) ?_
   refine q_at (pe hs_1 rfl rfl) ?_
   refine x_nil (hK_15 _ _ ?_)
   refine w2_condF (pe hs_1 rfl rfl) ?_
   refine w2_seq (fun K_30 hK_30 => ?_)
   refine x_drawn 15 [fun _ v => v = .pointer (some ⟨gr, 0, none⟩), fun _ v => v = .pointer (some ⟨gr, 0, none⟩), fun _ v => v = .pointer (some ⟨gr, 4, none⟩), fun _ v => v = .int .i64 ((body : Nat) : Int), fun _ v => v = .bool (true), fun _ v => v = .bool (true), fun _ v => v = .pointer (some ⟨gr, 0, none⟩), fun _ v => v = .pointer (some ⟨gr, 0, none⟩), fun _ v => v = .pointer (some ⟨gr, 3, none⟩), fun _ v => v = .slice A (ws.length) (c), fun _ v => v = .int .i64 ((ws.length : Nat) : Int), fun _ v => v = .pointer (some ⟨gr, 0, none⟩), fun _ v => v = .pointer (some ⟨gr, 0, none⟩), fun _ v => v = .pointer (some ⟨gr, 4, none⟩), fun _ v => v = .int .i64 ((body : Nat) : Int)] [45, 46, 47, 48, 49, 50, 51, 52, 53, 54, 55, 56, 57, 58, 59] hs_1 hd_1 (by kernel_rfl) (by kernel_rfl) (by kernel_rfl) (by kernel_rfl) (by kernel_rfl) ⟨stLit, stLit, stLit, stLit, stLit, stLit, stLit, stLit, stLit, stLit, stLit, stLit, stLit, stLit, stLit, trivial⟩ ⟨(step_ok rfl (fun a' w' hb' hO hD => by
     have d_22 := (hO 0 (by decide)).trans ((pm rfl).trans ta_1_0)
     exact .inl ⟨_, _, (o_move rfl d_22), rfl, Below.refl _ _⟩)),
(step_ok rfl (fun a' w' hb' hO hD => by
     have d_23 : a'.eval (.tmp 45) = .pointer (some ⟨gr, 0, none⟩) := hD 0 45 (by kernel_rfl) rfl
     exact .inl ⟨_, _, (o_nilCheck rfl d_23), rfl, Below.refl _ _⟩)),
(step_ok rfl (fun a' w' hb' hO hD => by
     have d_24 : a'.eval (.tmp 46) = .pointer (some ⟨gr, 0, none⟩) := hD 1 46 (by kernel_rfl) rfl
     exact .inl ⟨_, _, (o_field (k' := 4) rfl d_24 (fun _ => by kernel_rfl)), rfl, Below.refl _ _⟩)),
(step_ok rfl (fun a' w' hb' hO hD => by
     have d_25 : a'.eval (.tmp 47) = .pointer (some ⟨gr, 4, none⟩) := hD 2 47 (by kernel_rfl) rfl
     exact .inl ⟨_, _, (o_load1 rfl d_25 (hPB.nx hb') rfl ⟨by kernel_rfl, by kernel_rfl⟩), rfl, Below.refl _ _⟩)),
(step_ok rfl (fun a' w' hb' hO hD => by
     have d_26 : a'.eval (.tmp 48) = .int .i64 ((body : Nat) : Int) := hD 3 48 (by kernel_rfl) rfl
     have e0 : (.bool (decide (0 < body)) : Value) = .bool (true) := (by rw [decide_eq_true q1])
     exact .inl ⟨_, _, (o_gtr (m := body) (n := 0) rfl d_26 rfl), e0, Below.refl _ _⟩)),
(step_ok rfl (fun a' w' hb' hO hD => by
     have d_27 : a'.eval (.tmp 49) = .bool (true) := hD 4 49 (by kernel_rfl) rfl
     exact .inl ⟨_, _, (o_move rfl d_27), rfl, Below.refl _ _⟩)),
(step_yes 5 true 50 rfl rfl (by kernel_rfl) (fun _ _ h => h) (fun a' w' hb' hO hD => by
     have d_28 := (hO 0 (by decide)).trans ((pm rfl).trans ta_1_0)
     exact .inl ⟨_, _, (o_move rfl d_28), rfl, Below.refl _ _⟩)),
(step_yes 5 true 50 rfl rfl (by kernel_rfl) (fun _ _ h => h) (fun a' w' hb' hO hD => by
     have d_29 : a'.eval (.tmp 51) = .pointer (some ⟨gr, 0, none⟩) := hD 6 51 (by kernel_rfl) rfl
     exact .inl ⟨_, _, (o_nilCheck rfl d_29), rfl, Below.refl _ _⟩)),
(step_yes 5 true 50 rfl rfl (by kernel_rfl) (fun _ _ h => h) (fun a' w' hb' hO hD => by
     have d_30 : a'.eval (.tmp 52) = .pointer (some ⟨gr, 0, none⟩) := hD 7 52 (by kernel_rfl) rfl
     exact .inl ⟨_, _, (o_field (k' := 3) rfl d_30 (fun _ => by kernel_rfl)), rfl, Below.refl _ _⟩)),
(step_yes 5 true 50 rfl rfl (by kernel_rfl) (fun _ _ h => h) (fun a' w' hb' hO hD => by
     have d_31 : a'.eval (.tmp 53) = .pointer (some ⟨gr, 3, none⟩) := hD 8 53 (by kernel_rfl) rfl
     exact .inl ⟨_, _, (o_load1 rfl d_31 (hPB.nx hb') rfl ⟨by kernel_rfl, by kernel_rfl⟩), rfl, Below.refl _ _⟩)),
(step_yes 5 true 50 rfl rfl (by kernel_rfl) (fun _ _ h => h) (fun a' w' hb' hO hD => by
     have d_32 : a'.eval (.tmp 54) = .slice A (ws.length) (c) := hD 9 54 (by kernel_rfl) rfl
     exact .inl ⟨_, _, (o_len rfl d_32), rfl, Below.refl _ _⟩)),
(step_yes 5 true 50 rfl rfl (by kernel_rfl) (fun _ _ h => h) (fun a' w' hb' hO hD => by
     have d_33 := (hO 0 (by decide)).trans ((pm rfl).trans ta_1_0)
     exact .inl ⟨_, _, (o_move rfl d_33), rfl, Below.refl _ _⟩)),
(step_yes 5 true 50 rfl rfl (by kernel_rfl) (fun _ _ h => h) (fun a' w' hb' hO hD => by
     have d_34 : a'.eval (.tmp 56) = .pointer (some ⟨gr, 0, none⟩) := hD 11 56 (by kernel_rfl) rfl
     exact .inl ⟨_, _, (o_nilCheck rfl d_34), rfl, Below.refl _ _⟩)),
(step_yes 5 true 50 rfl rfl (by kernel_rfl) (fun _ _ h => h) (fun a' w' hb' hO hD => by
     have d_35 : a'.eval (.tmp 57) = .pointer (some ⟨gr, 0, none⟩) := hD 12 57 (by kernel_rfl) rfl
     exact .inl ⟨_, _, (o_field (k' := 4) rfl d_35 (fun _ => by kernel_rfl)), rfl, Below.refl _ _⟩)),
(step_yes 5 true 50 rfl rfl (by kernel_rfl) (fun _ _ h => h) (fun a' w' hb' hO hD => by
     have d_36 : a'.eval (.tmp 58) = .pointer (some ⟨gr, 4, none⟩) := hD 13 58 (by kernel_rfl) rfl
     exact .inl ⟨_, _, (o_load1 rfl d_36 (hPB.nx hb') rfl ⟨by kernel_rfl, by kernel_rfl⟩), rfl, Below.refl _ _⟩)), trivial⟩ (fun a_4 w_10 hs_4 hd_4 hb_3 hO_3 hV_3 => ?_)
   have ta_4_0 := (hO_3 0 (by decide)).trans ((pm rfl).trans ta_1_0)
   have ta_4_1 := (hO_3 1 (by decide)).trans ((pm rfl).trans ta_1_1)
   have ta_4_4 := (hO_3 4 (by decide)).trans ((pm rfl).trans ta_1_4)
   have ta_4_5 := (hO_3 5 (by decide)).trans ((pm rfl).trans ta_1_5)
   have ta_4_10 := (hO_3 10 (by decide)).trans ((pm rfl).trans ta_1_10)
   have ta_4_11 := (hO_3 11 (by decide)).trans ((pm rfl).trans ta_1_11)
   have ta_4_9 := (hO_3 9 (by decide)).trans ((pm rfl).trans ta_1_9)
   have ta_4_13 := (hO_3 13 (by decide)).trans ((pm rfl).trans ta_1_13)
   have ta_4_14 := (hO_3 14 (by decide)).trans ((pm rfl).trans ta_1_14)
   have ta_4_15 := (hO_3 15 (by decide)).trans ((pm rfl).trans ta_1_15)
   have ta_4_16 := (hO_3 16 (by decide)).trans ((pm rfl).trans ta_1_16)
   have ta_4_12 := (hO_3 12 (by decide)).trans ((pm rfl).trans ta_1_12)
   have ta_4_17 := (hO_3 17 (by decide)).trans ((pm rfl).trans ta_1_17)
   have ta_4_18 := (hO_3 18 (by decide)).trans ((pm rfl).trans ta_1_18)
   have ta_4_19 := (hO_3 19 (by decide)).trans ((pm rfl).trans ta_1_19)
   have ta_4_20 := (hO_3 20 (by decide)).trans ((pm rfl).trans ta_1_20)
   have ta_4_21 := (hO_3 21 (by decide)).trans ((pm rfl).trans ta_1_21)
   have ta_4_22 := (hO_3 22 (by decide)).trans ((pm rfl).trans ta_1_22)
   have ta_4_23 := (hO_3 23 (by decide)).trans ((pm rfl).trans ta_1_23)
   have ta_4_24 := (hO_3 24 (by decide)).trans ((pm rfl).trans ta_1_24)
   have ta_4_25 := (hO_3 25 (by decide)).trans ((pm rfl).trans ta_1_25)
   have ta_4_6 := (hO_3 6 (by decide)).trans ((pm rfl).trans ta_1_6)
   clear ta_1_0 ta_1_1 ta_1_4 ta_1_5 ta_1_10 ta_1_11 ta_1_9 ta_1_13 ta_1_14 ta_1_15 ta_1_16 ta_1_12 ta_1_17 ta_1_18 ta_1_19 ta_1_20 ta_1_21 ta_1_22 ta_1_23 ta_1_24 ta_1_25 ta_1_6 ta_1_7 hd_1
   replace hPB := hPB.nx hb_3
   replace hRw := hRw.nx hb_3
   replace hAO := hAO.nx hb_3
   replace hP := hP.nx hb_3
   have HB_9 := HBL.then hb_3
   have ta_4_50 : a_4.eval (.tmp 50) = .bool (true) := hV_3 5 50 rfl rfl
   have ta_4_55 : a_4.eval (.tmp 55) = .int .i64 ((ws.length : Nat) : Int) := hV_3 10 55 rfl rfl
   have ta_4_59 : a_4.eval (.tmp 59) = .int .i64 ((body : Nat) : Int) := hV_3 14 59 rfl rfl
   clear hV_3 hO_3
   simp only [List.drop_succ_cons, List.drop_zero]
   refine op_valG (e := 50) (d := 60) (v := .bool (true)) rfl rfl (by kernel_rfl) ((pm rfl).trans ta_4_50) (o_eq (o_geq (m := ws.length) (n := body) rfl ((pm rfl).trans ta_4_55) ((pm rfl).trans ta_4_59)) (by rw [decide_eq_true q2])) ?_
   refine q_v 61 (.bool (true)) (o_pickT rfl ((pm rfl).trans ta_4_50) (pe hs_4 rfl rfl)) ?_
   refine q_at (pe hs_4 rfl rfl) ?_
   refine x_nil (hK_30 _ _ ?_)
   refine w2_condT (pe hs_4 rfl rfl) ?_
   refine w2_sr (fun K_31 hK_31 => ?_)
   refine q_as (.slice none (0) (0)) rfl ?_
   refine x_nil (hK_31 _ _ ?_)
   refine w2_seq (fun K_32 hK_32 => ?_)
   refine w2_seq (fun K_33 hK_33 => ?_)
   rcases Classical.em (x.2.1 = 0) with hz | hz
   ·skip
    refine x_region (by kernel_rfl) ?_
    refine q_mv ((pm rfl).trans ta_4_0) ?_
    refine q_ca (vs := #[.pointer (some ⟨gr, 0, none⟩)]) Try.func49 (args1 (pe hs_4 rfl rfl)) (whole_ok _ hP (by omega) q3 q1 q2 b12 hev1 (by omega) hz) (fun e_3 w_11 hR_7 => ?_)
    obtain ⟨b_1, A_5, c_5, rfl, hx_1, ho_1, ⟨N_3, A_4, c_4, hP_3, hN_3, hA_4, sb_1⟩, hX_7⟩ := hR_7
    have sw : Sep (blkA A_5) (blkA A_4) := fun j hj hm => absurd (hP.wt.lt j (hA_4 j hm)) (Nat.not_lt.2 (ho_1.ge' j hj))
    replace ho_1 := ho_1.mono HB_9.size
    have hRw2 := hRw.keep2 hPB (by decide) hP.cip hX_7
    have hAO2 := hAO.keep2 hPB (by decide) hP.cip hX_7
    have HB_10 := HB_9.step hX_7 (fun k hk hY => hY.elim .inl (fun h => .inr (.inl h)))
    have s1b := hN_3.sep s1 hAO.lt
    have s2b := hN_3.sep s2 hRw.lt
    have s3b : Sep (blkP ps) (blkA A_4) := fun j hj hm => s3 j hj (hA_4 j hm)
    have hN9 := b4.trans hN_3 HB_9.size
    have hA9 := fun j hj => b5 j (hA_4 j hj)
    obtain ⟨i1, i2, i3, i4, i5, i6⟩ := stepR_inv q3
    have i7 := stepR_lt q3
    dsimp only at i1 i2 i3 i4 i5 i6 i7
    refine ⟨_, rfl, ?_⟩
    refine q_mv (pe hs_4 rfl rfl) ?_
    refine q_ex (v := .slice A_5 (b_1.length) (c_5)) (pe hs_4 rfl rfl) rfl ?_
    refine q_ex (v := .int .i64 ((0 : Nat) : Int)) (pe hs_4 rfl rfl) rfl ?_
    refine q_at (pe hs_4 rfl rfl) ?_
    refine q_at (v := .int .i64 ((0 : Nat) : Int)) (pe hs_4 rfl rfl) ?_
    refine x_nil (hK_33 _ _ ?_)
    refine w2_sr (fun K_34 hK_34 => ?_)
    refine q_mv (v := .int .i64 ((0 : Nat) : Int)) (pe hs_4 rfl rfl) ?_
    refine q_v 68 (.bool (false)) (o_eq (o_neq (m := 0) (n := 0) rfl (pe hs_4 rfl rfl) rfl) rfl) ?_
    refine x_nil (hK_34 _ _ ?_)
    refine w2_condF (pe hs_4 rfl rfl) ?_
    refine w2_skip ?_
    refine hK_32 _ _ ?_
    refine x_region (by kernel_rfl) ?_
    refine q_mv ((pm rfl).trans ta_4_6) ?_
    refine q_mv (pe hs_4 rfl rfl) ?_
    refine op_ex (d := 71) rfl rfl (o_bldS (vs := #[(0, .slice A_5 (b_1.length) (c_5))]) (cs := #[.slice A_5 (b_1.length) (c_5)]) (e := 22) rfl (bld1 (pe hs_4 rfl rfl)) (fun _ => by kernel_rfl)) (fun v_2 w_12 hR_8 => ?_)
    obtain ⟨g_1, rfl, hle_1, hB_4, hb_4⟩ := hR_8
    replace hP_3 := hP_3.nx hb_4
    replace hRw2 := hRw2.nx hb_4
    replace hAO2 := hAO2.nx hb_4
    replace ho_1 := ho_1.nx hb_4
    have HB_11 := HB_10.then hb_4
    refine op_ex (d := 72) rfl rfl (o_appS1 (xs := b_1) rfl (pe hs_4 rfl rfl) (pe hs_4 rfl rfl) hRw2 hB_4 rfl rfl (by omega) HB_11.size) (fun v_3 w_13 hR_9 => ?_)
    obtain ⟨A_6, c_6, rfl, hRw_1, hb_5, hk_1, ha_1⟩ := hR_9
    have HB_12 := HB_11.thenB hb_5
    have s1c : Sep (blkP (ps ++ [⟨A_5, c_5, b_1⟩])) N_3 := fun j hj => (blkP_app hj).elim (s1b j) (fun h => sb_1 j (blkP_one h))
    have s2c : Sep (blkA A_6) N_3 := fun j hj => (ha_1 j hj).elim (s2b j) (fun h hm => absurd (hP_3.cip.lt j hm) (Nat.not_lt.2 h))
    have s3c : Sep (blkP (ps ++ [⟨A_5, c_5, b_1⟩])) (blkA A_4) := fun j hj => (blkP_app hj).elim (s3b j) (fun h => sw j (blkP_one h))
    have hP9 := hP_3.keptT hk_1 (by decide) (by decide) (by decide)
    have hAO9 : AllOwn w_13 w.heap.size (ps ++ [⟨A_5, c_5, b_1⟩]) := (hAO2.keptT hk_1 (by decide)).app (fun p hp => by rw [List.mem_singleton.1 hp]; exact ho_1.keptT hk_1 (by decide))
    refine q_at (pe hs_4 rfl rfl) ?_
    refine x_nil (hK_14 _ _ ?_)
    refine hK_13 _ _ ?_
    refine hK_12 _ _ _ ⟨N_3, A_4, c_4, x.1, ps ++ [⟨A_5, c_5, b_1⟩], A_6, c_6, 0, f1, rfl, (by rw [putsR_size]; exact hs_4), (by rw [putsR_defers]; exact hd_4), ((pm rfl).trans ta_4_0), ((pm rfl).trans ta_4_1), ((pm rfl).trans ta_4_4), ((pm rfl).trans ta_4_5), (pe hs_4 rfl rfl), (pe hs_4 rfl rfl), ((pm rfl).trans ta_4_9), ((pm rfl).trans ta_4_10), ((pm rfl).trans ta_4_11), ((pm rfl).trans ta_4_12), ((pm rfl).trans ta_4_13), ((pm rfl).trans ta_4_14), ((pm rfl).trans ta_4_15), ((pm rfl).trans ta_4_16), ((pm rfl).trans ta_4_17), ((pm rfl).trans ta_4_18), ((pm rfl).trans ta_4_19), ((pm rfl).trans ta_4_20), ((pm rfl).trans ta_4_21), ((pm rfl).trans ta_4_22), ((pm rfl).trans ta_4_23), ((pm rfl).trans ta_4_24), ((pm rfl).trans ta_4_25), hP9, hRw_1, hAO9, hN9, hA9, HB_12, (by rw [← b7, run_good q3 hz, hx_1, List.map_append]; rfl), (by omega), (by omega), (by omega), i2, (i5 b12), (by rw [List.length_append]; show ps.length + 1 + _ ≤ _; omega), rfl, i4, s1c, s2c, s3c⟩ ?_
    omega
   ·skip
    refine x_region (by kernel_rfl) ?_
    refine q_mv ((pm rfl).trans ta_4_0) ?_
    refine q_ca (vs := #[.pointer (some ⟨gr, 0, none⟩)]) Try.func49 (args1 (pe hs_4 rfl rfl)) (whole_bad _ hP (by omega) q3 q1 q2 b12 hev1 (by omega) hz) (fun e_4 w_14 hR_10 => ?_)
    obtain ⟨rfl, ⟨N_4, A_7, c_7, hP_4, hN_4, hA_5⟩, hX_8⟩ := hR_10
    have hRw2 := hRw.keep2 hPB (by decide) hP.cip hX_8
    have hAO2 := hAO.keep2 hPB (by decide) hP.cip hX_8
    have HB_13 := HB_9.step hX_8 (fun k hk hY => hY.elim .inl (fun h => .inr (.inl h)))
    have s1b := hN_4.sep s1 hAO.lt
    have s2b := hN_4.sep s2 hRw.lt
    have s3b : Sep (blkP ps) (blkA A_7) := fun j hj hm => s3 j hj (hA_5 j hm)
    have hN9 := b4.trans hN_4 HB_9.size
    have hA9 := fun j hj => b5 j (hA_5 j hj)
    obtain ⟨i1, i2, i3, i4, i5, i6⟩ := stepR_inv q3
    have i7 := stepR_lt q3
    dsimp only at i1 i2 i3 i4 i5 i6 i7
    have hPB2 := hP_4.blk
    have hC2 := hP_4.cip
    have hn2 := hP_4.apart
    refine ⟨_, rfl, ?_⟩
    refine q_mv (pe hs_4 rfl rfl) ?_
    refine q_ex (v := .slice none (0) (0)) (pe hs_4 rfl rfl) rfl ?_
    refine q_ex (v := .int .i64 ((x.2.1 : Nat) : Int)) (pe hs_4 rfl rfl) rfl ?_
    refine q_at (pe hs_4 rfl rfl) ?_
    refine q_at (pe hs_4 rfl rfl) ?_
    refine x_nil (hK_33 _ _ ?_)
    refine w2_sr (fun K_35 hK_35 => ?_)
    refine q_mv (pe hs_4 rfl rfl) ?_
    refine q_v 68 (.bool (true)) (o_eq (o_neq (m := x.2.1) (n := 0) rfl (pe hs_4 rfl rfl) rfl) (by simp [hz])) ?_
    refine x_nil (hK_35 _ _ ?_)
    refine w2_condT (pe hs_4 rfl rfl) ?_
    refine w2_exit ?_
    refine thn_exit ?_
    refine exb_out rfl ?_
    refine exb_out rfl ?_
    refine thn_exit ?_
    refine exb_hit ?_
    refine hK_11 _ _ ?_
    refine hK_10 _ _ ?_
    refine w2_seq (fun K_36 hK_36 => ?_)
    refine w2_sr (fun K_37 hK_37 => ?_)
    refine q_mv (pe hs_4 rfl rfl) ?_
    refine q_v 74 (.bool (true)) (o_eq (o_neq (m := x.2.1) (n := 0) rfl (pe hs_4 rfl rfl) rfl) (by simp [hz])) ?_
    refine x_nil (hK_37 _ _ ?_)
    refine w2_condT (pe hs_4 rfl rfl) ?_
    refine x_region (by kernel_rfl) ?_
    refine q_mv ((pm rfl).trans ta_4_0) ?_
    refine q_mv ((pm rfl).trans ta_4_0) ?_
    refine q_nc (pe hs_4 rfl rfl) ?_
    refine q_fa 5 (pe hs_4 rfl rfl) ?_
    refine op_do rfl rfl (o_store1 rfl (pe hs_4 rfl rfl) rfl rfl rfl hPB2 (by simp only [List.length_cons, List.length_nil]; omega) ⟨by kernel_rfl, by kernel_rfl⟩) (fun w_15 hR_11 => ?_)
    obtain ⟨hB_5, hX_9⟩ := hR_11
    replace hC2 := hC2.keepX hX_9 hn2
    replace hRw2 := hRw2.keepX hPB2 (by decide) hX_9
    replace hAO2 := hAO2.keepX hPB2 (by decide) hX_9
    have HB_14 := HB_13.step hX_9 (fun k hk (hY : k = gr) => .inl hY)
    clear hPB2
    simp only [List.set_cons_zero, List.set_cons_succ] at hB_5
    refine q_nc (pe hs_4 rfl rfl) ?_
    refine q_fa 3 (pe hs_4 rfl rfl) ?_
    refine op_do rfl rfl (o_store1 rfl (pe hs_4 rfl rfl) rfl rfl rfl hB_5 (by simp only [List.length_cons, List.length_nil]; omega) ⟨by kernel_rfl, by kernel_rfl⟩) (fun w_16 hR_12 => ?_)
    obtain ⟨hB_6, hX_10⟩ := hR_12
    replace hC2 := hC2.keepX hX_10 hn2
    replace hRw2 := hRw2.keepX hB_5 (by decide) hX_10
    replace hAO2 := hAO2.keepX hB_5 (by decide) hX_10
    have HB_15 := HB_14.step hX_10 (fun k hk (hY : k = gr) => .inl hY)
    clear hB_5
    simp only [List.set_cons_zero, List.set_cons_succ] at hB_6
    refine x_nil (hK_36 _ _ ?_)
    refine w2_sr (fun K_38 hK_38 => ?_)
    refine q_mv ((pm rfl).trans ta_4_6) ?_
    refine q_mv (pe hs_4 rfl rfl) ?_
    refine q_at (pe hs_4 rfl rfl) ?_
    refine q_at (pe hs_4 rfl rfl) ?_
    refine x_nil (hK_38 _ _ ?_)
    refine w2_ret ?_
    refine ng_ret ?_
    refine ret2 rfl hd_4 (pe hs_4 rfl rfl) (pe hs_4 rfl rfl) ?_
    have h9 := b7
    rw [run_bad q3 hz] at h9
    cases h9
    exact ⟨ps, A5, c5, rfl, rfl, hRw2, hAO2, ⟨fun j => N_4 j ∨ j = gr, ⟨fun j hj => hj.elim (hC2.lt j) (fun h => h ▸ hB_6.lt), by show 1 ≤ x.1.co.every; rw [i2]; exact hev1, i5 b12, N_4, none, 0, ⟨hC2, hB_6, Wt.nil _, hn2, fun j hj => absurd hj blkA_none⟩, .inr rfl, fun j hj => .inl hj, fun j hj => absurd hj blkA_none⟩, fun j hj => hj.elim (fun h => (hN9 j h).imp (hMN j) id) (fun h => .inl (h ▸ hMg)), fun j hj hm => hm.elim (s1b j hj) (fun h => by subst h; obtain ⟨p, hp, hk⟩ := hj; exact (hAO2 p hp).sepB hB_6 (by decide) hk), fun j hj hm => hm.elim (s2b j hj) (fun h => by subst h; exact hRw2.sepB hB_6 (by decide) hj)⟩, HB_15.mono (fun k _ hk => hk.elim (fun e => e ▸ hMg) (fun h => h.elim (fun e => e ▸ hMN _ hC0) (fun h => hMA _ h)))⟩
end Go.Proofs.Ytggalcdkfielkaa
