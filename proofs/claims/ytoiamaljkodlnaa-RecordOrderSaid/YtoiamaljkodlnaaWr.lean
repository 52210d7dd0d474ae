/-
  WALKS: record: a counter, a writer.
-/
import Derived.Test.YtoiamaljkodlnaaCiph
namespace Go.Proofs.Ytoiamaljkodlnaa
open Go.RowKit
set_option linter.unusedVariables false
set_option linter.unusedSimpArgs false
set_option maxRecDepth 100000
attribute [local irreducible] wpList wpListIn putsR

theorem Own.keep2 {w w' : World} {B c gw gc n : Nat} {A : Option Addr} {xs : List Nat} {cur : Array Value} {T : TypeId} {N : Nat → Prop} {k : List Nat} (h : Own w B A c xs) (hB : Blk w gw cur T) (hT : T ≠ 5) (hC : CipherAt w N gc k n) (hb : BelowX (fun j => j = gw ∨ j = gc) w w') : Own w' B A c xs := by
  obtain ⟨cu, hc⟩ := hC.blk
  exact h.keepM hb (fun j hj e => e.elim (fun e => h.sepB hB hT (e ▸ hj)) (fun e => h.sepB hc (by decide) (e ▸ hj)))
theorem Wt.keep2 {w w' : World} {c gw gc n : Nat} {A : Option Addr} {xs : List Nat} {cur : Array Value} {T : TypeId} {N : Nat → Prop} {k : List Nat} (h : Wt w A c xs) (hB : Blk w gw cur T) (hT : T ≠ 5) (hC : CipherAt w N gc k n) (hb : BelowX (fun j => j = gw ∨ j = gc) w w') : Wt w' A c xs := by
  obtain ⟨cu, hc⟩ := hC.blk
  exact h.keep (hb.kept h.lt (fun j hj e => e.elim (fun e => h.sepB hB hT (e ▸ hj)) (fun e => h.sepB hc (by decide) (e ▸ hj))))
theorem RowS.keep2 {w w' : World} {B c gw gc n : Nat} {A : Option Addr} {ps : List Part} {cur : Array Value} {T : TypeId} {N : Nat → Prop} {k : List Nat} (h : RowS w B A c ps) (hB : Blk w gw cur T) (hT : T ≠ 22) (hC : CipherAt w N gc k n) (hb : BelowX (fun j => j = gw ∨ j = gc) w w') : RowS w' B A c ps := by
  obtain ⟨cu, hc⟩ := hC.blk
  exact h.keep (hb.kept h.lt (fun j hj e => e.elim (fun e => h.sepB hB hT (e ▸ hj)) (fun e => h.sepB hc (by decide) (e ▸ hj))))
theorem AllOwn.keep2 {w w' : World} {B gw gc n : Nat} {ps : List Part} {cur : Array Value} {T : TypeId} {N : Nat → Prop} {k : List Nat} (h : AllOwn w B ps) (hB : Blk w gw cur T) (hT : T ≠ 5) (hC : CipherAt w N gc k n) (hb : BelowX (fun j => j = gw ∨ j = gc) w w') : AllOwn w' B ps := fun p hp => (h p hp).keep2 hB hT hC hb
def everyN (z : Int) : Nat := (max 1 (min z 4294967296)).toNat
theorem everyN_pos (z : Int) : 1 ≤ everyN z := by unfold everyN; omega
theorem everyN_le (z : Int) : everyN z ≤ 4294967296 := by unfold everyN; omega
/-- A writer lies at gw, its cipher at gc; M: all their blocks. -/
structure WriterAt (w : World) (M : Nat → Prop) (gw gc : Nat) (co : Co) : Prop where
  lt : Lt w M
  every : 1 ≤ co.every ∧ co.every ≤ 4294967296
  row : ∃ N, CipherAt w N gc co.k co.n ∧ Blk w gw #[.pointer (some ⟨gc, 0, none⟩), .int .i64 ((co.every : Nat) : Int), .int .i64 ((co.cnt : Nat) : Int)] 109 ∧ ¬ N gw ∧ M gw ∧ ∀ j, N j → M j
theorem WriterAt.keep {w w' : World} {M : Nat → Prop} {gw gc : Nat} {co : Co} (h : WriterAt w M gw gc co) (hb : KeptM M w w') (hs : w.heap.size ≤ w'.heap.size) : WriterAt w' M gw gc co := by
  obtain ⟨N, hC, hB, hn, hg, hA⟩ := h.row
  exact ⟨h.lt.up hs, h.every, N, hC.keep (fun j hj => hb j (hA j hj)) hs, (hb gw hg).trans hB, hn, hg, hA⟩
theorem WriterAt.nx {w w' : World} {M : Nat → Prop} {gw gc : Nat} {co : Co} (h : WriterAt w M gw gc co) (hb : Below w.heap.size w w') : WriterAt w' M gw gc co := h.keep (kept_of hb h.lt) hb.size
theorem WriterAt.keepM {w w' : World} {M X : Nat → Prop} {gw gc : Nat} {co : Co} (h : WriterAt w M gw gc co) (hb : BelowX X w w') (hs : Sep M X) : WriterAt w' M gw gc co := h.keep (hb.kept h.lt hs) hb.size
theorem WriterAt.cipher {w : World} {M : Nat → Prop} {gw gc : Nat} {co : Co} (h : WriterAt w M gw gc co) : ∃ N, CipherAt w N gc co.k co.n := by obtain ⟨N, hC, _⟩ := h.row; exact ⟨N, hC⟩
theorem newCounter_any {gc : Nat} (z : Int) (w : World) :
    Calls Try.prog 80 #[.pointer (some ⟨gc, 0, none⟩), .int .i64 (z)] w fun e w' => e = .returned (.agg #[.pointer (some ⟨gc, 0, none⟩), .int .i64 ((everyN z : Nat) : Int), .int .i64 ((0 : Nat) : Int)]) ∧ Below w.heap.size w w' := by
  refine x_enter 10 Try.func80 rfl rfl (fun a hs hd ha0 => ?_)
  have t0 : a.eval (.tmp 0) = .pointer (some ⟨gc, 0, none⟩) := ha0 0 _ rfl
  have t1 : a.eval (.tmp 1) = .int .i64 (z) := ha0 1 _ rfl
  clear ha0
  refine w2_seq (fun K_1 hK_1 => ?_)
  refine x_region (by kernel_rfl) ?_
  refine op_ex (d := 4) rfl rfl (o_alloc (zs := #[.pointer none, .int .i64 ((0 : Nat) : Int), .int .i64 ((0 : Nat) : Int)]) rfl (fun _ => by kernel_rfl)) (fun v_1 w_1 hR_1 => ?_)
  obtain ⟨g_1, rfl, hle_1, hB_1, hb_1⟩ := hR_1
  have ge_1 : w.heap.size ≤ g_1 := hle_1
  refine x_nil ?_
  refine hK_1 _ _ ?_
  refine w2_seq (fun K_2 hK_2 => ?_)
  refine x_region (by kernel_rfl) ?_
  refine op_val (d := 5) (v := .pointer (some ⟨gc, 0, none⟩)) rfl rfl (o_move rfl ((pm rfl).trans t0)) ?_
  refine op_val (d := 6) (v := .int .i64 (z)) rfl rfl (o_move rfl ((pm rfl).trans t1)) ?_
  refine op_val (d := 7) (v := .int .i64 (min z 4294967296)) rfl rfl (o_minZ rfl (pe hs rfl rfl) rfl) ?_
  refine op_val (d := 8) (v := .int .i64 ((everyN z : Nat) : Int)) rfl rfl (o_eq (o_max rfl rfl (pe hs rfl rfl)) (by unfold everyN; rw [Int.toNat_of_nonneg (by omega)])) ?_
  refine op_val (d := 9) (v := .agg #[.pointer (some ⟨gc, 0, none⟩), .int .i64 ((everyN z : Nat) : Int), .int .i64 ((0 : Nat) : Int)]) rfl rfl (o_bld (vs := #[(0, .pointer (some ⟨gc, 0, none⟩)), (1, .int .i64 ((everyN z : Nat) : Int))]) (v := .agg #[.pointer (some ⟨gc, 0, none⟩), .int .i64 ((everyN z : Nat) : Int), .int .i64 ((0 : Nat) : Int)]) rfl (bld2 (pe hs rfl rfl) (pe hs rfl rfl)) (fun _ => by kernel_rfl)) ?_
  refine op_do rfl rfl (o_storeL (vs := [.pointer (some ⟨gc, 0, none⟩), .int .i64 ((everyN z : Nat) : Int), .int .i64 ((0 : Nat) : Int)]) rfl (pe hs rfl rfl) (pe hs rfl rfl) hB_1 ⟨by kernel_rfl, by kernel_rfl⟩ rfl (by simp [Value.oneCell'])) (fun w_2 hR_2 => ?_)
  obtain ⟨hB_2, hX_1⟩ := hR_2
  have HB_1 := hX_1.below hb_1 hb_1.size (fun k hk => hk ▸ ge_1)
  clear hB_1
  refine x_nil ?_
  refine hK_2 _ _ ?_
  refine w2_ret ?_
  refine retC rfl hd (pe hs rfl rfl) (loadL (vs := [.pointer (some ⟨gc, 0, none⟩), .int .i64 ((everyN z : Nat) : Int), .int .i64 ((0 : Nat) : Int)]) hB_2 ⟨by kernel_rfl, by kernel_rfl⟩) ?_
  exact ⟨rfl, HB_1⟩
theorem NewWriter_any {M : Nat → Prop} {gc num : Nat} {ks : List Nat} (z : Int) (w : World) (hC : CipherAt w M gc ks num) :
    Calls Try.prog 37 #[.pointer (some ⟨gc, 0, none⟩), .int .i64 (z)] w fun e w' => ∃ (M' : Nat → Prop) (gw : Nat), e = .returned (.pointer (some ⟨gw, 0, none⟩)) ∧ WriterAt w' M' gw gc ⟨ks, num, everyN z, 0⟩ ∧ NextM w M M' ∧ Below w.heap.size w w' := by
  refine x_enter 12 Try.func37 rfl rfl (fun a hs hd ha0 => ?_)
  have t0 : a.eval (.tmp 0) = .pointer (some ⟨gc, 0, none⟩) := ha0 0 _ rfl
  have t1 : a.eval (.tmp 1) = .int .i64 (z) := ha0 1 _ rfl
  clear ha0
  refine w2_seq (fun K_1 hK_1 => ?_)
  refine x_region (by kernel_rfl) ?_
  refine op_val (d := 4) (v := .pointer none) rfl rfl (o_assign rfl rfl) ?_
  refine x_nil ?_
  refine hK_1 _ _ ?_
  refine w2_seq (fun K_2 hK_2 => ?_)
  refine w2_seq (fun K_3 hK_3 => ?_)
  refine x_region (by kernel_rfl) ?_
  refine op_val (d := 5) (v := .pointer (some ⟨gc, 0, none⟩)) rfl rfl (o_move rfl ((pm rfl).trans t0)) ?_
  refine op_val (d := 6) (v := .bool (false)) rfl rfl (o_nil (b := false) rfl (pe hs rfl rfl) rfl rfl ⟨104, fun _ => by kernel_rfl⟩) ?_
  refine x_nil ?_
  refine hK_3 _ _ ?_
  refine w2_condF (pe hs rfl rfl) ?_
  refine w2_skip ?_
  refine hK_2 _ _ ?_
  refine w2_seq (fun K_4 hK_4 => ?_)
  refine x_region (by kernel_rfl) ?_
  refine op_val (d := 7) (v := .pointer (some ⟨gc, 0, none⟩)) rfl rfl (o_move rfl ((pm rfl).trans t0)) ?_
  refine op_val (d := 8) (v := .int .i64 (z)) rfl rfl (o_move rfl ((pm rfl).trans t1)) ?_
  refine op_call (vs := #[.pointer (some ⟨gc, 0, none⟩), .int .i64 (z)]) rfl rfl (exec_call Try.func80 (by kernel_rfl) (by kernel_rfl) _ rfl _ _ (args2 (pe hs rfl rfl) (pe hs rfl rfl))) (newCounter_any _ _) (fun e_1 w_1 hR_1 => ?_)
  obtain ⟨rfl, hb_2⟩ := hR_1
  refine ⟨_, rfl, ?_⟩
  refine op_val (d := 10) (v := .agg #[.pointer (some ⟨gc, 0, none⟩), .int .i64 ((everyN z : Nat) : Int), .int .i64 ((0 : Nat) : Int)]) rfl rfl (o_bld (vs := #[(0, .agg #[.pointer (some ⟨gc, 0, none⟩), .int .i64 ((everyN z : Nat) : Int), .int .i64 ((0 : Nat) : Int)])]) (v := .agg #[.pointer (some ⟨gc, 0, none⟩), .int .i64 ((everyN z : Nat) : Int), .int .i64 ((0 : Nat) : Int)]) rfl (bld1 (pe hs rfl rfl)) (fun _ => by kernel_rfl)) ?_
  refine op_ex (d := 11) rfl rfl (o_boxL (cs := #[.pointer (some ⟨gc, 0, none⟩), .int .i64 ((everyN z : Nat) : Int), .int .i64 ((0 : Nat) : Int)]) rfl (pe hs rfl rfl)) (fun v_1 w_2 hR_2 => ?_)
  obtain ⟨g_1, rfl, hle_1, hB_1, hb_3⟩ := hR_2
  have ge_1 : w.heap.size ≤ g_1 := Nat.le_trans hb_2.size hle_1
  have HB_1 := below_from hb_2 hb_3
  refine op_val (d := 4) (v := .pointer (some ⟨g_1, 0, none⟩)) rfl rfl (o_assign rfl (pe hs rfl rfl)) ?_
  refine x_nil ?_
  refine hK_4 _ _ ?_
  refine w2_ret ?_
  refine ret1 rfl hd (pe hs rfl rfl) ?_
  exact ⟨MX w M w_2, g_1, rfl, ⟨hC.lt.mx HB_1.size, ⟨everyN_pos z, everyN_le z⟩, M, hC.nx HB_1, hB_1, fun h => absurd (hC.lt _ h) (by have := ge_1; omega), .inr ⟨ge_1, hB_1.lt⟩, fun j hj => .inl hj⟩, fun j hj => hj.imp id (fun h => h.1), HB_1⟩
theorem NewWriter_nil (z : Int) (w : World) :
    Calls Try.prog 37 #[.pointer none, .int .i64 (z)] w fun e w' => e = .returned (.pointer none) ∧ w = w' := by
  refine x_enter 12 Try.func37 rfl rfl (fun a hs hd ha0 => ?_)
  have t0 : a.eval (.tmp 0) = .pointer none := ha0 0 _ rfl
  have t1 : a.eval (.tmp 1) = .int .i64 (z) := ha0 1 _ rfl
  clear ha0
  refine w2_seq (fun K_1 hK_1 => ?_)
  refine x_region (by kernel_rfl) ?_
  refine op_val (d := 4) (v := .pointer none) rfl rfl (o_assign rfl rfl) ?_
  refine x_nil ?_
  refine hK_1 _ _ ?_
  refine w2_seq (fun K_2 hK_2 => ?_)
  refine w2_seq (fun K_3 hK_3 => ?_)
  refine x_region (by kernel_rfl) ?_
  refine op_val (d := 5) (v := .pointer none) rfl rfl (o_move rfl ((pm rfl).trans t0)) ?_
  refine op_val (d := 6) (v := .bool (true)) rfl rfl (o_nil (b := true) rfl (pe hs rfl rfl) rfl rfl ⟨104, fun _ => by kernel_rfl⟩) ?_
  refine x_nil ?_
  refine hK_3 _ _ ?_
  refine w2_condT (pe hs rfl rfl) ?_
  refine w2_seq (fun K_4 hK_4 => ?_)
  refine x_region (by kernel_rfl) ?_
  refine op_val (d := 4) (v := .pointer none) rfl rfl (o_assign rfl rfl) ?_
  refine x_nil ?_
  refine hK_4 _ _ ?_
  refine w2_ret ?_
  refine thn_ret ?_
  refine ret1 rfl hd (pe hs rfl rfl) ?_
  exact ⟨rfl, rfl⟩
theorem count_w {N : Nat → Prop} {gw gc ev cnt num : Nat} {ks : List Nat} (w : World) (hB : Blk w gw #[.pointer (some ⟨gc, 0, none⟩), .int .i64 ((ev : Nat) : Int), .int .i64 ((cnt : Nat) : Int)] 109) (hC : CipherAt w N gc ks num) (hn : ¬ N gw) (he : 1 ≤ ev) (hc : cnt < 4611686018427387904) :
    Calls Try.prog 82 #[.pointer (some ⟨gw, 0, none⟩)] w fun e w' => e = .returned (.tuple #[]) ∧ (∃ N', CipherAt w' N' gc (if (cnt + 1) % ev = 0 then rekeyL ks else ks) num ∧ NextM w N N') ∧ Blk w' gw #[.pointer (some ⟨gc, 0, none⟩), .int .i64 ((ev : Nat) : Int), .int .i64 ((cnt + 1 : Nat) : Int)] 109 ∧ BelowX (fun j => j = gw ∨ j = gc) w w' := by
  have hmod := Nat.mod_le (cnt + 1) ev
  refine x_enter 24 Try.func82 rfl rfl (fun a hs hd ha0 => ?_)
  have t0 : a.eval (.tmp 0) = .pointer (some ⟨gw, 0, none⟩) := ha0 0 _ rfl
  clear ha0
  have HB0 : BelowX (fun j => j = gw ∨ j = gc) w w := BelowX.refl _ _
  refine w2_seq (fun K_1 hK_1 => ?_)
  refine x_region (by kernel_rfl) ?_
  refine op_val (d := 2) (v := .pointer (some ⟨gw, 0, none⟩)) rfl rfl (o_move rfl ((pm rfl).trans t0)) ?_
  refine op_val (d := 3) (v := .pointer (some ⟨gw, 0, none⟩)) rfl rfl (o_nilCheck rfl (pe hs rfl rfl)) ?_
  refine op_val (d := 4) (v := .pointer (some ⟨gw, 2, none⟩)) rfl rfl (o_field (k' := 2) rfl (pe hs rfl rfl) (fun _ => by kernel_rfl)) ?_
  refine op_val (d := 5) (v := .int .i64 ((cnt : Nat) : Int)) rfl rfl (o_load1 rfl (pe hs rfl rfl) hB rfl ⟨by kernel_rfl, by kernel_rfl⟩) ?_
  refine op_val (d := 6) (v := .int .i64 ((cnt + 1 : Nat) : Int)) rfl rfl (o_add64 (m := cnt) (n := 1) rfl (pe hs rfl rfl) rfl (by omega)) ?_
  refine op_val (d := 7) (v := .pointer (some ⟨gw, 0, none⟩)) rfl rfl (o_nilCheck rfl (pe hs rfl rfl)) ?_
  refine op_val (d := 8) (v := .pointer (some ⟨gw, 2, none⟩)) rfl rfl (o_field (k' := 2) rfl (pe hs rfl rfl) (fun _ => by kernel_rfl)) ?_
  refine op_do rfl rfl (o_store1 rfl (pe hs rfl rfl) (pe hs rfl rfl) rfl rfl hB (by simp only [List.length_cons, List.length_nil]; omega) ⟨by kernel_rfl, by kernel_rfl⟩) (fun w_1 hR_1 => ?_)
  obtain ⟨hB_1, hX_1⟩ := hR_1
  replace hC := hC.keepX hX_1 hn
  have HB_1 := HB0.step hX_1 (fun k hk (hY : k = gw) => .inl hY)
  clear hB
  simp only [List.set_cons_zero, List.set_cons_succ] at hB_1
  refine x_nil ?_
  refine hK_1 _ _ ?_
  refine w2_seq (fun K_2 hK_2 => ?_)
  refine x_drawn 8 [fun _ v => v = .pointer (some ⟨gw, 0, none⟩), fun _ v => v = .pointer (some ⟨gw, 0, none⟩), fun _ v => v = .pointer (some ⟨gw, 2, none⟩), fun _ v => v = .int .i64 ((cnt + 1 : Nat) : Int), fun _ v => v = .pointer (some ⟨gw, 0, none⟩), fun _ v => v = .pointer (some ⟨gw, 0, none⟩), fun _ v => v = .pointer (some ⟨gw, 1, none⟩), fun _ v => v = .int .i64 ((ev : Nat) : Int)] [9, 10, 11, 12, 13, 14, 15, 16] hs hd (by kernel_rfl) (by kernel_rfl) (by kernel_rfl) (by kernel_rfl) (by kernel_rfl) ⟨stLit, stLit, stLit, stLit, stLit, stLit, stLit, stLit, trivial⟩ ⟨(step_ok rfl (fun a' w' hb' hO hD => by
      have d_1 : a'.eval (.tmp 0) = .pointer (some ⟨gw, 0, none⟩) := (hO 0 (by decide)).trans ((pm rfl).trans t0)
      exact .inl ⟨_, _, (o_move rfl d_1), rfl, Below.refl _ _⟩)),
(step_ok rfl (fun a' w' hb' hO hD => by
      have d_2 : a'.eval (.tmp 9) = .pointer (some ⟨gw, 0, none⟩) := hD 0 9 (by kernel_rfl) rfl
      exact .inl ⟨_, _, (o_nilCheck rfl d_2), rfl, Below.refl _ _⟩)),
(step_ok rfl (fun a' w' hb' hO hD => by
      have d_3 : a'.eval (.tmp 10) = .pointer (some ⟨gw, 0, none⟩) := hD 1 10 (by kernel_rfl) rfl
      exact .inl ⟨_, _, (o_field (k' := 2) rfl d_3 (fun _ => by kernel_rfl)), rfl, Below.refl _ _⟩)),
(step_ok rfl (fun a' w' hb' hO hD => by
      have d_4 : a'.eval (.tmp 11) = .pointer (some ⟨gw, 2, none⟩) := hD 2 11 (by kernel_rfl) rfl
      exact .inl ⟨_, _, (o_load1 rfl d_4 (hB_1.nx hb') rfl ⟨by kernel_rfl, by kernel_rfl⟩), rfl, Below.refl _ _⟩)),
(step_ok rfl (fun a' w' hb' hO hD => by
      have d_5 : a'.eval (.tmp 0) = .pointer (some ⟨gw, 0, none⟩) := (hO 0 (by decide)).trans ((pm rfl).trans t0)
      exact .inl ⟨_, _, (o_move rfl d_5), rfl, Below.refl _ _⟩)),
(step_ok rfl (fun a' w' hb' hO hD => by
      have d_6 : a'.eval (.tmp 13) = .pointer (some ⟨gw, 0, none⟩) := hD 4 13 (by kernel_rfl) rfl
      exact .inl ⟨_, _, (o_nilCheck rfl d_6), rfl, Below.refl _ _⟩)),
(step_ok rfl (fun a' w' hb' hO hD => by
      have d_7 : a'.eval (.tmp 14) = .pointer (some ⟨gw, 0, none⟩) := hD 5 14 (by kernel_rfl) rfl
      exact .inl ⟨_, _, (o_field (k' := 1) rfl d_7 (fun _ => by kernel_rfl)), rfl, Below.refl _ _⟩)),
(step_ok rfl (fun a' w' hb' hO hD => by
      have d_8 : a'.eval (.tmp 15) = .pointer (some ⟨gw, 1, none⟩) := hD 6 15 (by kernel_rfl) rfl
      exact .inl ⟨_, _, (o_load1 rfl d_8 (hB_1.nx hb') rfl ⟨by kernel_rfl, by kernel_rfl⟩), rfl, Below.refl _ _⟩)), trivial⟩ (fun a_1 w_2 hs_1 hd_1 hb_1 hO_1 hV_1 => ?_)
  have ta_1_0 : a_1.eval (.tmp 0) = .pointer (some ⟨gw, 0, none⟩) := (hO_1 0 (by decide)).trans ((pm rfl).trans t0)
  have ta_1_2 : a_1.eval (.tmp 2) = .pointer (some ⟨gw, 0, none⟩) := (hO_1 2 (by decide)).trans (pe hs rfl rfl)
  have ta_1_3 : a_1.eval (.tmp 3) = .pointer (some ⟨gw, 0, none⟩) := (hO_1 3 (by decide)).trans (pe hs rfl rfl)
  have ta_1_4 : a_1.eval (.tmp 4) = .pointer (some ⟨gw, 2, none⟩) := (hO_1 4 (by decide)).trans (pe hs rfl rfl)
  have ta_1_5 : a_1.eval (.tmp 5) = .int .i64 ((cnt : Nat) : Int) := (hO_1 5 (by decide)).trans (pe hs rfl rfl)
  have ta_1_6 : a_1.eval (.tmp 6) = .int .i64 ((cnt + 1 : Nat) : Int) := (hO_1 6 (by decide)).trans (pe hs rfl rfl)
  have ta_1_7 : a_1.eval (.tmp 7) = .pointer (some ⟨gw, 0, none⟩) := (hO_1 7 (by decide)).trans (pe hs rfl rfl)
  have ta_1_8 : a_1.eval (.tmp 8) = .pointer (some ⟨gw, 2, none⟩) := (hO_1 8 (by decide)).trans (pe hs rfl rfl)
  clear t0 hd
  replace hC := hC.nx hb_1
  replace hB_1 := hB_1.nx hb_1
  have HB_2 := HB_1.then hb_1
  have ta_1_9 : a_1.eval (.tmp 9) = .pointer (some ⟨gw, 0, none⟩) := hV_1 0 9 rfl rfl
  have ta_1_10 : a_1.eval (.tmp 10) = .pointer (some ⟨gw, 0, none⟩) := hV_1 1 10 rfl rfl
  have ta_1_11 : a_1.eval (.tmp 11) = .pointer (some ⟨gw, 2, none⟩) := hV_1 2 11 rfl rfl
  have ta_1_12 : a_1.eval (.tmp 12) = .int .i64 ((cnt + 1 : Nat) : Int) := hV_1 3 12 rfl rfl
  have ta_1_13 : a_1.eval (.tmp 13) = .pointer (some ⟨gw, 0, none⟩) := hV_1 4 13 rfl rfl
  have ta_1_14 : a_1.eval (.tmp 14) = .pointer (some ⟨gw, 0, none⟩) := hV_1 5 14 rfl rfl
  have ta_1_15 : a_1.eval (.tmp 15) = .pointer (some ⟨gw, 1, none⟩) := hV_1 6 15 rfl rfl
  have ta_1_16 : a_1.eval (.tmp 16) = .int .i64 ((ev : Nat) : Int) := hV_1 7 16 rfl rfl
  clear hV_1 hO_1
  simp only [List.drop_succ_cons, List.drop_zero]
  refine op_val (d := 17) (v := .int .i64 (((cnt + 1) % ev : Nat) : Int)) rfl rfl (o_rem (m := (cnt + 1)) (n := ev) rfl ((pm rfl).trans ta_1_12) ((pm rfl).trans ta_1_16) (by omega) (IntWalk.i64_in _ (by omega))) ?_
  refine op_val (d := 18) (v := .bool (decide (((cnt + 1) % ev) = 0))) rfl rfl (o_eql (m := ((cnt + 1) % ev)) (n := 0) rfl (pe hs_1 rfl rfl) rfl) ?_
  refine x_nil ?_
  refine hK_2 _ _ ?_
  refine w2_split (pe hs_1 rfl rfl) (fun h_1 => ?_) (fun h_1 => ?_)
  · simp only [decide_eq_true_eq, decide_eq_false_iff_not, Bool.not_eq_true', Bool.not_eq_false', Bool.not_true, Bool.not_false, Nat.not_lt, Nat.not_le] at h_1
    have hz := h_1
    refine x_region (by kernel_rfl) ?_
    refine op_val (d := 19) (v := .pointer (some ⟨gw, 0, none⟩)) rfl rfl (o_move rfl ((pm rfl).trans ta_1_0)) ?_
    refine op_val (d := 20) (v := .pointer (some ⟨gw, 0, none⟩)) rfl rfl (o_nilCheck rfl (pe hs_1 rfl rfl)) ?_
    refine op_val (d := 21) (v := .pointer (some ⟨gw, 0, none⟩)) rfl rfl (o_field (k' := 0) rfl (pe hs_1 rfl rfl) (fun _ => by kernel_rfl)) ?_
    refine op_val (d := 22) (v := .pointer (some ⟨gc, 0, none⟩)) rfl rfl (o_load1 rfl (pe hs_1 rfl rfl) hB_1 rfl ⟨by kernel_rfl, by kernel_rfl⟩) ?_
    refine op_call (vs := #[.pointer (some ⟨gc, 0, none⟩)]) rfl rfl (exec_call Try.func53 (by kernel_rfl) (by kernel_rfl) _ rfl _ _ (args1 (pe hs_1 rfl rfl))) (CRekey_any _ hC) (fun e_1 w_3 hR_2 => ?_)
    obtain ⟨rfl, ⟨N_1, hC_1, hNx_1⟩, hX_2⟩ := hR_2
    have hn_1 := hNx_1.not hn hB_1.lt
    replace hB_1 := hX_2.blk hB_1 (fun e => hn (by rw [e]; exact hC.mem))
    have nx_1 := (NextM.refl w N).trans hNx_1 HB_2.size
    have HB_3 := HB_2.step hX_2 (fun k hk (hY : k = gc) => .inr hY)
    refine ⟨_, rfl, ?_⟩
    refine x_nil ?_
    refine end0 rfl hd_1 ?_
    exact ⟨rfl, ⟨N_1, by rw [if_pos hz]; exact hC_1, nx_1⟩, hB_1, HB_3⟩
  · simp only [decide_eq_true_eq, decide_eq_false_iff_not, Bool.not_eq_true', Bool.not_eq_false', Bool.not_true, Bool.not_false, Nat.not_lt, Nat.not_le] at h_1
    have hz := h_1
    refine w2_skip ?_
    refine end0 rfl hd_1 ?_
    exact ⟨rfl, ⟨N, by rw [if_neg hz]; exact hC, (NextM.refl w N)⟩, hB_1, HB_2⟩
theorem count_r {N : Nat → Prop} {gw gc ev cnt num : Nat} {ks : List Nat} {A9 : Option Addr} {n9 c9 body : Nat} {dead : Bool} (w : World) (hB : Blk w gw #[.pointer (some ⟨gc, 0, none⟩), .int .i64 ((ev : Nat) : Int), .int .i64 ((cnt : Nat) : Int), .slice A9 (n9) (c9), .int .i64 ((body : Nat) : Int), .bool (dead)] 112) (hC : CipherAt w N gc ks num) (hn : ¬ N gw) (he : 1 ≤ ev) (hc : cnt < 4611686018427387904) :
    Calls Try.prog 82 #[.pointer (some ⟨gw, 0, none⟩)] w fun e w' => e = .returned (.tuple #[]) ∧ (∃ N', CipherAt w' N' gc (if (cnt + 1) % ev = 0 then rekeyL ks else ks) num ∧ NextM w N N') ∧ Blk w' gw #[.pointer (some ⟨gc, 0, none⟩), .int .i64 ((ev : Nat) : Int), .int .i64 ((cnt + 1 : Nat) : Int), .slice A9 (n9) (c9), .int .i64 ((body : Nat) : Int), .bool (dead)] 112 ∧ BelowX (fun j => j = gw ∨ j = gc) w w' := by
  have hmod := Nat.mod_le (cnt + 1) ev
  refine x_enter 24 Try.func82 rfl rfl (fun a hs hd ha0 => ?_)
  have t0 : a.eval (.tmp 0) = .pointer (some ⟨gw, 0, none⟩) := ha0 0 _ rfl
  clear ha0
  have HB0 : BelowX (fun j => j = gw ∨ j = gc) w w := BelowX.refl _ _
  refine w2_seq (fun K_1 hK_1 => ?_)
  refine x_region (by kernel_rfl) ?_
  refine op_val (d := 2) (v := .pointer (some ⟨gw, 0, none⟩)) rfl rfl (o_move rfl ((pm rfl).trans t0)) ?_
  refine op_val (d := 3) (v := .pointer (some ⟨gw, 0, none⟩)) rfl rfl (o_nilCheck rfl (pe hs rfl rfl)) ?_
  refine op_val (d := 4) (v := .pointer (some ⟨gw, 2, none⟩)) rfl rfl (o_field (k' := 2) rfl (pe hs rfl rfl) (fun _ => by kernel_rfl)) ?_
  refine op_val (d := 5) (v := .int .i64 ((cnt : Nat) : Int)) rfl rfl (o_load1 rfl (pe hs rfl rfl) hB rfl ⟨by kernel_rfl, by kernel_rfl⟩) ?_
  refine op_val (d := 6) (v := .int .i64 ((cnt + 1 : Nat) : Int)) rfl rfl (o_add64 (m := cnt) (n := 1) rfl (pe hs rfl rfl) rfl (by omega)) ?_
  refine op_val (d := 7) (v := .pointer (some ⟨gw, 0, none⟩)) rfl rfl (o_nilCheck rfl (pe hs rfl rfl)) ?_
  refine op_val (d := 8) (v := .pointer (some ⟨gw, 2, none⟩)) rfl rfl (o_field (k' := 2) rfl (pe hs rfl rfl) (fun _ => by kernel_rfl)) ?_
  refine op_do rfl rfl (o_store1 rfl (pe hs rfl rfl) (pe hs rfl rfl) rfl rfl hB (by simp only [List.length_cons, List.length_nil]; omega) ⟨by kernel_rfl, by kernel_rfl⟩) (fun w_1 hR_1 => ?_)
  obtain ⟨hB_1, hX_1⟩ := hR_1
  replace hC := hC.keepX hX_1 hn
  have HB_1 := HB0.step hX_1 (fun k hk (hY : k = gw) => .inl hY)
  clear hB
  simp only [List.set_cons_zero, List.set_cons_succ] at hB_1
  refine x_nil ?_
  refine hK_1 _ _ ?_
  refine w2_seq (fun K_2 hK_2 => ?_)
  refine x_drawn 8 [fun _ v => v = .pointer (some ⟨gw, 0, none⟩), fun _ v => v = .pointer (some ⟨gw, 0, none⟩), fun _ v => v = .pointer (some ⟨gw, 2, none⟩), fun _ v => v = .int .i64 ((cnt + 1 : Nat) : Int), fun _ v => v = .pointer (some ⟨gw, 0, none⟩), fun _ v => v = .pointer (some ⟨gw, 0, none⟩), fun _ v => v = .pointer (some ⟨gw, 1, none⟩), fun _ v => v = .int .i64 ((ev : Nat) : Int)] [9, 10, 11, 12, 13, 14, 15, 16] hs hd (by kernel_rfl) (by kernel_rfl) (by kernel_rfl) (by kernel_rfl) (by kernel_rfl) ⟨stLit, stLit, stLit, stLit, stLit, stLit, stLit, stLit, trivial⟩ ⟨(step_ok rfl (fun a' w' hb' hO hD => by
      have d_1 : a'.eval (.tmp 0) = .pointer (some ⟨gw, 0, none⟩) := (hO 0 (by decide)).trans ((pm rfl).trans t0)
      exact .inl ⟨_, _, (o_move rfl d_1), rfl, Below.refl _ _⟩)),
(step_ok rfl (fun a' w' hb' hO hD => by
      have d_2 : a'.eval (.tmp 9) = .pointer (some ⟨gw, 0, none⟩) := hD 0 9 (by kernel_rfl) rfl
      exact .inl ⟨_, _, (o_nilCheck rfl d_2), rfl, Below.refl _ _⟩)),
(step_ok rfl (fun a' w' hb' hO hD => by
      have d_3 : a'.eval (.tmp 10) = .pointer (some ⟨gw, 0, none⟩) := hD 1 10 (by kernel_rfl) rfl
      exact .inl ⟨_, _, (o_field (k' := 2) rfl d_3 (fun _ => by kernel_rfl)), rfl, Below.refl _ _⟩)),
(step_ok rfl (fun a' w' hb' hO hD => by
      have d_4 : a'.eval (.tmp 11) = .pointer (some ⟨gw, 2, none⟩) := hD 2 11 (by kernel_rfl) rfl
      exact .inl ⟨_, _, (o_load1 rfl d_4 (hB_1.nx hb') rfl ⟨by kernel_rfl, by kernel_rfl⟩), rfl, Below.refl _ _⟩)),
(step_ok rfl (fun a' w' hb' hO hD => by
      have d_5 : a'.eval (.tmp 0) = .pointer (some ⟨gw, 0, none⟩) := (hO 0 (by decide)).trans ((pm rfl).trans t0)
      exact .inl ⟨_, _, (o_move rfl d_5), rfl, Below.refl _ _⟩)),
(step_ok rfl (fun a' w' hb' hO hD => by
      have d_6 : a'.eval (.tmp 13) = .pointer (some ⟨gw, 0, none⟩) := hD 4 13 (by kernel_rfl) rfl
      exact .inl ⟨_, _, (o_nilCheck rfl d_6), rfl, Below.refl _ _⟩)),
(step_ok rfl (fun a' w' hb' hO hD => by
      have d_7 : a'.eval (.tmp 14) = .pointer (some ⟨gw, 0, none⟩) := hD 5 14 (by kernel_rfl) rfl
      exact .inl ⟨_, _, (o_field (k' := 1) rfl d_7 (fun _ => by kernel_rfl)), rfl, Below.refl _ _⟩)),
(step_ok rfl (fun a' w' hb' hO hD => by
      have d_8 : a'.eval (.tmp 15) = .pointer (some ⟨gw, 1, none⟩) := hD 6 15 (by kernel_rfl) rfl
      exact .inl ⟨_, _, (o_load1 rfl d_8 (hB_1.nx hb') rfl ⟨by kernel_rfl, by kernel_rfl⟩), rfl, Below.refl _ _⟩)), trivial⟩ (fun a_1 w_2 hs_1 hd_1 hb_1 hO_1 hV_1 => ?_)
  have ta_1_0 : a_1.eval (.tmp 0) = .pointer (some ⟨gw, 0, none⟩) := (hO_1 0 (by decide)).trans ((pm rfl).trans t0)
  have ta_1_2 : a_1.eval (.tmp 2) = .pointer (some ⟨gw, 0, none⟩) := (hO_1 2 (by decide)).trans (pe hs rfl rfl)
  have ta_1_3 : a_1.eval (.tmp 3) = .pointer (some ⟨gw, 0, none⟩) := (hO_1 3 (by decide)).trans (pe hs rfl rfl)
  have ta_1_4 : a_1.eval (.tmp 4) = .pointer (some ⟨gw, 2, none⟩) := (hO_1 4 (by decide)).trans (pe hs rfl rfl)
  have ta_1_5 : a_1.eval (.tmp 5) = .int .i64 ((cnt : Nat) : Int) := (hO_1 5 (by decide)).trans (pe hs rfl rfl)
  have ta_1_6 : a_1.eval (.tmp 6) = .int .i64 ((cnt + 1 : Nat) : Int) := (hO_1 6 (by decide)).trans (pe hs rfl rfl)
  have ta_1_7 : a_1.eval (.tmp 7) = .pointer (some ⟨gw, 0, none⟩) := (hO_1 7 (by decide)).trans (pe hs rfl rfl)
  have ta_1_8 : a_1.eval (.tmp 8) = .pointer (some ⟨gw, 2, none⟩) := (hO_1 8 (by decide)).trans (pe hs rfl rfl)
  clear t0 hd
  replace hC := hC.nx hb_1
  replace hB_1 := hB_1.nx hb_1
  have HB_2 := HB_1.then hb_1
  have ta_1_9 : a_1.eval (.tmp 9) = .pointer (some ⟨gw, 0, none⟩) := hV_1 0 9 rfl rfl
  have ta_1_10 : a_1.eval (.tmp 10) = .pointer (some ⟨gw, 0, none⟩) := hV_1 1 10 rfl rfl
  have ta_1_11 : a_1.eval (.tmp 11) = .pointer (some ⟨gw, 2, none⟩) := hV_1 2 11 rfl rfl
  have ta_1_12 : a_1.eval (.tmp 12) = .int .i64 ((cnt + 1 : Nat) : Int) := hV_1 3 12 rfl rfl
  have ta_1_13 : a_1.eval (.tmp 13) = .pointer (some ⟨gw, 0, none⟩) := hV_1 4 13 rfl rfl
  have ta_1_14 : a_1.eval (.tmp 14) = .pointer (some ⟨gw, 0, none⟩) := hV_1 5 14 rfl rfl
  have ta_1_15 : a_1.eval (.tmp 15) = .pointer (some ⟨gw, 1, none⟩) := hV_1 6 15 rfl rfl
  have ta_1_16 : a_1.eval (.tmp 16) = .int .i64 ((ev : Nat) : Int) := hV_1 7 16 rfl rfl
  clear hV_1 hO_1
  simp only [List.drop_succ_cons, List.drop_zero]
  refine op_val (d := 17) (v := .int .i64 (((cnt + 1) % ev : Nat) : Int)) rfl rfl (o_rem (m := (cnt + 1)) (n := ev) rfl ((pm rfl).trans ta_1_12) ((pm rfl).trans ta_1_16) (by omega) (IntWalk.i64_in _ (by omega))) ?_
  refine op_val (d := 18) (v := .bool (decide (((cnt + 1) % ev) = 0))) rfl rfl (o_eql (m := ((cnt + 1) % ev)) (n := 0) rfl (pe hs_1 rfl rfl) rfl) ?_
  refine x_nil ?_
  refine hK_2 _ _ ?_
  refine w2_split (pe hs_1 rfl rfl) (fun h_1 => ?_) (fun h_1 => ?_)
  · simp only [decide_eq_true_eq, decide_eq_false_iff_not, Bool.not_eq_true', Bool.not_eq_false', Bool.not_true, Bool.not_false, Nat.not_lt, Nat.not_le] at h_1
    have hz := h_1
    refine x_region (by kernel_rfl) ?_
    refine op_val (d := 19) (v := .pointer (some ⟨gw, 0, none⟩)) rfl rfl (o_move rfl ((pm rfl).trans ta_1_0)) ?_
    refine op_val (d := 20) (v := .pointer (some ⟨gw, 0, none⟩)) rfl rfl (o_nilCheck rfl (pe hs_1 rfl rfl)) ?_
    refine op_val (d := 21) (v := .pointer (some ⟨gw, 0, none⟩)) rfl rfl (o_field (k' := 0) rfl (pe hs_1 rfl rfl) (fun _ => by kernel_rfl)) ?_
    refine op_val (d := 22) (v := .pointer (some ⟨gc, 0, none⟩)) rfl rfl (o_load1 rfl (pe hs_1 rfl rfl) hB_1 rfl ⟨by kernel_rfl, by kernel_rfl⟩) ?_
    refine op_call (vs := #[.pointer (some ⟨gc, 0, none⟩)]) rfl rfl (exec_call Try.func53 (by kernel_rfl) (by kernel_rfl) _ rfl _ _ (args1 (pe hs_1 rfl rfl))) (CRekey_any _ hC) (fun e_1 w_3 hR_2 => ?_)
    obtain ⟨rfl, ⟨N_1, hC_1, hNx_1⟩, hX_2⟩ := hR_2
    have hn_1 := hNx_1.not hn hB_1.lt
    replace hB_1 := hX_2.blk hB_1 (fun e => hn (by rw [e]; exact hC.mem))
    have nx_1 := (NextM.refl w N).trans hNx_1 HB_2.size
    have HB_3 := HB_2.step hX_2 (fun k hk (hY : k = gc) => .inr hY)
    refine ⟨_, rfl, ?_⟩
    refine x_nil ?_
    refine end0 rfl hd_1 ?_
    exact ⟨rfl, ⟨N_1, by rw [if_pos hz]; exact hC_1, nx_1⟩, hB_1, HB_3⟩
  · simp only [decide_eq_true_eq, decide_eq_false_iff_not, Bool.not_eq_true', Bool.not_eq_false', Bool.not_true, Bool.not_false, Nat.not_lt, Nat.not_le] at h_1
    have hz := h_1
    refine w2_skip ?_
    refine end0 rfl hd_1 ?_
    exact ⟨rfl, ⟨N, by rw [if_neg hz]; exact hC, (NextM.refl w N)⟩, hB_1, HB_2⟩
theorem Put_any {M : Nat → Prop} {gw gc : Nat} {co : Co} {A0 : Option Addr} {c0 q : Nat} {bs : List Nat} (w : World) (hW : WriterAt w M gw gc co) (h0 : Bs w A0 c0 bs) (hq : bs.length = q) (hl : q ≤ 4096) (hnum : co.n < 9223372036854775807) (hc : co.cnt < 4611686018427387904) :
    Calls Try.prog 38 #[.pointer (some ⟨gw, 0, none⟩), .slice A0 (q) (c0)] w fun e w' => ∃ A c, e = .returned (.tuple #[.slice A (sizeN q + 34) c, .int .i64 0]) ∧ Own w' w.heap.size A c (recL co bs) ∧ (∃ M', WriterAt w' M' gw gc co.put ∧ NextM w M M' ∧ Sep (blkA A) M') ∧ BelowX M w w' := by
  obtain ⟨hlt, hev, N, hC, hB, hn, hMg, hMA⟩ := hW
  have hC0 := hC.mem
  have hs2 := sizeN_top q
  refine x_enter 61 Try.func38 rfl rfl (fun a hs hd ha0 => ?_)
  have t0 : a.eval (.tmp 0) = .pointer (some ⟨gw, 0, none⟩) := ha0 0 _ rfl
  have t1 : a.eval (.tmp 1) = .slice A0 (q) (c0) := ha0 1 _ rfl
  clear ha0
  have HB0 : BelowX (fun j => j = gw ∨ j = gc) w w := BelowX.refl _ _
  refine w2_seq (fun K_1 hK_1 => ?_)
  refine x_region (by kernel_rfl) ?_
  refine op_val (d := 4) (v := .slice none (0) (0)) rfl rfl (o_assign rfl rfl) ?_
  refine op_val (d := 5) (v := .int .i64 ((0 : Nat) : Int)) rfl rfl (o_assign rfl rfl) ?_
  refine x_nil ?_
  refine hK_1 _ _ ?_
  refine w2_seq (fun K_2 hK_2 => ?_)
  refine w2_seq (fun K_3 hK_3 => ?_)
  refine x_region (by kernel_rfl) ?_
  refine op_val (d := 10) (v := .pointer (some ⟨gw, 0, none⟩)) rfl rfl (o_move rfl ((pm rfl).trans t0)) ?_
  refine op_val (d := 11) (v := .bool (false)) rfl rfl (o_nil (b := false) rfl (pe hs rfl rfl) rfl rfl ⟨109, fun _ => by kernel_rfl⟩) ?_
  refine x_nil ?_
  refine hK_3 _ _ ?_
  refine w2_condF (pe hs rfl rfl) ?_
  refine w2_skip ?_
  refine hK_2 _ _ ?_
  refine w2_seq (fun K_4 hK_4 => ?_)
  refine x_region (by kernel_rfl) ?_
  refine op_val (d := 13) (v := .slice A0 (q) (c0)) rfl rfl (o_move rfl ((pm rfl).trans t1)) ?_
  refine op_call (vs := #[.slice A0 (q) (c0)]) rfl rfl (exec_call Try.func81 (by kernel_rfl) (by kernel_rfl) _ rfl _ _ (args1 (pe hs rfl rfl))) (Wrap_any _ h0 hq hl) (fun e_1 w_1 hR_1 => ?_)
  obtain ⟨A_1, c_1, rfl, ho_1, hb_1⟩ := hR_1
  have gz_1 := ho_1.ge'
  have sp_1 : Sep (blkA A_1) N := (Sep.new hC.lt gz_1).symm
  replace ho_1 := ho_1.mono HB0.size
  replace hB := hB.nx hb_1
  replace hC := hC.nx hb_1
  replace h0 := h0.nx hb_1
  have HB_1 := HB0.then hb_1
  refine ⟨_, rfl, ?_⟩
  refine op_val (d := 12) (v := .tuple #[.slice A_1 (sizeN q) (c_1), .int .i64 ((0 : Nat) : Int)]) rfl rfl (o_move rfl (pe hs rfl rfl)) ?_
  refine op_val (d := 15) (v := .slice A_1 (sizeN q) (c_1)) rfl rfl (o_extract rfl (pe hs rfl rfl) rfl) ?_
  refine op_val (d := 16) (v := .int .i64 ((0 : Nat) : Int)) rfl rfl (o_extract rfl (pe hs rfl rfl) rfl) ?_
  refine op_val (d := 6) (v := .slice A_1 (sizeN q) (c_1)) rfl rfl (o_assign rfl (pe hs rfl rfl)) ?_
  refine op_val (d := 7) (v := .int .i64 ((0 : Nat) : Int)) rfl rfl (o_assign rfl (pe hs rfl rfl)) ?_
  refine x_nil ?_
  refine hK_4 _ _ ?_
  refine w2_seq (fun K_5 hK_5 => ?_)
  refine w2_seq (fun K_6 hK_6 => ?_)
  refine x_region (by kernel_rfl) ?_
  refine op_val (d := 17) (v := .int .i64 ((0 : Nat) : Int)) rfl rfl (o_move rfl (pe hs rfl rfl)) ?_
  refine op_val (d := 18) (v := .bool (false)) rfl rfl (o_eq (o_neq (m := 0) (n := 0) rfl (pe hs rfl rfl) rfl) rfl) ?_
  refine x_nil ?_
  refine hK_6 _ _ ?_
  refine w2_condF (pe hs rfl rfl) ?_
  refine w2_skip ?_
  refine hK_5 _ _ ?_
  refine w2_seq (fun K_7 hK_7 => ?_)
  refine x_region (by kernel_rfl) ?_
  refine op_val (d := 21) (v := .pointer (some ⟨gw, 0, none⟩)) rfl rfl (o_move rfl ((pm rfl).trans t0)) ?_
  refine op_val (d := 22) (v := .pointer (some ⟨gw, 0, none⟩)) rfl rfl (o_nilCheck rfl (pe hs rfl rfl)) ?_
  refine op_val (d := 23) (v := .pointer (some ⟨gw, 0, none⟩)) rfl rfl (o_field (k' := 0) rfl (pe hs rfl rfl) (fun _ => by kernel_rfl)) ?_
  refine op_val (d := 24) (v := .pointer (some ⟨gw, 0, none⟩)) rfl rfl (o_field (k' := 0) rfl (pe hs rfl rfl) (fun _ => by kernel_rfl)) ?_
  refine op_val (d := 25) (v := .pointer (some ⟨gc, 0, none⟩)) rfl rfl (o_load1 rfl (pe hs rfl rfl) hB rfl ⟨by kernel_rfl, by kernel_rfl⟩) ?_
  refine op_val (d := 26) (v := .slice A_1 (sizeN q) (c_1)) rfl rfl (o_move rfl (pe hs rfl rfl)) ?_
  refine op_val (d := 27) (v := .int .i64 ((sizeN q : Nat) : Int)) rfl rfl (o_len rfl (pe hs rfl rfl)) ?_
  refine op_val (d := 28) (v := .int .i64 (((sizeN q) / 2 ^ 8 : Nat) : Int)) rfl rfl (o_shr (m := (sizeN q)) (n := 8) rfl (pe hs rfl rfl) rfl (by decide)) ?_
  refine op_val (d := 29) (v := .int .u8 ((((sizeN q) / 2 ^ 8) % 256 : Nat) : Int)) rfl rfl (o_conv (m := ((sizeN q) / 2 ^ 8)) (r := ((sizeN q) / 2 ^ 8) % 256) rfl (pe hs rfl rfl) ⟨.int .i64, fun _ => by kernel_rfl⟩ (fun _ => by kernel_rfl) (by rw [IntKind.wrap_u8]; omega)) ?_
  refine op_val (d := 30) (v := .slice A_1 (sizeN q) (c_1)) rfl rfl (o_move rfl (pe hs rfl rfl)) ?_
  refine op_val (d := 31) (v := .int .i64 ((sizeN q : Nat) : Int)) rfl rfl (o_len rfl (pe hs rfl rfl)) ?_
  refine op_val (d := 32) (v := .int .u8 (((sizeN q) % 256 : Nat) : Int)) rfl rfl (o_conv (m := (sizeN q)) (r := (sizeN q) % 256) rfl (pe hs rfl rfl) ⟨.int .i64, fun _ => by kernel_rfl⟩ (fun _ => by kernel_rfl) (by rw [IntKind.wrap_u8]; omega)) ?_
  refine op_ex (d := 33) rfl rfl (o_build2 (m := ((sizeN q) / 2 ^ 8) % 256) (n := (sizeN q) % 256) rfl (pe hs rfl rfl) (pe hs rfl rfl) (by omega) (by omega)) (fun v_1 w_2 hR_2 => ?_)
  obtain ⟨g_1, rfl, ho_2, hb_2⟩ := hR_2
  replace ho_2 := ho_2.mono HB_1.size
  replace hB := hB.nx hb_2
  replace hC := hC.nx hb_2
  replace h0 := h0.nx hb_2
  replace ho_1 := ho_1.nx hb_2
  have HB_2 := HB_1.then hb_2
  refine op_call (vs := #[.pointer (some ⟨gc, 0, none⟩), .slice none (0) (0), .slice ((some ⟨g_1, 0, none⟩)) (2) (2)]) rfl rfl (exec_call Try.func54 (by kernel_rfl) (by kernel_rfl) _ rfl _ _ (args3 (pe hs rfl rfl) rfl (pe hs rfl rfl))) (CSeal_any _ hC (Bs.nil _) (ho_2).bs (by simp only [List.length_nil]) (by simp only [List.length_cons, List.length_nil]) (by omega) (by omega) (by omega)) (fun e_2 w_3 hR_3 => ?_)
  obtain ⟨A_2, c_2, rfl, ho_3, ⟨N_1, hC_1, hNx_1⟩, hX_1⟩ := hR_3
  have hn_1 := hNx_1.not hn hB.lt
  replace hB := hX_1.blk hB (fun e => hn (by rw [e]; exact hC.mem))
  replace ho_1 := hC.own hX_1 ho_1
  replace ho_2 := hC.own hX_1 ho_2
  have nx_1 := (NextM.refl w N).trans hNx_1 HB_2.size
  have HB_3 := HB_2.step hX_1 (fun k hk (hY : k = gc) => .inr hY)
  replace ho_3 := ho_3.mono HB_2.size
  refine ⟨_, rfl, ?_⟩
  refine op_val (d := 20) (v := .tuple #[.slice A_2 (2 + 16) (c_2), .int .i64 ((0 : Nat) : Int)]) rfl rfl (o_move rfl (pe hs rfl rfl)) ?_
  refine op_val (d := 35) (v := .slice A_2 (2 + 16) (c_2)) rfl rfl (o_extract rfl (pe hs rfl rfl) rfl) ?_
  refine op_val (d := 36) (v := .int .i64 ((0 : Nat) : Int)) rfl rfl (o_extract rfl (pe hs rfl rfl) rfl) ?_
  refine op_val (d := 8) (v := .slice A_2 (2 + 16) (c_2)) rfl rfl (o_assign rfl (pe hs rfl rfl)) ?_
  refine op_val (d := 7) (v := .int .i64 ((0 : Nat) : Int)) rfl rfl (o_assign rfl (pe hs rfl rfl)) ?_
  refine x_nil ?_
  refine hK_7 _ _ ?_
  refine w2_seq (fun K_8 hK_8 => ?_)
  refine w2_seq (fun K_9 hK_9 => ?_)
  refine x_region (by kernel_rfl) ?_
  refine op_val (d := 37) (v := .int .i64 ((0 : Nat) : Int)) rfl rfl (o_move rfl (pe hs rfl rfl)) ?_
  refine op_val (d := 38) (v := .bool (false)) rfl rfl (o_eq (o_neq (m := 0) (n := 0) rfl (pe hs rfl rfl) rfl) rfl) ?_
  refine x_nil ?_
  refine hK_9 _ _ ?_
  refine w2_condF (pe hs rfl rfl) ?_
  refine w2_skip ?_
  refine hK_8 _ _ ?_
  refine w2_seq (fun K_10 hK_10 => ?_)
  refine x_region (by kernel_rfl) ?_
  refine op_val (d := 41) (v := .pointer (some ⟨gw, 0, none⟩)) rfl rfl (o_move rfl ((pm rfl).trans t0)) ?_
  refine op_val (d := 42) (v := .pointer (some ⟨gw, 0, none⟩)) rfl rfl (o_nilCheck rfl (pe hs rfl rfl)) ?_
  refine op_val (d := 43) (v := .pointer (some ⟨gw, 0, none⟩)) rfl rfl (o_field (k' := 0) rfl (pe hs rfl rfl) (fun _ => by kernel_rfl)) ?_
  refine op_val (d := 44) (v := .pointer (some ⟨gw, 0, none⟩)) rfl rfl (o_field (k' := 0) rfl (pe hs rfl rfl) (fun _ => by kernel_rfl)) ?_
  refine op_val (d := 45) (v := .pointer (some ⟨gc, 0, none⟩)) rfl rfl (o_load1 rfl (pe hs rfl rfl) hB rfl ⟨by kernel_rfl, by kernel_rfl⟩) ?_
  refine op_val (d := 46) (v := .slice A_1 (sizeN q) (c_1)) rfl rfl (o_move rfl (pe hs rfl rfl)) ?_
  refine op_call (vs := #[.pointer (some ⟨gc, 0, none⟩), .slice none (0) (0), .slice A_1 (sizeN q) (c_1)]) rfl rfl (exec_call Try.func54 (by kernel_rfl) (by kernel_rfl) _ rfl _ _ (args3 (pe hs rfl rfl) rfl (pe hs rfl rfl))) (CSeal_any _ hC_1 (Bs.nil _) (ho_1).bs (by simp only [List.length_nil]) (by rw [wrapL_length (by rw [hq]; exact hl), hq]) (by omega) (by omega) (by omega)) (fun e_3 w_4 hR_4 => ?_)
  obtain ⟨A_3, c_3, rfl, ho_4, ⟨N_2, hC_2, hNx_2⟩, hX_2⟩ := hR_4
  have hn_2 := hNx_2.not hn_1 hB.lt
  replace hB := hX_2.blk hB (fun e => hn_1 (by rw [e]; exact hC_1.mem))
  replace ho_1 := hC_1.own hX_2 ho_1
  replace ho_2 := hC_1.own hX_2 ho_2
  replace ho_3 := hC_1.own hX_2 ho_3
  have nx_2 := nx_1.trans hNx_2 HB_3.size
  have HB_4 := HB_3.step hX_2 (fun k hk (hY : k = gc) => .inr hY)
  replace ho_4 := ho_4.mono HB_3.size
  refine ⟨_, rfl, ?_⟩
  refine op_val (d := 40) (v := .tuple #[.slice A_3 ((sizeN q) + 16) (c_3), .int .i64 ((0 : Nat) : Int)]) rfl rfl (o_move rfl (pe hs rfl rfl)) ?_
  refine op_val (d := 48) (v := .slice A_3 ((sizeN q) + 16) (c_3)) rfl rfl (o_extract rfl (pe hs rfl rfl) rfl) ?_
  refine op_val (d := 49) (v := .int .i64 ((0 : Nat) : Int)) rfl rfl (o_extract rfl (pe hs rfl rfl) rfl) ?_
  refine op_val (d := 9) (v := .slice A_3 ((sizeN q) + 16) (c_3)) rfl rfl (o_assign rfl (pe hs rfl rfl)) ?_
  refine op_val (d := 7) (v := .int .i64 ((0 : Nat) : Int)) rfl rfl (o_assign rfl (pe hs rfl rfl)) ?_
  refine x_nil ?_
  refine hK_10 _ _ ?_
  refine w2_seq (fun K_11 hK_11 => ?_)
  refine w2_seq (fun K_12 hK_12 => ?_)
  refine x_region (by kernel_rfl) ?_
  refine op_val (d := 50) (v := .int .i64 ((0 : Nat) : Int)) rfl rfl (o_move rfl (pe hs rfl rfl)) ?_
  refine op_val (d := 51) (v := .bool (false)) rfl rfl (o_eq (o_neq (m := 0) (n := 0) rfl (pe hs rfl rfl) rfl) rfl) ?_
  refine x_nil ?_
  refine hK_12 _ _ ?_
  refine w2_condF (pe hs rfl rfl) ?_
  refine w2_skip ?_
  refine hK_11 _ _ ?_
  refine w2_seq (fun K_13 hK_13 => ?_)
  refine x_region (by kernel_rfl) ?_
  refine op_val (d := 53) (v := .pointer (some ⟨gw, 0, none⟩)) rfl rfl (o_move rfl ((pm rfl).trans t0)) ?_
  refine op_val (d := 54) (v := .pointer (some ⟨gw, 0, none⟩)) rfl rfl (o_nilCheck rfl (pe hs rfl rfl)) ?_
  refine op_val (d := 55) (v := .pointer (some ⟨gw, 0, none⟩)) rfl rfl (o_field (k' := 0) rfl (pe hs rfl rfl) (fun _ => by kernel_rfl)) ?_
  refine op_call (vs := #[.pointer (some ⟨gw, 0, none⟩)]) rfl rfl (exec_call Try.func82 (by kernel_rfl) (by kernel_rfl) _ rfl _ _ (args1 (pe hs rfl rfl))) (count_w _ hB hC_2 hn_2 (by omega) (by omega)) (fun e_4 w_5 hR_5 => ?_)
  obtain ⟨rfl, ⟨N_3, hC_3, hNx_3⟩, hB_1, hX_3⟩ := hR_5
  have hn_3 := hNx_3.not hn_2 hB.lt
  replace ho_1 := ho_1.keep2 hB (by decide) hC_2 hX_3
  replace ho_2 := ho_2.keep2 hB (by decide) hC_2 hX_3
  replace ho_3 := ho_3.keep2 hB (by decide) hC_2 hX_3
  replace ho_4 := ho_4.keep2 hB (by decide) hC_2 hX_3
  have nx_3 := nx_2.trans hNx_3 HB_4.size
  have HB_5 := HB_4.step hX_3 (fun k hk hY => hY)
  refine ⟨_, rfl, ?_⟩
  refine x_nil ?_
  refine hK_13 _ _ ?_
  refine w2_seq (fun K_14 hK_14 => ?_)
  refine x_region (by kernel_rfl) ?_
  refine op_val (d := 57) (v := .slice A_2 (2 + 16) (c_2)) rfl rfl (o_move rfl (pe hs rfl rfl)) ?_
  refine op_val (d := 58) (v := .slice A_3 ((sizeN q) + 16) (c_3)) rfl rfl (o_move rfl (pe hs rfl rfl)) ?_
  refine op_ex (d := 59) rfl rfl (o_bldS (vs := #[(0, .slice A_2 (2 + 16) (c_2)), (1, .slice A_3 ((sizeN q) + 16) (c_3))]) (cs := #[.slice A_2 (2 + 16) (c_2), .slice A_3 ((sizeN q) + 16) (c_3)]) (e := 22) rfl (bld2 (pe hs rfl rfl) (pe hs rfl rfl)) (fun _ => by kernel_rfl)) (fun v_2 w_6 hR_6 => ?_)
  obtain ⟨g_2, rfl, hle_2, hB_2, hb_3⟩ := hR_6
  have ne_1 : gw ≠ g_2 := Nat.ne_of_lt (Nat.lt_of_lt_of_le hB_1.lt hle_2)
  have ge_1 : w.heap.size ≤ g_2 := Nat.le_trans HB_5.size hle_2
  replace ho_1 := ho_1.nx hb_3
  replace ho_2 := ho_2.nx hb_3
  replace ho_3 := ho_3.nx hb_3
  replace ho_4 := ho_4.nx hb_3
  replace hB_1 := hB_1.nx hb_3
  replace hC_3 := hC_3.nx hb_3
  have HB_6 := HB_5.then hb_3
  refine op_call (vs := #[.slice ((some ⟨g_2, 0, none⟩)) (2) (2)]) rfl rfl (exec_call Try.func83 (by kernel_rfl) (by kernel_rfl) _ rfl _ _ (args1 (pe hs rfl rfl))) (Concat2 _ hB_2 (ho_3).bs (by rw [sealL_length]; have h9 : ([((sizeN q) / 2 ^ 8) % 256, (sizeN q) % 256]).length = 2 := (by simp only [List.length_cons, List.length_nil]); omega) (ho_4).bs (by rw [sealL_length]; have h9 : (wrapL bs).length = sizeN q := (by rw [wrapL_length (by rw [hq]; exact hl), hq]); omega) (by omega)) (fun e_5 w_7 hR_7 => ?_)
  obtain ⟨A_4, c_4, rfl, ho_5, hb_4⟩ := hR_7
  have gz_2 := ho_5.ge'
  have sp_2 : Sep (blkA A_4) N_3 := (Sep.new hC_3.lt gz_2).symm
  replace ho_5 := ho_5.mono HB_6.size
  replace ho_1 := ho_1.nx hb_4
  replace ho_2 := ho_2.nx hb_4
  replace ho_3 := ho_3.nx hb_4
  replace ho_4 := ho_4.nx hb_4
  replace hB_1 := hB_1.nx hb_4
  replace hC_3 := hC_3.nx hb_4
  replace hB_2 := hB_2.nx hb_4
  have HB_7 := HB_6.then hb_4
  refine ⟨_, rfl, ?_⟩
  refine op_val (d := 4) (v := .slice A_4 ((2 + 16) + ((sizeN q) + 16)) (c_4)) rfl rfl (o_assign rfl (pe hs rfl rfl)) ?_
  refine op_val (d := 5) (v := .int .i64 ((0 : Nat) : Int)) rfl rfl (o_assign rfl rfl) ?_
  refine x_nil ?_
  refine hK_14 _ _ ?_
  refine w2_ret ?_
  refine ret2 rfl hd (pe hs rfl rfl) (pe hs rfl rfl) ?_
  subst hq
  exact ⟨_, _, by rw [show (2 + 16) + ((sizeN bs.length) + 16) = sizeN bs.length + 34 by omega]; rfl, ho_5, ⟨fun j => N_3 j ∨ j = gw, ⟨fun j hj => hj.elim (hC_3.lt j) (fun h => h ▸ hB_1.lt), hev, N_3, hC_3, hB_1, hn_3, .inr rfl, fun j hj => .inl hj⟩, fun j hj => hj.elim (fun h => (nx_3 j h).imp (hMA j) id) (fun h => .inl (h ▸ hMg)), fun j hj hm => hm.elim (sp_2 j hj) (fun h => ho_5.sepB hB_1 (by decide) (h ▸ hj))⟩, HB_7.mono (fun k _ hk => hk.elim (fun e => e ▸ hMg) (fun e => e ▸ hMA _ hC0))⟩
theorem Put_gt {gw : Nat} {A0 : Option Addr} {c0 q : Nat} {bs : List Nat} (w : World) (h0 : Bs w A0 c0 bs) (hq : bs.length = q) (hl : 4096 < q) :
    Calls Try.prog 38 #[.pointer (some ⟨gw, 0, none⟩), .slice A0 (q) (c0)] w fun e w' => e = .returned (.tuple #[.slice none 0 0, .int .i64 7]) ∧ w = w' := by
  refine x_enter 61 Try.func38 rfl rfl (fun a hs hd ha0 => ?_)
  have t0 : a.eval (.tmp 0) = .pointer (some ⟨gw, 0, none⟩) := ha0 0 _ rfl
  have t1 : a.eval (.tmp 1) = .slice A0 (q) (c0) := ha0 1 _ rfl
  clear ha0
  refine w2_seq (fun K_1 hK_1 => ?_)
  refine x_region (by kernel_rfl) ?_
  refine op_val (d := 4) (v := .slice none (0) (0)) rfl rfl (o_assign rfl rfl) ?_
  refine op_val (d := 5) (v := .int .i64 ((0 : Nat) : Int)) rfl rfl (o_assign rfl rfl) ?_
  refine x_nil ?_
  refine hK_1 _ _ ?_
  refine w2_seq (fun K_2 hK_2 => ?_)
  refine w2_seq (fun K_3 hK_3 => ?_)
  refine x_region (by kernel_rfl) ?_
  refine op_val (d := 10) (v := .pointer (some ⟨gw, 0, none⟩)) rfl rfl (o_move rfl ((pm rfl).trans t0)) ?_
  refine op_val (d := 11) (v := .bool (false)) rfl rfl (o_nil (b := false) rfl (pe hs rfl rfl) rfl rfl ⟨109, fun _ => by kernel_rfl⟩) ?_
  refine x_nil ?_
  refine hK_3 _ _ ?_
  refine w2_condF (pe hs rfl rfl) ?_
  refine w2_skip ?_
  refine hK_2 _ _ ?_
  refine w2_seq (fun K_4 hK_4 => ?_)
  refine x_region (by kernel_rfl) ?_
  refine op_val (d := 13) (v := .slice A0 (q) (c0)) rfl rfl (o_move rfl ((pm rfl).trans t1)) ?_
  refine op_call (vs := #[.slice A0 (q) (c0)]) rfl rfl (exec_call Try.func81 (by kernel_rfl) (by kernel_rfl) _ rfl _ _ (args1 (pe hs rfl rfl))) (Wrap_gt _ h0 hq hl) (fun e_1 w_1 hR_1 => ?_)
  obtain ⟨rfl, rfl⟩ := hR_1
  refine ⟨_, rfl, ?_⟩
  refine op_val (d := 12) (v := .tuple #[.slice none (0) (0), .int .i64 ((7 : Nat) : Int)]) rfl rfl (o_move rfl (pe hs rfl rfl)) ?_
  refine op_val (d := 15) (v := .slice none (0) (0)) rfl rfl (o_extract rfl (pe hs rfl rfl) rfl) ?_
  refine op_val (d := 16) (v := .int .i64 ((7 : Nat) : Int)) rfl rfl (o_extract rfl (pe hs rfl rfl) rfl) ?_
  refine op_val (d := 6) (v := .slice none (0) (0)) rfl rfl (o_assign rfl (pe hs rfl rfl)) ?_
  refine op_val (d := 7) (v := .int .i64 ((7 : Nat) : Int)) rfl rfl (o_assign rfl (pe hs rfl rfl)) ?_
  refine x_nil ?_
  refine hK_4 _ _ ?_
  refine w2_seq (fun K_5 hK_5 => ?_)
  refine w2_seq (fun K_6 hK_6 => ?_)
  refine x_region (by kernel_rfl) ?_
  refine op_val (d := 17) (v := .int .i64 ((7 : Nat) : Int)) rfl rfl (o_move rfl (pe hs rfl rfl)) ?_
  refine op_val (d := 18) (v := .bool (true)) rfl rfl (o_eq (o_eq (o_neq (m := 7) (n := 0) rfl (pe hs rfl rfl) rfl) rfl) rfl) ?_
  refine x_nil ?_
  refine hK_6 _ _ ?_
  refine w2_condT (pe hs rfl rfl) ?_
  refine w2_seq (fun K_7 hK_7 => ?_)
  refine x_region (by kernel_rfl) ?_
  refine op_val (d := 19) (v := .int .i64 ((7 : Nat) : Int)) rfl rfl (o_move rfl (pe hs rfl rfl)) ?_
  refine op_val (d := 4) (v := .slice none (0) (0)) rfl rfl (o_assign rfl rfl) ?_
  refine op_val (d := 5) (v := .int .i64 ((7 : Nat) : Int)) rfl rfl (o_assign rfl (pe hs rfl rfl)) ?_
  refine x_nil ?_
  refine hK_7 _ _ ?_
  refine w2_ret ?_
  refine thn_ret ?_
  refine ret2 rfl hd (pe hs rfl rfl) (pe hs rfl rfl) ?_
  exact ⟨rfl, rfl⟩
theorem Put_nil {A0 : Option Addr} {c0 q : Nat} (w : World) :
    Calls Try.prog 38 #[.pointer none, .slice A0 (q) (c0)] w fun e w' => e = .returned (.tuple #[.slice none 0 0, .int .i64 1]) ∧ w = w' := by
  refine x_enter 61 Try.func38 rfl rfl (fun a hs hd ha0 => ?_)
  have t0 : a.eval (.tmp 0) = .pointer none := ha0 0 _ rfl
  have t1 : a.eval (.tmp 1) = .slice A0 (q) (c0) := ha0 1 _ rfl
  clear ha0
  refine w2_seq (fun K_1 hK_1 => ?_)
  refine x_region (by kernel_rfl) ?_
  refine op_val (d := 4) (v := .slice none (0) (0)) rfl rfl (o_assign rfl rfl) ?_
  refine op_val (d := 5) (v := .int .i64 ((0 : Nat) : Int)) rfl rfl (o_assign rfl rfl) ?_
  refine x_nil ?_
  refine hK_1 _ _ ?_
  refine w2_seq (fun K_2 hK_2 => ?_)
  refine w2_seq (fun K_3 hK_3 => ?_)
  refine x_region (by kernel_rfl) ?_
  refine op_val (d := 10) (v := .pointer none) rfl rfl (o_move rfl ((pm rfl).trans t0)) ?_
  refine op_val (d := 11) (v := .bool (true)) rfl rfl (o_nil (b := true) rfl (pe hs rfl rfl) rfl rfl ⟨109, fun _ => by kernel_rfl⟩) ?_
  refine x_nil ?_
  refine hK_3 _ _ ?_
  refine w2_condT (pe hs rfl rfl) ?_
  refine w2_seq (fun K_4 hK_4 => ?_)
  refine x_region (by kernel_rfl) ?_
  refine op_val (d := 4) (v := .slice none (0) (0)) rfl rfl (o_assign rfl rfl) ?_
  refine op_val (d := 5) (v := .int .i64 ((1 : Nat) : Int)) rfl rfl (o_assign rfl rfl) ?_
  refine x_nil ?_
  refine hK_4 _ _ ?_
  refine w2_ret ?_
  refine thn_ret ?_
  refine ret2 rfl hd (pe hs rfl rfl) (pe hs rfl rfl) ?_
  exact ⟨rfl, rfl⟩
theorem WCount_blk {gw gc ev cnt : Nat} (w : World) (hB : Blk w gw #[.pointer (some ⟨gc, 0, none⟩), .int .i64 ((ev : Nat) : Int), .int .i64 ((cnt : Nat) : Int)] 109) :
    Calls Try.prog 39 #[.pointer (some ⟨gw, 0, none⟩)] w fun e w' => e = .returned (.int .i64 ((cnt : Nat) : Int)) ∧ w = w' := by
  refine x_enter 10 Try.func39 rfl rfl (fun a hs hd ha0 => ?_)
  have t0 : a.eval (.tmp 0) = .pointer (some ⟨gw, 0, none⟩) := ha0 0 _ rfl
  clear ha0
  refine w2_seq (fun K_1 hK_1 => ?_)
  refine x_region (by kernel_rfl) ?_
  refine op_val (d := 2) (v := .int .i64 ((0 : Nat) : Int)) rfl rfl (o_assign rfl rfl) ?_
  refine x_nil ?_
  refine hK_1 _ _ ?_
  refine w2_seq (fun K_2 hK_2 => ?_)
  refine w2_seq (fun K_3 hK_3 => ?_)
  refine x_region (by kernel_rfl) ?_
  refine op_val (d := 3) (v := .pointer (some ⟨gw, 0, none⟩)) rfl rfl (o_move rfl ((pm rfl).trans t0)) ?_
  refine op_val (d := 4) (v := .bool (false)) rfl rfl (o_nil (b := false) rfl (pe hs rfl rfl) rfl rfl ⟨109, fun _ => by kernel_rfl⟩) ?_
  refine x_nil ?_
  refine hK_3 _ _ ?_
  refine w2_condF (pe hs rfl rfl) ?_
  refine w2_skip ?_
  refine hK_2 _ _ ?_
  refine w2_seq (fun K_4 hK_4 => ?_)
  refine x_region (by kernel_rfl) ?_
  refine op_val (d := 5) (v := .pointer (some ⟨gw, 0, none⟩)) rfl rfl (o_move rfl ((pm rfl).trans t0)) ?_
  refine op_val (d := 6) (v := .pointer (some ⟨gw, 0, none⟩)) rfl rfl (o_nilCheck rfl (pe hs rfl rfl)) ?_
  refine op_val (d := 7) (v := .pointer (some ⟨gw, 0, none⟩)) rfl rfl (o_field (k' := 0) rfl (pe hs rfl rfl) (fun _ => by kernel_rfl)) ?_
  refine op_val (d := 8) (v := .pointer (some ⟨gw, 2, none⟩)) rfl rfl (o_field (k' := 2) rfl (pe hs rfl rfl) (fun _ => by kernel_rfl)) ?_
  refine op_val (d := 9) (v := .int .i64 ((cnt : Nat) : Int)) rfl rfl (o_load1 rfl (pe hs rfl rfl) hB rfl ⟨by kernel_rfl, by kernel_rfl⟩) ?_
  refine op_val (d := 2) (v := .int .i64 ((cnt : Nat) : Int)) rfl rfl (o_assign rfl (pe hs rfl rfl)) ?_
  refine x_nil ?_
  refine hK_4 _ _ ?_
  refine w2_ret ?_
  refine ret1 rfl hd (pe hs rfl rfl) ?_
  exact ⟨rfl, rfl⟩
theorem WCount_nil (w : World) :
    Calls Try.prog 39 #[.pointer none] w fun e w' => e = .returned (.int .i64 0) ∧ w = w' := by
  refine x_enter 10 Try.func39 rfl rfl (fun a hs hd ha0 => ?_)
  have t0 : a.eval (.tmp 0) = .pointer none := ha0 0 _ rfl
  clear ha0
  refine w2_seq (fun K_1 hK_1 => ?_)
  refine x_region (by kernel_rfl) ?_
  refine op_val (d := 2) (v := .int .i64 ((0 : Nat) : Int)) rfl rfl (o_assign rfl rfl) ?_
  refine x_nil ?_
  refine hK_1 _ _ ?_
  refine w2_seq (fun K_2 hK_2 => ?_)
  refine w2_seq (fun K_3 hK_3 => ?_)
  refine x_region (by kernel_rfl) ?_
  refine op_val (d := 3) (v := .pointer none) rfl rfl (o_move rfl ((pm rfl).trans t0)) ?_
  refine op_val (d := 4) (v := .bool (true)) rfl rfl (o_nil (b := true) rfl (pe hs rfl rfl) rfl rfl ⟨109, fun _ => by kernel_rfl⟩) ?_
  refine x_nil ?_
  refine hK_3 _ _ ?_
  refine w2_condT (pe hs rfl rfl) ?_
  refine w2_seq (fun K_4 hK_4 => ?_)
  refine x_region (by kernel_rfl) ?_
  refine op_val (d := 2) (v := .int .i64 ((0 : Nat) : Int)) rfl rfl (o_assign rfl rfl) ?_
  refine x_nil ?_
  refine hK_4 _ _ ?_
  refine w2_ret ?_
  refine thn_ret ?_
  refine ret1 rfl hd (pe hs rfl rfl) ?_
  exact ⟨rfl, rfl⟩
theorem WCount_any {M : Nat → Prop} {gw gc : Nat} {co : Co} (w : World) (h : WriterAt w M gw gc co) : Calls Try.prog 39 #[.pointer (some ⟨gw, 0, none⟩)] w fun e w' => e = .returned (.int .i64 ((co.cnt : Nat) : Int)) ∧ w = w' := by
  obtain ⟨N, hC, hB, _⟩ := h.row
  exact WCount_blk w hB
end Go.Proofs.Ytoiamaljkodlnaa
