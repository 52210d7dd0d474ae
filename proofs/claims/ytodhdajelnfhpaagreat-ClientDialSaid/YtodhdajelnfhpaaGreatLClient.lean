/-
 WALKS: sapperlaw23.ClientIdle, ClientDial.
-/
import Derived.Test.YtodhdajelnfhpaaGreatClM
namespace Go.Proofs.YtodhdajelnfhpaaGreat
open Go.RowKit
set_option linter.unusedVariables false
set_option linter.unusedSimpArgs false
set_option maxRecDepth 100000
attribute [local irreducible] wpList wpListIn putsR

theorem Bs.first {w : World} {A : Option Addr} {c n : Nat} {xs : List Nat} (h : Bs w A c xs) (hn : n ≤ xs.length) : Bs w (subA A 0 c) c (xs.take n) := by
 have h1 := Bs.sub h (l := 0) (q := n) (m := c) (by omega) (by have := h.le; omega) (Nat.le_refl _)
 rwa [List.drop_zero, Nat.sub_zero, Nat.sub_zero] at h1
section
variable {o : Oper} {ev : Operand → Value} {w : World} {x y z : Operand} {T U t : TypeId} {g k : Nat}
theorem o_convU {m : Int} {r : Nat} (ho : o.op = .convert T U x) (hx : ev x = .int .i64 m) (hT : ∃ d, ∀ w, (underlying T).run Tryz.prog w = .ok d w) (hU : ∀ w, (underlying U).run Tryz.prog w = .ok (.int .u64) w) (hr : (m % 18446744073709551616).toNat = r) : (execOp ev o).run Tryz.prog w = .ok (.value (.int .u64 ((r : Nat) : Int))) w := by
 have e : IntKind.u64.wrap m = ((r : Nat) : Int) := by rw [← hr, IntKind.wrap_u64]; omega
 obtain ⟨d, hT⟩ := hT
 rw [← e]
 simp [execOp, ho, hx, convert, hT, hU, Sem.run_bind, Sem.run_pure, Conv.intToInt]
theorem o_gtrZZ {m n : Int} (ho : o.op = .binOp .gtr T x y U) (hx : ev x = .int .i64 m) (hy : ev y = .int .i64 n) : (execOp ev o).run Tryz.prog w = .ok (.value (.bool (decide (n < m)))) w := by simp [execOp, ho, hx, hy, go_sem]
end
set_option maxHeartbeats 1000000 in
theorem IdleN {x y : Int} {p q P Q : Nat} (w : World) (hp : (x % 18446744073709551616).toNat = p) (hq : (y % 18446744073709551616).toNat = q) (hP : p % 1000 = P) (hQ : q % 300 = Q) (hlt : Q < 100) :
  Calls Tryz.prog 4 #[.int .i64 (x), .int .i64 (y)] w fun e w' => e = .returned (.bool true) ∧ Below w.heap.size w w' := by
 have hP1 : P < 1000 := by omega
 have hQ1 : Q < 300 := by omega
 have okP : okT ((P : Nat) : Int) := by unfold okT; omega
 have okN : okT ((P + Q : Nat) : Int) := by unfold okT; omega
 have hw :  ((P + Q : Nat) : Int) - ((P : Nat) : Int) < ((100 : Nat) : Int) := by omega
 refine x_enter 65 Tryz.func4 rfl rfl (fun a hs hd ha0 => ?_)
 have t0 : a.eval (.tmp 0) = .int .i64 (x) := ha0 0 _ rfl
 have t1 : a.eval (.tmp 1) = .int .i64 (y) := ha0 1 _ rfl
 clear ha0
 refine w2_sr (fun K_1 hK_1 => ?_)
 refine q_as (.bool (false)) rfl ?_
 refine x_nil (hK_1 _ _ ?_)
 refine w2_sr (fun K_2 hK_2 => ?_)
 refine q_mv ((pm rfl).trans t0) ?_
 refine q_v 8 (.int .u64 ((p : Nat) : Int)) (o_convU rfl (pe hs rfl rfl) ⟨.int .i64, fun _ => by kernel_rfl⟩ (fun _ => by kernel_rfl) hp) ?_
 refine q_v 9 (.int .u64 ((P : Nat) : Int)) (o_eq (o_rem (m := p) (n := 1000) rfl (pe hs rfl rfl) rfl (by omega) (by rw [IntKind.wrap_u64]; omega)) (by rw [hP])) ?_
 refine q_v 10 (.int .i64 ((P : Nat) : Int)) (o_conv (m := P) (r := P) rfl (pe hs rfl rfl) ⟨.int .u64, fun _ => by kernel_rfl⟩ (fun _ => by kernel_rfl) (IntWalk.i64_in _ (by omega))) ?_
 refine q_mv ((pm rfl).trans t1) ?_
 refine q_v 12 (.int .u64 ((q : Nat) : Int)) (o_convU rfl (pe hs rfl rfl) ⟨.int .i64, fun _ => by kernel_rfl⟩ (fun _ => by kernel_rfl) hq) ?_
 refine q_v 13 (.int .u64 ((Q : Nat) : Int)) (o_eq (o_rem (m := q) (n := 300) rfl (pe hs rfl rfl) rfl (by omega) (by rw [IntKind.wrap_u64]; omega)) (by rw [hQ])) ?_
 refine q_v 14 (.int .i64 ((Q : Nat) : Int)) (o_conv (m := Q) (r := Q) rfl (pe hs rfl rfl) ⟨.int .u64, fun _ => by kernel_rfl⟩ (fun _ => by kernel_rfl) (IntWalk.i64_in _ (by omega))) ?_
 refine q_at (pe hs rfl rfl) ?_
 refine q_at (pe hs rfl rfl) ?_
 refine x_nil (hK_2 _ _ ?_)
 refine w2_sr (fun K_3 hK_3 => ?_)
 refine q_ca (vs := #[]) Tryz.func7 (args0) (made_any _) (fun e_1 w_1 hR_1 => ?_)
 obtain ⟨M_1, g_1, rfl, hC_1, hge_1, hb_1⟩ := hR_1
 refine ⟨_, rfl, ?_⟩
 refine q_at (pe hs rfl rfl) ?_
 refine x_nil (hK_3 _ _ ?_)
 refine w2_seq (fun K_4 hK_4 => ?_)
 refine w2_sr (fun K_5 hK_5 => ?_)
 refine q_mv (pe hs rfl rfl) ?_
 refine q_v 17 (.bool (false)) (o_nil (b := false) rfl (pe hs rfl rfl) rfl rfl ⟨58, fun _ => by kernel_rfl⟩) ?_
 refine q_mv (pe hs rfl rfl) ?_
 refine op_valG (e := 18) (d := 19) (v := .pointer (some ⟨g_1, 0, none⟩)) rfl rfl (by kernel_rfl) (pe hs rfl rfl) (o_move rfl (pe hs rfl rfl)) ?_
 refine op_valG (e := 18) (d := 20) (v := .int .i64 ((P : Nat) : Int)) rfl rfl (by kernel_rfl) (pe hs rfl rfl) (o_move rfl (pe hs rfl rfl)) ?_
 refine op_callG (e := 18) (vs := #[.pointer (some ⟨g_1, 0, none⟩), .slice none (0) (0), .int .i64 ((P : Nat) : Int)]) rfl rfl (by kernel_rfl) (pe hs rfl rfl) (exec_call Tryz.func8 (by kernel_rfl) (by kernel_rfl) _ rfl _ _ (args3 (pe hs rfl rfl) rfl (pe hs rfl rfl))) (Dial_ok _ hC_1 okP (Bs.nil _) rfl (by omega) (key_good (by decide)) (pubL_num _)) (fun e_2 w_2 hR_2 => ?_)
 have hge_2_l := hC_1.lt
 obtain ⟨ge__1, ce_1, D_1, d_1, rfl, hge_2, hE_1, hO_1, hC_2, hX_1⟩ := hR_2
 have hne_1 : ¬ M_1 ge__1 := fun h => absurd (hge_2_l _ h) (Nat.not_lt.2 hge_2)
 replace hO_1 := hO_1.mono hb_1.size
 have hl_1 : ([0, 1] ++ (pubL (shaL (([] : List Nat))) ++ outS (firstS (shaL nameS) (shaL (shaL (shaL nameS ++ [0, 1]) ++ (pubL (padTo 32 [7])))) (padTo 32 [1]) (pubL (shaL (([] : List Nat)))) (dhL (shaL (([] : List Nat))) (secN (padTo 32 [7])))) (numZ (((P : Nat) : Int)) 8))).length = 58 := data_len _ _ (numZ_length _ _)
 have HB_1 := hX_1.below hb_1 hb_1.size hge_1
 refine ⟨_, rfl, ?_⟩
 refine op_valG (e := 18) (d := 22) (v := .int .i64 ((1 : Nat) : Int)) rfl rfl (by kernel_rfl) (pe hs rfl rfl) (o_lenE rfl (pe hs rfl rfl)) ?_
 refine op_valG (e := 18) (d := 23) (v := .bool (false)) rfl rfl (by kernel_rfl) (pe hs rfl rfl) (o_eq (o_neq (m := 1) (n := 1) rfl (pe hs rfl rfl) rfl) rfl) ?_
 refine q_v 24 (.bool (false)) (o_pickF rfl (pe hs rfl rfl) (pe hs rfl rfl)) ?_
 refine x_nil (hK_5 _ _ ?_)
 refine w2_condF (pe hs rfl rfl) ?_
 refine w2_skip ?_
 refine hK_4 _ _ ?_
 refine w2_sr (fun K_6 hK_6 => ?_)
 refine q_mv (pe hs rfl rfl) ?_
 refine q_mv (pe hs rfl rfl) ?_
 refine q_mv (pe hs rfl rfl) ?_
 refine q_v 28 (.int .i64 ((P + Q : Nat) : Int)) (o_add64 (m := P) (n := Q) rfl (pe hs rfl rfl) (pe hs rfl rfl) (by omega)) ?_
 refine q_ca (vs := #[.pointer (some ⟨g_1, 0, none⟩), .int .i64 ((P + Q : Nat) : Int)]) Tryz.func10 (args2 (pe hs rfl rfl) (pe hs rfl rfl)) (Tick_no _ hC_2 okN okP hw) (fun e_3 w_3 hR_3 => ?_)
 obtain ⟨rfl, hb_3⟩ := hR_3
 replace hC_2 := hC_2.nx hb_3
 replace hE_1 := hE_1.nx hb_3
 replace hO_1 := hO_1.nx hb_3
 have HB_2 := below_from HB_1 hb_3
 refine ⟨_, rfl, ?_⟩
 refine q_at (pe hs rfl rfl) ?_
 refine x_nil (hK_6 _ _ ?_)
 refine w2_seq (fun K_7 hK_7 => ?_)
 refine w2_sr (fun K_8 hK_8 => ?_)
 refine q_mv (pe hs rfl rfl) ?_
 refine q_v 31 (.bool (true)) (o_eq (o_lss (m := Q) (n := 100) rfl (pe hs rfl rfl) rfl) (by rw [decide_eq_true (by omega)])) ?_
 refine x_nil (hK_8 _ _ ?_)
 refine w2_condT (pe hs rfl rfl) ?_
 refine w2_sr (fun K_9 hK_9 => ?_)
 refine q_mv (pe hs rfl rfl) ?_
 refine q_v 33 (.int .i64 ((0 : Nat) : Int)) (o_lenE rfl (pe hs rfl rfl)) ?_
 refine q_v 34 (.bool (true)) (o_eq (o_eql (m := 0) (n := 0) rfl (pe hs rfl rfl) rfl) rfl) ?_
 refine q_mv (pe hs rfl rfl) ?_
 refine op_valG (e := 35) (d := 36) (v := .pointer (some ⟨g_1, 0, none⟩)) rfl rfl (by kernel_rfl) (pe hs rfl rfl) (o_move rfl (pe hs rfl rfl)) ?_
 refine op_valG (e := 35) (d := 37) (v := .int .i64 ((P : Nat) : Int)) rfl rfl (by kernel_rfl) (pe hs rfl rfl) (o_move rfl (pe hs rfl rfl)) ?_
 refine op_callG (e := 35) (vs := #[.pointer (some ⟨g_1, 0, none⟩), .slice none (0) (0), .int .i64 ((P : Nat) : Int)]) rfl rfl (by kernel_rfl) (pe hs rfl rfl) (exec_call Tryz.func8 (by kernel_rfl) (by kernel_rfl) _ rfl _ _ (args3 (pe hs rfl rfl) rfl (pe hs rfl rfl))) (Dial_up (key := []) _ hC_2) (fun e_4 w_4 hR_4 => ?_)
 obtain ⟨rfl, hb_5⟩ := hR_4
 replace hE_1 := hE_1.nx hb_5
 replace hO_1 := hO_1.nx hb_5
 have HB_3 := below_from HB_2 hb_5
 refine ⟨_, rfl, ?_⟩
 refine op_valG (e := 35) (d := 39) (v := .int .i64 ((0 : Nat) : Int)) rfl rfl (by kernel_rfl) (pe hs rfl rfl) (o_lenE rfl (pe hs rfl rfl)) ?_
 refine op_valG (e := 35) (d := 40) (v := .bool (true)) rfl rfl (by kernel_rfl) (pe hs rfl rfl) (o_eq (o_eql (m := 0) (n := 0) rfl (pe hs rfl rfl) rfl) rfl) ?_
 refine q_v 41 (.bool (true)) (o_pickT rfl (pe hs rfl rfl) (pe hs rfl rfl)) ?_
 refine q_mv (pe hs rfl rfl) ?_
 refine op_callG (e := 42) (vs := #[]) rfl rfl (by kernel_rfl) (pe hs rfl rfl) (exec_call Tryz.func6 (by kernel_rfl) (by kernel_rfl) _ rfl _ _ (args0)) (awake23_any _) (fun e_5 w_5 hR_5 => ?_)
 obtain ⟨rfl, hb_7⟩ := hR_5
 replace hE_1 := hE_1.nx hb_7
 replace hO_1 := hO_1.nx hb_7
 have HB_4 := below_from HB_3 hb_7
 refine ⟨_, rfl, ?_⟩
 refine q_v 44 (.bool (true)) (o_pickT rfl (pe hs rfl rfl) (pe hs rfl rfl)) ?_
 refine q_at (pe hs rfl rfl) ?_
 refine x_nil (hK_9 _ _ ?_)
 refine w2_ret ?_
 refine thn_ret ?_
 refine ret1 rfl hd (pe hs rfl rfl) ?_
 exact ⟨rfl, HB_4⟩
set_option maxHeartbeats 1000000 in
theorem IdleE {x y : Int} {p q P Q : Nat} (w : World) (hp : (x % 18446744073709551616).toNat = p) (hq : (y % 18446744073709551616).toNat = q) (hP : p % 1000 = P) (hQ : q % 300 = Q) (hlt : ¬ Q < 100) :
  Calls Tryz.prog 4 #[.int .i64 (x), .int .i64 (y)] w fun e w' => e = .returned (.bool true) ∧ Below w.heap.size w w' := by
 have hP1 : P < 1000 := by omega
 have hQ1 : Q < 300 := by omega
 have okP : okT ((P : Nat) : Int) := by unfold okT; omega
 have okN : okT ((P + Q : Nat) : Int) := by unfold okT; omega
 have hw : ¬ ((P + Q : Nat) : Int) - ((P : Nat) : Int) < ((100 : Nat) : Int) := by omega
 refine x_enter 65 Tryz.func4 rfl rfl (fun a hs hd ha0 => ?_)
 have t0 : a.eval (.tmp 0) = .int .i64 (x) := ha0 0 _ rfl
 have t1 : a.eval (.tmp 1) = .int .i64 (y) := ha0 1 _ rfl
 clear ha0
 refine w2_sr (fun K_1 hK_1 => ?_)
 refine q_as (.bool (false)) rfl ?_
 refine x_nil (hK_1 _ _ ?_)
 refine w2_sr (fun K_2 hK_2 => ?_)
 refine q_mv ((pm rfl).trans t0) ?_
 refine q_v 8 (.int .u64 ((p : Nat) : Int)) (o_convU rfl (pe hs rfl rfl) ⟨.int .i64, fun _ => by kernel_rfl⟩ (fun _ => by kernel_rfl) hp) ?_
 refine q_v 9 (.int .u64 ((P : Nat) : Int)) (o_eq (o_rem (m := p) (n := 1000) rfl (pe hs rfl rfl) rfl (by omega) (by rw [IntKind.wrap_u64]; omega)) (by rw [hP])) ?_
 refine q_v 10 (.int .i64 ((P : Nat) : Int)) (o_conv (m := P) (r := P) rfl (pe hs rfl rfl) ⟨.int .u64, fun _ => by kernel_rfl⟩ (fun _ => by kernel_rfl) (IntWalk.i64_in _ (by omega))) ?_
 refine q_mv ((pm rfl).trans t1) ?_
 refine q_v 12 (.int .u64 ((q : Nat) : Int)) (o_convU rfl (pe hs rfl rfl) ⟨.int .i64, fun _ => by kernel_rfl⟩ (fun _ => by kernel_rfl) hq) ?_
 refine q_v 13 (.int .u64 ((Q : Nat) : Int)) (o_eq (o_rem (m := q) (n := 300) rfl (pe hs rfl rfl) rfl (by omega) (by rw [IntKind.wrap_u64]; omega)) (by rw [hQ])) ?_
 refine q_v 14 (.int .i64 ((Q : Nat) : Int)) (o_conv (m := Q) (r := Q) rfl (pe hs rfl rfl) ⟨.int .u64, fun _ => by kernel_rfl⟩ (fun _ => by kernel_rfl) (IntWalk.i64_in _ (by omega))) ?_
 refine q_at (pe hs rfl rfl) ?_
 refine q_at (pe hs rfl rfl) ?_
 refine x_nil (hK_2 _ _ ?_)
 refine w2_sr (fun K_3 hK_3 => ?_)
 refine q_ca (vs := #[]) Tryz.func7 (args0) (made_any _) (fun e_1 w_1 hR_1 => ?_)
 obtain ⟨M_1, g_1, rfl, hC_1, hge_1, hb_1⟩ := hR_1
 refine ⟨_, rfl, ?_⟩
 refine q_at (pe hs rfl rfl) ?_
 refine x_nil (hK_3 _ _ ?_)
 refine w2_seq (fun K_4 hK_4 => ?_)
 refine w2_sr (fun K_5 hK_5 => ?_)
 refine q_mv (pe hs rfl rfl) ?_
 refine q_v 17 (.bool (false)) (o_nil (b := false) rfl (pe hs rfl rfl) rfl rfl ⟨58, fun _ => by kernel_rfl⟩) ?_
 refine q_mv (pe hs rfl rfl) ?_
 refine op_valG (e := 18) (d := 19) (v := .pointer (some ⟨g_1, 0, none⟩)) rfl rfl (by kernel_rfl) (pe hs rfl rfl) (o_move rfl (pe hs rfl rfl)) ?_
 refine op_valG (e := 18) (d := 20) (v := .int .i64 ((P : Nat) : Int)) rfl rfl (by kernel_rfl) (pe hs rfl rfl) (o_move rfl (pe hs rfl rfl)) ?_
 refine op_callG (e := 18) (vs := #[.pointer (some ⟨g_1, 0, none⟩), .slice none (0) (0), .int .i64 ((P : Nat) : Int)]) rfl rfl (by kernel_rfl) (pe hs rfl rfl) (exec_call Tryz.func8 (by kernel_rfl) (by kernel_rfl) _ rfl _ _ (args3 (pe hs rfl rfl) rfl (pe hs rfl rfl))) (Dial_ok _ hC_1 okP (Bs.nil _) rfl (by omega) (key_good (by decide)) (pubL_num _)) (fun e_2 w_2 hR_2 => ?_)
 have hge_2_l := hC_1.lt
 obtain ⟨ge__1, ce_1, D_1, d_1, rfl, hge_2, hE_1, hO_1, hC_2, hX_1⟩ := hR_2
 have hne_1 : ¬ M_1 ge__1 := fun h => absurd (hge_2_l _ h) (Nat.not_lt.2 hge_2)
 have sp_1 : Sep (blkA D_1) M_1 := fun j hj h => absurd (hge_2_l _ h) (Nat.not_lt.2 (hO_1.ge' j hj))
 replace hO_1 := hO_1.mono hb_1.size
 have hl_1 : ([0, 1] ++ (pubL (shaL (([] : List Nat))) ++ outS (firstS (shaL nameS) (shaL (shaL (shaL nameS ++ [0, 1]) ++ (pubL (padTo 32 [7])))) (padTo 32 [1]) (pubL (shaL (([] : List Nat)))) (dhL (shaL (([] : List Nat))) (secN (padTo 32 [7])))) (numZ (((P : Nat) : Int)) 8))).length = 58 := data_len _ _ (numZ_length _ _)
 have HB_1 := hX_1.below hb_1 hb_1.size hge_1
 refine ⟨_, rfl, ?_⟩
 refine op_valG (e := 18) (d := 22) (v := .int .i64 ((1 : Nat) : Int)) rfl rfl (by kernel_rfl) (pe hs rfl rfl) (o_lenE rfl (pe hs rfl rfl)) ?_
 refine op_valG (e := 18) (d := 23) (v := .bool (false)) rfl rfl (by kernel_rfl) (pe hs rfl rfl) (o_eq (o_neq (m := 1) (n := 1) rfl (pe hs rfl rfl) rfl) rfl) ?_
 refine q_v 24 (.bool (false)) (o_pickF rfl (pe hs rfl rfl) (pe hs rfl rfl)) ?_
 refine x_nil (hK_5 _ _ ?_)
 refine w2_condF (pe hs rfl rfl) ?_
 refine w2_skip ?_
 refine hK_4 _ _ ?_
 refine w2_sr (fun K_6 hK_6 => ?_)
 refine q_mv (pe hs rfl rfl) ?_
 refine q_mv (pe hs rfl rfl) ?_
 refine q_mv (pe hs rfl rfl) ?_
 refine q_v 28 (.int .i64 ((P + Q : Nat) : Int)) (o_add64 (m := P) (n := Q) rfl (pe hs rfl rfl) (pe hs rfl rfl) (by omega)) ?_
 refine q_ca (vs := #[.pointer (some ⟨g_1, 0, none⟩), .int .i64 ((P + Q : Nat) : Int)]) Tryz.func10 (args2 (pe hs rfl rfl) (pe hs rfl rfl)) (Tick_end _ hC_2 okN okP hw) (fun e_3 w_3 hR_3 => ?_)
 have hge_3_l := hC_2.lt
 obtain ⟨ge__2, ce_2, rfl, hge_3, hE_2, hC_3, hX_2⟩ := hR_3
 have hne_2 : ¬ M_1 ge__2 := fun h => absurd (hge_3_l _ h) (Nat.not_lt.2 hge_3)
 replace hE_1 := hE_1.keepX hX_2 hne_1
 replace hO_1 := hO_1.keepM hX_2 (sp_1)
 have HB_2 := hX_2.below HB_1 HB_1.size hge_1
 refine ⟨_, rfl, ?_⟩
 refine q_at (pe hs rfl rfl) ?_
 refine x_nil (hK_6 _ _ ?_)
 refine w2_seq (fun K_7 hK_7 => ?_)
 refine w2_sr (fun K_8 hK_8 => ?_)
 refine q_mv (pe hs rfl rfl) ?_
 refine q_v 31 (.bool (false)) (o_eq (o_lss (m := Q) (n := 100) rfl (pe hs rfl rfl) rfl) (by rw [decide_eq_false (by omega)])) ?_
 refine x_nil (hK_8 _ _ ?_)
 refine w2_condF (pe hs rfl rfl) ?_
 refine w2_skip ?_
 refine hK_7 _ _ ?_
 refine w2_sr (fun K_9 hK_9 => ?_)
 refine q_mv (pe hs rfl rfl) ?_
 refine q_v 46 (.int .i64 ((1 : Nat) : Int)) (o_lenE rfl (pe hs rfl rfl)) ?_
 refine q_v 47 (.bool (true)) (o_eq (o_eql (m := 1) (n := 1) rfl (pe hs rfl rfl) rfl) rfl) ?_
 refine q_mv (pe hs rfl rfl) ?_
 refine op_valG (e := 48) (d := 49) (v := .slice ((some ⟨ge__2, 0, none⟩)) (1) (ce_2)) rfl rfl (by kernel_rfl) (pe hs rfl rfl) (o_move rfl (pe hs rfl rfl)) ?_
 refine op_valG (e := 48) (d := 50) (v := .pointer (some ⟨ge__2, 0, none⟩)) rfl rfl (by kernel_rfl) (pe hs rfl rfl) (o_ixE rfl (pe hs rfl rfl) rfl (by decide)) ?_
 refine op_valG (e := 48) (d := 51) (v := .pointer (some ⟨ge__2, 0, none⟩)) rfl rfl (by kernel_rfl) (pe hs rfl rfl) (o_field (k' := 0) rfl (pe hs rfl rfl) (fun _ => by kernel_rfl)) ?_
 refine op_valG (e := 48) (d := 52) (v := .int .i64 ((2 : Nat) : Int)) rfl rfl (by kernel_rfl) (pe hs rfl rfl) (o_ldE0 rfl (pe hs rfl rfl) hE_2 ⟨by kernel_rfl, by kernel_rfl⟩) ?_
 refine op_valG (e := 48) (d := 53) (v := .bool (true)) rfl rfl (by kernel_rfl) (pe hs rfl rfl) (o_eq (o_eql (m := 2) (n := 2) rfl (pe hs rfl rfl) rfl) rfl) ?_
 refine q_v 54 (.bool (true)) (o_pickT rfl (pe hs rfl rfl) (pe hs rfl rfl)) ?_
 refine q_mv (pe hs rfl rfl) ?_
 refine op_valG (e := 55) (d := 56) (v := .pointer (some ⟨g_1, 0, none⟩)) rfl rfl (by kernel_rfl) (pe hs rfl rfl) (o_move rfl (pe hs rfl rfl)) ?_
 refine op_valG (e := 55) (d := 57) (v := .int .i64 ((P : Nat) : Int)) rfl rfl (by kernel_rfl) (pe hs rfl rfl) (o_move rfl (pe hs rfl rfl)) ?_
 refine op_callG (e := 55) (vs := #[.pointer (some ⟨g_1, 0, none⟩), .slice none (0) (0), .int .i64 ((P : Nat) : Int)]) rfl rfl (by kernel_rfl) (pe hs rfl rfl) (exec_call Tryz.func8 (by kernel_rfl) (by kernel_rfl) _ rfl _ _ (args3 (pe hs rfl rfl) rfl (pe hs rfl rfl))) (Dial_ok _ hC_3 okP (Bs.nil _) rfl (by omega) (key_good (by decide)) (pubL_num _)) (fun e_4 w_4 hR_4 => ?_)
 have hge_4_l := hC_3.lt
 obtain ⟨ge__3, ce_3, D_2, d_2, rfl, hge_4, hE_3, hO_2, hC_4, hX_3⟩ := hR_4
 have hne_3 : ¬ M_1 ge__3 := fun h => absurd (hge_4_l _ h) (Nat.not_lt.2 hge_4)
 replace hO_2 := hO_2.mono HB_2.size
 have hl_2 : ([0, 1] ++ (pubL (shaL (([] : List Nat))) ++ outS (firstS (shaL nameS) (shaL (shaL (shaL nameS ++ [0, 1]) ++ (pubL (padTo 32 [7])))) (padTo 32 [1]) (pubL (shaL (([] : List Nat)))) (dhL (shaL (([] : List Nat))) (secN (padTo 32 [7])))) (numZ (((P : Nat) : Int)) 8))).length = 58 := data_len _ _ (numZ_length _ _)
 replace hE_1 := hE_1.keepX hX_3 hne_1
 replace hO_1 := hO_1.keepM hX_3 (sp_1)
 replace hE_2 := hE_2.keepX hX_3 hne_2
 have HB_3 := hX_3.below HB_2 HB_2.size hge_1
 refine ⟨_, rfl, ?_⟩
 refine op_valG (e := 55) (d := 59) (v := .int .i64 ((1 : Nat) : Int)) rfl rfl (by kernel_rfl) (pe hs rfl rfl) (o_lenE rfl (pe hs rfl rfl)) ?_
 refine op_valG (e := 55) (d := 60) (v := .bool (true)) rfl rfl (by kernel_rfl) (pe hs rfl rfl) (o_eq (o_eql (m := 1) (n := 1) rfl (pe hs rfl rfl) rfl) rfl) ?_
 refine q_v 61 (.bool (true)) (o_pickT rfl (pe hs rfl rfl) (pe hs rfl rfl)) ?_
 refine q_mv (pe hs rfl rfl) ?_
 refine op_callG (e := 62) (vs := #[]) rfl rfl (by kernel_rfl) (pe hs rfl rfl) (exec_call Tryz.func6 (by kernel_rfl) (by kernel_rfl) _ rfl _ _ (args0)) (awake23_any _) (fun e_5 w_5 hR_5 => ?_)
 obtain ⟨rfl, hb_3⟩ := hR_5
 replace hE_1 := hE_1.nx hb_3
 replace hO_1 := hO_1.nx hb_3
 replace hE_2 := hE_2.nx hb_3
 replace hE_3 := hE_3.nx hb_3
 replace hO_2 := hO_2.nx hb_3
 have HB_4 := below_from HB_3 hb_3
 refine ⟨_, rfl, ?_⟩
 refine q_v 64 (.bool (true)) (o_pickT rfl (pe hs rfl rfl) (pe hs rfl rfl)) ?_
 refine q_at (pe hs rfl rfl) ?_
 refine x_nil (hK_9 _ _ ?_)
 refine w2_ret ?_
 refine ret1 rfl hd (pe hs rfl rfl) ?_
 exact ⟨rfl, HB_4⟩
theorem Dial_long1 {A1 A2 : Option Addr} {c1 c2 n1 n2 : Nat} {ax bx : List Nat} {n : Int} (w : World) (h1 : Bs w A1 c1 ax) (l1 : ax.length = n1) (h2 : Bs w A2 c2 bx) (l2 : bx.length = n2) (hl : 100 < n1) :
  Calls Tryz.prog 3 #[.slice A1 (n1) (c1), .slice A2 (n2) (c2), .int .i64 (n)] w fun e w' => e = .returned (.bool true) ∧ Below w.heap.size w w' := by
 refine x_enter 114 Tryz.func3 rfl rfl (fun a hs hd ha0 => ?_)
 have t0 : a.eval (.tmp 0) = .slice A1 (n1) (c1) := ha0 0 _ rfl
 clear ha0
 refine w2_sr (fun K_1 hK_1 => ?_)
 refine q_as (.bool (false)) rfl ?_
 refine x_nil (hK_1 _ _ ?_)
 refine w2_seq (fun K_2 hK_2 => ?_)
 refine w2_sr (fun K_3 hK_3 => ?_)
 refine q_mv ((pm rfl).trans t0) ?_
 refine q_v 13 (.int .i64 ((n1 : Nat) : Int)) (o_len rfl (pe hs rfl rfl)) ?_
 refine q_v 14 (.bool (true)) (o_eq (o_gtr (m := n1) (n := 100) rfl (pe hs rfl rfl) rfl) (by rw [decide_eq_true (by omega)])) ?_
 refine q_mv (pe hs rfl rfl) ?_
 refine op_left (e := 15) rfl rfl (by kernel_rfl) (pe hs rfl rfl) rfl ?_
 refine op_left (e := 15) rfl rfl (by kernel_rfl) (pe hs rfl rfl) rfl ?_
 refine op_left (e := 15) rfl rfl (by kernel_rfl) (pe hs rfl rfl) rfl ?_
 refine q_v 19 (.bool (true)) (o_pickT rfl (pe hs rfl rfl) rfl) ?_
 refine x_nil (hK_3 _ _ ?_)
 refine w2_condT (pe hs rfl rfl) ?_
 refine w2_sr (fun K_4 hK_4 => ?_)
 refine q_ca (vs := #[]) Tryz.func6 (args0) (awake23_any _) (fun e_1 w_1 hR_1 => ?_)
 obtain ⟨rfl, hb_2⟩ := hR_1
 refine ⟨_, rfl, ?_⟩
 refine q_at (pe hs rfl rfl) ?_
 refine x_nil (hK_4 _ _ ?_)
 refine w2_ret ?_
 refine thn_ret ?_
 refine ret1 rfl hd (pe hs rfl rfl) ?_
 exact ⟨rfl, hb_2⟩
theorem Dial_long2 {A1 A2 : Option Addr} {c1 c2 n1 n2 : Nat} {ax bx : List Nat} {n : Int} (w : World) (h1 : Bs w A1 c1 ax) (l1 : ax.length = n1) (h2 : Bs w A2 c2 bx) (l2 : bx.length = n2) (hk : n1 ≤ 100) (hl : 100 < n2) :
  Calls Tryz.prog 3 #[.slice A1 (n1) (c1), .slice A2 (n2) (c2), .int .i64 (n)] w fun e w' => e = .returned (.bool true) ∧ Below w.heap.size w w' := by
 refine x_enter 114 Tryz.func3 rfl rfl (fun a hs hd ha0 => ?_)
 have t0 : a.eval (.tmp 0) = .slice A1 (n1) (c1) := ha0 0 _ rfl
 have t1 : a.eval (.tmp 1) = .slice A2 (n2) (c2) := ha0 1 _ rfl
 clear ha0
 refine w2_sr (fun K_1 hK_1 => ?_)
 refine q_as (.bool (false)) rfl ?_
 refine x_nil (hK_1 _ _ ?_)
 refine w2_seq (fun K_2 hK_2 => ?_)
 refine w2_sr (fun K_3 hK_3 => ?_)
 refine q_mv ((pm rfl).trans t0) ?_
 refine q_v 13 (.int .i64 ((n1 : Nat) : Int)) (o_len rfl (pe hs rfl rfl)) ?_
 refine q_v 14 (.bool (false)) (o_eq (o_gtr (m := n1) (n := 100) rfl (pe hs rfl rfl) rfl) (by rw [decide_eq_false (by omega)])) ?_
 refine q_mv (pe hs rfl rfl) ?_
 refine op_valG (e := 15) (d := 16) (v := .slice A2 (n2) (c2)) rfl rfl (by kernel_rfl) (pe hs rfl rfl) (o_move rfl ((pm rfl).trans t1)) ?_
 refine op_valG (e := 15) (d := 17) (v := .int .i64 ((n2 : Nat) : Int)) rfl rfl (by kernel_rfl) (pe hs rfl rfl) (o_len rfl (pe hs rfl rfl)) ?_
 refine op_valG (e := 15) (d := 18) (v := .bool (true)) rfl rfl (by kernel_rfl) (pe hs rfl rfl) (o_eq (o_gtr (m := n2) (n := 100) rfl (pe hs rfl rfl) rfl) (by rw [decide_eq_true (by omega)])) ?_
 refine q_v 19 (.bool (true)) (o_pickF rfl (pe hs rfl rfl) (pe hs rfl rfl)) ?_
 refine x_nil (hK_3 _ _ ?_)
 refine w2_condT (pe hs rfl rfl) ?_
 refine w2_sr (fun K_4 hK_4 => ?_)
 refine q_ca (vs := #[]) Tryz.func6 (args0) (awake23_any _) (fun e_1 w_1 hR_1 => ?_)
 obtain ⟨rfl, hb_2⟩ := hR_1
 refine ⟨_, rfl, ?_⟩
 refine q_at (pe hs rfl rfl) ?_
 refine x_nil (hK_4 _ _ ?_)
 refine w2_ret ?_
 refine thn_ret ?_
 refine ret1 rfl hd (pe hs rfl rfl) ?_
 exact ⟨rfl, hb_2⟩
theorem Dial_lo {A1 A2 : Option Addr} {c1 c2 n1 n2 : Nat} {ax bx : List Nat} {n : Int} (w : World) (h1 : Bs w A1 c1 ax) (l1 : ax.length = n1) (h2 : Bs w A2 c2 bx) (l2 : bx.length = n2) (hk : n1 ≤ 100) (hl : n2 ≤ 100) (hh : n < ((0 : Nat) : Int)) :
  Calls Tryz.prog 3 #[.slice A1 (n1) (c1), .slice A2 (n2) (c2), .int .i64 (n)] w fun e w' => e = .returned (.bool true) ∧ Below w.heap.size w w' := by
 have hn : ¬ okT n := by unfold okT; omega
 refine x_enter 114 Tryz.func3 rfl rfl (fun a hs hd ha0 => ?_)
 have t0 : a.eval (.tmp 0) = .slice A1 (n1) (c1) := ha0 0 _ rfl
 have t1 : a.eval (.tmp 1) = .slice A2 (n2) (c2) := ha0 1 _ rfl
 have t2 : a.eval (.tmp 2) = .int .i64 (n) := ha0 2 _ rfl
 clear ha0
 refine w2_sr (fun K_1 hK_1 => ?_)
 refine q_as (.bool (false)) rfl ?_
 refine x_nil (hK_1 _ _ ?_)
 refine w2_seq (fun K_2 hK_2 => ?_)
 refine w2_sr (fun K_3 hK_3 => ?_)
 refine q_mv ((pm rfl).trans t0) ?_
 refine q_v 13 (.int .i64 ((n1 : Nat) : Int)) (o_len rfl (pe hs rfl rfl)) ?_
 refine q_v 14 (.bool (false)) (o_eq (o_gtr (m := n1) (n := 100) rfl (pe hs rfl rfl) rfl) (by rw [decide_eq_false (by omega)])) ?_
 refine q_mv (pe hs rfl rfl) ?_
 refine op_valG (e := 15) (d := 16) (v := .slice A2 (n2) (c2)) rfl rfl (by kernel_rfl) (pe hs rfl rfl) (o_move rfl ((pm rfl).trans t1)) ?_
 refine op_valG (e := 15) (d := 17) (v := .int .i64 ((n2 : Nat) : Int)) rfl rfl (by kernel_rfl) (pe hs rfl rfl) (o_len rfl (pe hs rfl rfl)) ?_
 refine op_valG (e := 15) (d := 18) (v := .bool (false)) rfl rfl (by kernel_rfl) (pe hs rfl rfl) (o_eq (o_gtr (m := n2) (n := 100) rfl (pe hs rfl rfl) rfl) (by rw [decide_eq_false (by omega)])) ?_
 refine q_v 19 (.bool (false)) (o_pickF rfl (pe hs rfl rfl) (pe hs rfl rfl)) ?_
 refine x_nil (hK_3 _ _ ?_)
 refine w2_condF (pe hs rfl rfl) ?_
 refine w2_skip ?_
 refine hK_2 _ _ ?_
 refine w2_sr (fun K_4 hK_4 => ?_)
 refine q_ca (vs := #[]) Tryz.func7 (args0) (made_any _) (fun e_1 w_1 hR_1 => ?_)
 obtain ⟨M_1, g_1, rfl, hC_1, hge_1, hb_1⟩ := hR_1
 refine ⟨_, rfl, ?_⟩
 refine q_at (pe hs rfl rfl) ?_
 refine x_nil (hK_4 _ _ ?_)
 refine w2_seq (fun K_5 hK_5 => ?_)
 refine w2_sr (fun K_6 hK_6 => ?_)
 refine q_mv (pe hs rfl rfl) ?_
 refine q_v 23 (.bool (false)) (o_nil (b := false) rfl (pe hs rfl rfl) rfl rfl ⟨58, fun _ => by kernel_rfl⟩) ?_
 refine x_nil (hK_6 _ _ ?_)
 refine w2_condF (pe hs rfl rfl) ?_
 refine w2_skip ?_
 refine hK_5 _ _ ?_
 refine w2_sr (fun K_7 hK_7 => ?_)
 refine q_mv (pe hs rfl rfl) ?_
 refine q_mv ((pm rfl).trans t0) ?_
 refine q_mv ((pm rfl).trans t2) ?_
 refine q_ca (vs := #[.pointer (some ⟨g_1, 0, none⟩), .slice A1 (n1) (c1), .int .i64 (n)]) Tryz.func8 (args3 (pe hs rfl rfl) (pe hs rfl rfl) (pe hs rfl rfl)) (Dial_bad (key := []) _ hC_1 hn) (fun e_2 w_2 hR_2 => ?_)
 obtain ⟨rfl, hb_3⟩ := hR_2
 have HB_1 := below_from hb_1 hb_3
 refine ⟨_, rfl, ?_⟩
 refine q_at (pe hs rfl rfl) ?_
 refine x_nil (hK_7 _ _ ?_)
 refine w2_seq (fun K_8 hK_8 => ?_)
 refine w2_sr (fun K_9 hK_9 => ?_)
 refine q_mv ((pm rfl).trans t2) ?_
 refine q_v 29 (.bool (true)) (o_eq (o_lssZZ (m := n) (n := ((0 : Nat) : Int)) rfl (pe hs rfl rfl) rfl) (by rw [decide_eq_true (by omega)])) ?_
 refine q_mv (pe hs rfl rfl) ?_
 refine op_left (e := 30) rfl rfl (by kernel_rfl) (pe hs rfl rfl) rfl ?_
 refine op_left (e := 30) rfl rfl (by kernel_rfl) (pe hs rfl rfl) rfl ?_
 refine q_v 33 (.bool (true)) (o_pickT rfl (pe hs rfl rfl) rfl) ?_
 refine x_nil (hK_9 _ _ ?_)
 refine w2_condT (pe hs rfl rfl) ?_
 refine w2_sr (fun K_10 hK_10 => ?_)
 refine q_mv (pe hs rfl rfl) ?_
 refine q_v 35 (.int .i64 ((0 : Nat) : Int)) (o_lenE rfl (pe hs rfl rfl)) ?_
 refine q_v 36 (.bool (true)) (o_eq (o_eql (m := 0) (n := 0) rfl (pe hs rfl rfl) rfl) rfl) ?_
 refine q_mv (pe hs rfl rfl) ?_
 refine op_callG (e := 37) (vs := #[]) rfl rfl (by kernel_rfl) (pe hs rfl rfl) (exec_call Tryz.func6 (by kernel_rfl) (by kernel_rfl) _ rfl _ _ (args0)) (awake23_any _) (fun e_3 w_3 hR_3 => ?_)
 obtain ⟨rfl, hb_5⟩ := hR_3
 have HB_2 := below_from HB_1 hb_5
 refine ⟨_, rfl, ?_⟩
 refine q_v 39 (.bool (true)) (o_pickT rfl (pe hs rfl rfl) (pe hs rfl rfl)) ?_
 refine q_at (pe hs rfl rfl) ?_
 refine x_nil (hK_10 _ _ ?_)
 refine w2_ret ?_
 refine thn_ret ?_
 refine ret1 rfl hd (pe hs rfl rfl) ?_
 exact ⟨rfl, HB_2⟩
theorem Dial_hi {A1 A2 : Option Addr} {c1 c2 n1 n2 : Nat} {ax bx : List Nat} {n : Int} (w : World) (h1 : Bs w A1 c1 ax) (l1 : ax.length = n1) (h2 : Bs w A2 c2 bx) (l2 : bx.length = n2) (hk : n1 ≤ 100) (hl : n2 ≤ 100) (hh : ((1099511627776 : Nat) : Int) < n) :
  Calls Tryz.prog 3 #[.slice A1 (n1) (c1), .slice A2 (n2) (c2), .int .i64 (n)] w fun e w' => e = .returned (.bool true) ∧ Below w.heap.size w w' := by
 have hn : ¬ okT n := by unfold okT; omega
 refine x_enter 114 Tryz.func3 rfl rfl (fun a hs hd ha0 => ?_)
 have t0 : a.eval (.tmp 0) = .slice A1 (n1) (c1) := ha0 0 _ rfl
 have t1 : a.eval (.tmp 1) = .slice A2 (n2) (c2) := ha0 1 _ rfl
 have t2 : a.eval (.tmp 2) = .int .i64 (n) := ha0 2 _ rfl
 clear ha0
 refine w2_sr (fun K_1 hK_1 => ?_)
 refine q_as (.bool (false)) rfl ?_
 refine x_nil (hK_1 _ _ ?_)
 refine w2_seq (fun K_2 hK_2 => ?_)
 refine w2_sr (fun K_3 hK_3 => ?_)
 refine q_mv ((pm rfl).trans t0) ?_
 refine q_v 13 (.int .i64 ((n1 : Nat) : Int)) (o_len rfl (pe hs rfl rfl)) ?_
 refine q_v 14 (.bool (false)) (o_eq (o_gtr (m := n1) (n := 100) rfl (pe hs rfl rfl) rfl) (by rw [decide_eq_false (by omega)])) ?_
 refine q_mv (pe hs rfl rfl) ?_
 refine op_valG (e := 15) (d := 16) (v := .slice A2 (n2) (c2)) rfl rfl (by kernel_rfl) (pe hs rfl rfl) (o_move rfl ((pm rfl).trans t1)) ?_
 refine op_valG (e := 15) (d := 17) (v := .int .i64 ((n2 : Nat) : Int)) rfl rfl (by kernel_rfl) (pe hs rfl rfl) (o_len rfl (pe hs rfl rfl)) ?_
 refine op_valG (e := 15) (d := 18) (v := .bool (false)) rfl rfl (by kernel_rfl) (pe hs rfl rfl) (o_eq (o_gtr (m := n2) (n := 100) rfl (pe hs rfl rfl) rfl) (by rw [decide_eq_false (by omega)])) ?_
 refine q_v 19 (.bool (false)) (o_pickF rfl (pe hs rfl rfl) (pe hs rfl rfl)) ?_
 refine x_nil (hK_3 _ _ ?_)
 refine w2_condF (pe hs rfl rfl) ?_
 refine w2_skip ?_
 refine hK_2 _ _ ?_
 refine w2_sr (fun K_4 hK_4 => ?_)
 refine q_ca (vs := #[]) Tryz.func7 (args0) (made_any _) (fun e_1 w_1 hR_1 => ?_)
 obtain ⟨M_1, g_1, rfl, hC_1, hge_1, hb_1⟩ := hR_1
 refine ⟨_, rfl, ?_⟩
 refine q_at (pe hs rfl rfl) ?_
 refine x_nil (hK_4 _ _ ?_)
 refine w2_seq (fun K_5 hK_5 => ?_)
 refine w2_sr (fun K_6 hK_6 => ?_)
 refine q_mv (pe hs rfl rfl) ?_
 refine q_v 23 (.bool (false)) (o_nil (b := false) rfl (pe hs rfl rfl) rfl rfl ⟨58, fun _ => by kernel_rfl⟩) ?_
 refine x_nil (hK_6 _ _ ?_)
 refine w2_condF (pe hs rfl rfl) ?_
 refine w2_skip ?_
 refine hK_5 _ _ ?_
 refine w2_sr (fun K_7 hK_7 => ?_)
 refine q_mv (pe hs rfl rfl) ?_
 refine q_mv ((pm rfl).trans t0) ?_
 refine q_mv ((pm rfl).trans t2) ?_
 refine q_ca (vs := #[.pointer (some ⟨g_1, 0, none⟩), .slice A1 (n1) (c1), .int .i64 (n)]) Tryz.func8 (args3 (pe hs rfl rfl) (pe hs rfl rfl) (pe hs rfl rfl)) (Dial_bad (key := []) _ hC_1 hn) (fun e_2 w_2 hR_2 => ?_)
 obtain ⟨rfl, hb_3⟩ := hR_2
 have HB_1 := below_from hb_1 hb_3
 refine ⟨_, rfl, ?_⟩
 refine q_at (pe hs rfl rfl) ?_
 refine x_nil (hK_7 _ _ ?_)
 refine w2_seq (fun K_8 hK_8 => ?_)
 refine w2_sr (fun K_9 hK_9 => ?_)
 refine q_mv ((pm rfl).trans t2) ?_
 refine q_v 29 (.bool (false)) (o_eq (o_lssZZ (m := n) (n := ((0 : Nat) : Int)) rfl (pe hs rfl rfl) rfl) (by rw [decide_eq_false (by omega)])) ?_
 refine q_mv (pe hs rfl rfl) ?_
 refine op_valG (e := 30) (d := 31) (v := .int .i64 (n)) rfl rfl (by kernel_rfl) (pe hs rfl rfl) (o_move rfl ((pm rfl).trans t2)) ?_
 refine op_valG (e := 30) (d := 32) (v := .bool (true)) rfl rfl (by kernel_rfl) (pe hs rfl rfl) (o_eq (o_gtrZZ (m := n) (n := ((1099511627776 : Nat) : Int)) rfl (pe hs rfl rfl) rfl) (by rw [decide_eq_true (by omega)])) ?_
 refine q_v 33 (.bool (true)) (o_pickF rfl (pe hs rfl rfl) (pe hs rfl rfl)) ?_
 refine x_nil (hK_9 _ _ ?_)
 refine w2_condT (pe hs rfl rfl) ?_
 refine w2_sr (fun K_10 hK_10 => ?_)
 refine q_mv (pe hs rfl rfl) ?_
 refine q_v 35 (.int .i64 ((0 : Nat) : Int)) (o_lenE rfl (pe hs rfl rfl)) ?_
 refine q_v 36 (.bool (true)) (o_eq (o_eql (m := 0) (n := 0) rfl (pe hs rfl rfl) rfl) rfl) ?_
 refine q_mv (pe hs rfl rfl) ?_
 refine op_callG (e := 37) (vs := #[]) rfl rfl (by kernel_rfl) (pe hs rfl rfl) (exec_call Tryz.func6 (by kernel_rfl) (by kernel_rfl) _ rfl _ _ (args0)) (awake23_any _) (fun e_3 w_3 hR_3 => ?_)
 obtain ⟨rfl, hb_5⟩ := hR_3
 have HB_2 := below_from HB_1 hb_5
 refine ⟨_, rfl, ?_⟩
 refine q_v 39 (.bool (true)) (o_pickT rfl (pe hs rfl rfl) (pe hs rfl rfl)) ?_
 refine q_at (pe hs rfl rfl) ?_
 refine x_nil (hK_10 _ _ ?_)
 refine w2_ret ?_
 refine thn_ret ?_
 refine ret1 rfl hd (pe hs rfl rfl) ?_
 exact ⟨rfl, HB_2⟩
set_option maxHeartbeats 1000000 in
theorem Dial_same {A1 A2 : Option Addr} {c1 c2 n1 n2 : Nat} {ax : List Nat} {n : Int} (w : World) (h1 : Bs w A1 c1 ax) (l1 : ax.length = n1) (h2 : Bs w A2 c2 ax) (l2 : ax.length = n2) (hk : n1 ≤ 100) (hl : n2 ≤ 100) (hn : okT n) :
  Calls Tryz.prog 3 #[.slice A1 (n1) (c1), .slice A2 (n2) (c2), .int .i64 (n)] w fun e w' => e = .returned (.bool true) ∧ Below w.heap.size w w' := by
 have hn2 := hn
 unfold okT at hn2
 refine x_enter 114 Tryz.func3 rfl rfl (fun a hs hd ha0 => ?_)
 have t0 : a.eval (.tmp 0) = .slice A1 (n1) (c1) := ha0 0 _ rfl
 have t1 : a.eval (.tmp 1) = .slice A2 (n2) (c2) := ha0 1 _ rfl
 have t2 : a.eval (.tmp 2) = .int .i64 (n) := ha0 2 _ rfl
 clear ha0
 refine w2_sr (fun K_1 hK_1 => ?_)
 refine q_as (.bool (false)) rfl ?_
 refine x_nil (hK_1 _ _ ?_)
 refine w2_seq (fun K_2 hK_2 => ?_)
 refine w2_sr (fun K_3 hK_3 => ?_)
 refine q_mv ((pm rfl).trans t0) ?_
 refine q_v 13 (.int .i64 ((n1 : Nat) : Int)) (o_len rfl (pe hs rfl rfl)) ?_
 refine q_v 14 (.bool (false)) (o_eq (o_gtr (m := n1) (n := 100) rfl (pe hs rfl rfl) rfl) (by rw [decide_eq_false (by omega)])) ?_
 refine q_mv (pe hs rfl rfl) ?_
 refine op_valG (e := 15) (d := 16) (v := .slice A2 (n2) (c2)) rfl rfl (by kernel_rfl) (pe hs rfl rfl) (o_move rfl ((pm rfl).trans t1)) ?_
 refine op_valG (e := 15) (d := 17) (v := .int .i64 ((n2 : Nat) : Int)) rfl rfl (by kernel_rfl) (pe hs rfl rfl) (o_len rfl (pe hs rfl rfl)) ?_
 refine op_valG (e := 15) (d := 18) (v := .bool (false)) rfl rfl (by kernel_rfl) (pe hs rfl rfl) (o_eq (o_gtr (m := n2) (n := 100) rfl (pe hs rfl rfl) rfl) (by rw [decide_eq_false (by omega)])) ?_
 refine q_v 19 (.bool (false)) (o_pickF rfl (pe hs rfl rfl) (pe hs rfl rfl)) ?_
 refine x_nil (hK_3 _ _ ?_)
 refine w2_condF (pe hs rfl rfl) ?_
 refine w2_skip ?_
 refine hK_2 _ _ ?_
 refine w2_sr (fun K_4 hK_4 => ?_)
 refine q_ca (vs := #[]) Tryz.func7 (args0) (made_any _) (fun e_1 w_1 hR_1 => ?_)
 obtain ⟨M_1, g_1, rfl, hC_1, hge_1, hb_1⟩ := hR_1
 refine ⟨_, rfl, ?_⟩
 refine q_at (pe hs rfl rfl) ?_
 refine x_nil (hK_4 _ _ ?_)
 refine w2_seq (fun K_5 hK_5 => ?_)
 refine w2_sr (fun K_6 hK_6 => ?_)
 refine q_mv (pe hs rfl rfl) ?_
 refine q_v 23 (.bool (false)) (o_nil (b := false) rfl (pe hs rfl rfl) rfl rfl ⟨58, fun _ => by kernel_rfl⟩) ?_
 refine x_nil (hK_6 _ _ ?_)
 refine w2_condF (pe hs rfl rfl) ?_
 refine w2_skip ?_
 refine hK_5 _ _ ?_
 refine w2_sr (fun K_7 hK_7 => ?_)
 refine q_mv (pe hs rfl rfl) ?_
 refine q_mv ((pm rfl).trans t0) ?_
 refine q_mv ((pm rfl).trans t2) ?_
 refine q_ca (vs := #[.pointer (some ⟨g_1, 0, none⟩), .slice A1 (n1) (c1), .int .i64 (n)]) Tryz.func8 (args3 (pe hs rfl rfl) (pe hs rfl rfl) (pe hs rfl rfl)) (Dial_ok _ hC_1 hn (h1.below hb_1) (by simp only [l1]) (by omega) (key_good (by decide)) (pubL_num _)) (fun e_2 w_2 hR_2 => ?_)
 have hge_2_l := hC_1.lt
 obtain ⟨ge__1, ce_1, D_1, d_1, rfl, hge_2, hE_1, hO_1, hC_2, hX_1⟩ := hR_2
 have hne_1 : ¬ M_1 ge__1 := fun h => absurd (hge_2_l _ h) (Nat.not_lt.2 hge_2)
 have sp_1 : Sep (blkA D_1) M_1 := fun j hj h => absurd (hge_2_l _ h) (Nat.not_lt.2 (hO_1.ge' j hj))
 replace hO_1 := hO_1.mono hb_1.size
 have hl_1 : ([0, 1] ++ (pubL (shaL ax) ++ outS (firstS (shaL nameS) (shaL (shaL (shaL nameS ++ [0, 1]) ++ (pubL (padTo 32 [7])))) (padTo 32 [1]) (pubL (shaL ax)) (dhL (shaL ax) (secN (padTo 32 [7])))) (numZ (n) 8))).length = 58 := data_len _ _ (numZ_length _ _)
 have HB_1 := hX_1.below hb_1 hb_1.size hge_1
 refine ⟨_, rfl, ?_⟩
 refine q_at (pe hs rfl rfl) ?_
 refine x_nil (hK_7 _ _ ?_)
 refine w2_seq (fun K_8 hK_8 => ?_)
 refine w2_sr (fun K_9 hK_9 => ?_)
 refine q_mv ((pm rfl).trans t2) ?_
 refine q_v 29 (.bool (false)) (o_eq (o_lssZZ (m := n) (n := ((0 : Nat) : Int)) rfl (pe hs rfl rfl) rfl) (by rw [decide_eq_false (by omega)])) ?_
 refine q_mv (pe hs rfl rfl) ?_
 refine op_valG (e := 30) (d := 31) (v := .int .i64 (n)) rfl rfl (by kernel_rfl) (pe hs rfl rfl) (o_move rfl ((pm rfl).trans t2)) ?_
 refine op_valG (e := 30) (d := 32) (v := .bool (false)) rfl rfl (by kernel_rfl) (pe hs rfl rfl) (o_eq (o_gtrZZ (m := n) (n := ((1099511627776 : Nat) : Int)) rfl (pe hs rfl rfl) rfl) (by rw [decide_eq_false (by omega)])) ?_
 refine q_v 33 (.bool (false)) (o_pickF rfl (pe hs rfl rfl) (pe hs rfl rfl)) ?_
 refine x_nil (hK_9 _ _ ?_)
 refine w2_condF (pe hs rfl rfl) ?_
 refine w2_skip ?_
 refine hK_8 _ _ ?_
 refine w2_sr (fun K_10 hK_10 => ?_)
 refine q_mv (pe hs rfl rfl) ?_
 refine q_mv ((pm rfl).trans t1) ?_
 refine q_mv ((pm rfl).trans t2) ?_
 refine q_ca (vs := #[.pointer (some ⟨g_1, 0, none⟩), .slice A2 (n2) (c2), .int .i64 (n)]) Tryz.func8 (args3 (pe hs rfl rfl) (pe hs rfl rfl) (pe hs rfl rfl)) (Dial_up (key := []) _ hC_2) (fun e_3 w_3 hR_3 => ?_)
 obtain ⟨rfl, hb_3⟩ := hR_3
 replace hC_2 := hC_2.nx hb_3
 replace hE_1 := hE_1.nx hb_3
 replace hO_1 := hO_1.nx hb_3
 have HB_2 := below_from HB_1 hb_3
 refine ⟨_, rfl, ?_⟩
 refine q_at (pe hs rfl rfl) ?_
 refine x_nil (hK_10 _ _ ?_)
 refine w2_sr (fun K_11 hK_11 => ?_)
 refine q_mv (pe hs rfl rfl) ?_
 refine q_ca (vs := #[.pointer (some ⟨g_1, 0, none⟩)]) Tryz.func9 (args1 (pe hs rfl rfl)) (LineCut_1 _ hC_2) (fun e_4 w_4 hR_4 => ?_)
 obtain ⟨rfl, hC_3, hX_2⟩ := hR_4
 replace hE_1 := hE_1.keepX hX_2 hne_1
 replace hO_1 := hO_1.keepM hX_2 (sp_1)
 have HB_3 := hX_2.below HB_2 HB_2.size hge_1
 refine ⟨_, rfl, ?_⟩
 refine q_at (pe hs rfl rfl) ?_
 refine x_nil (hK_11 _ _ ?_)
 refine w2_sr (fun K_12 hK_12 => ?_)
 refine q_mv (pe hs rfl rfl) ?_
 refine q_mv ((pm rfl).trans t1) ?_
 refine q_mv ((pm rfl).trans t2) ?_
 refine q_ca (vs := #[.pointer (some ⟨g_1, 0, none⟩), .slice A2 (n2) (c2), .int .i64 (n)]) Tryz.func8 (args3 (pe hs rfl rfl) (pe hs rfl rfl) (pe hs rfl rfl)) (Dial_ok _ hC_3 hn (h2.below HB_3) (by simp only [l2]) (by omega) (key_good (by decide)) (pubL_num _)) (fun e_5 w_5 hR_5 => ?_)
 have hge_3_l := hC_3.lt
 obtain ⟨ge__2, ce_2, D_2, d_2, rfl, hge_3, hE_2, hO_2, hC_4, hX_3⟩ := hR_5
 have hne_2 : ¬ M_1 ge__2 := fun h => absurd (hge_3_l _ h) (Nat.not_lt.2 hge_3)
 replace hO_2 := hO_2.mono HB_3.size
 have hl_2 : ([0, 1] ++ (pubL (shaL ax) ++ outS (firstS (shaL nameS) (shaL (shaL (shaL nameS ++ [0, 1]) ++ (pubL (padTo 32 [7])))) (padTo 32 [1]) (pubL (shaL ax)) (dhL (shaL ax) (secN (padTo 32 [7])))) (numZ (n) 8))).length = 58 := data_len _ _ (numZ_length _ _)
 replace hE_1 := hE_1.keepX hX_3 hne_1
 replace hO_1 := hO_1.keepM hX_3 (sp_1)
 have HB_4 := hX_3.below HB_3 HB_3.size hge_1
 refine ⟨_, rfl, ?_⟩
 refine q_at (pe hs rfl rfl) ?_
 refine x_nil (hK_12 _ _ ?_)
 refine w2_seq (fun K_13 hK_13 => ?_)
 refine w2_sr (fun K_14 hK_14 => ?_)
 refine q_mv (pe hs rfl rfl) ?_
 refine q_v 51 (.int .i64 ((1 : Nat) : Int)) (o_lenE rfl (pe hs rfl rfl)) ?_
 refine q_v 52 (.bool (false)) (o_eq (o_neq (m := 1) (n := 1) rfl (pe hs rfl rfl) rfl) rfl) ?_
 refine q_mv (pe hs rfl rfl) ?_
 refine op_valG (e := 53) (d := 54) (v := .slice none (0) (0)) rfl rfl (by kernel_rfl) (pe hs rfl rfl) (o_move rfl (pe hs rfl rfl)) ?_
 refine op_valG (e := 53) (d := 55) (v := .int .i64 ((0 : Nat) : Int)) rfl rfl (by kernel_rfl) (pe hs rfl rfl) (o_lenE rfl (pe hs rfl rfl)) ?_
 refine op_valG (e := 53) (d := 56) (v := .bool (false)) rfl rfl (by kernel_rfl) (pe hs rfl rfl) (o_eq (o_neq (m := 0) (n := 0) rfl (pe hs rfl rfl) rfl) rfl) ?_
 refine q_v 57 (.bool (false)) (o_pickF rfl (pe hs rfl rfl) (pe hs rfl rfl)) ?_
 refine q_mv (pe hs rfl rfl) ?_
 refine op_valG (e := 58) (d := 59) (v := .slice none (0) (0)) rfl rfl (by kernel_rfl) (pe hs rfl rfl) (o_move rfl (pe hs rfl rfl)) ?_
 refine op_valG (e := 58) (d := 60) (v := .int .i64 ((0 : Nat) : Int)) rfl rfl (by kernel_rfl) (pe hs rfl rfl) (o_lenE rfl (pe hs rfl rfl)) ?_
 refine op_valG (e := 58) (d := 61) (v := .bool (false)) rfl rfl (by kernel_rfl) (pe hs rfl rfl) (o_eq (o_neq (m := 0) (n := 0) rfl (pe hs rfl rfl) rfl) rfl) ?_
 refine q_v 62 (.bool (false)) (o_pickF rfl (pe hs rfl rfl) (pe hs rfl rfl)) ?_
 refine q_mv (pe hs rfl rfl) ?_
 refine op_valG (e := 63) (d := 64) (v := .slice ((some ⟨ge__2, 0, none⟩)) (1) (ce_2)) rfl rfl (by kernel_rfl) (pe hs rfl rfl) (o_move rfl (pe hs rfl rfl)) ?_
 refine op_valG (e := 63) (d := 65) (v := .int .i64 ((1 : Nat) : Int)) rfl rfl (by kernel_rfl) (pe hs rfl rfl) (o_lenE rfl (pe hs rfl rfl)) ?_
 refine op_valG (e := 63) (d := 66) (v := .bool (false)) rfl rfl (by kernel_rfl) (pe hs rfl rfl) (o_eq (o_neq (m := 1) (n := 1) rfl (pe hs rfl rfl) rfl) rfl) ?_
 refine q_v 67 (.bool (false)) (o_pickF rfl (pe hs rfl rfl) (pe hs rfl rfl)) ?_
 refine q_mv (pe hs rfl rfl) ?_
 refine op_valG (e := 68) (d := 69) (v := .slice ((some ⟨ge__1, 0, none⟩)) (1) (ce_1)) rfl rfl (by kernel_rfl) (pe hs rfl rfl) (o_move rfl (pe hs rfl rfl)) ?_
 refine op_valG (e := 68) (d := 70) (v := .pointer (some ⟨ge__1, 0, none⟩)) rfl rfl (by kernel_rfl) (pe hs rfl rfl) (o_ixE rfl (pe hs rfl rfl) rfl (by decide)) ?_
 refine op_valG (e := 68) (d := 71) (v := .pointer (some ⟨ge__1, 7, none⟩)) rfl rfl (by kernel_rfl) (pe hs rfl rfl) (o_field (k' := 7) rfl (pe hs rfl rfl) (fun _ => by kernel_rfl)) ?_
 refine op_valG (e := 68) (d := 72) (v := .slice D_1 (58) (d_1)) rfl rfl (by kernel_rfl) (pe hs rfl rfl) (o_ldE7 rfl (pe hs rfl rfl) hE_1 ⟨by kernel_rfl, by kernel_rfl⟩) ?_
 refine op_valG (e := 68) (d := 73) (v := .int .i64 ((58 : Nat) : Int)) rfl rfl (by kernel_rfl) (pe hs rfl rfl) (o_len rfl (pe hs rfl rfl)) ?_
 refine op_valG (e := 68) (d := 74) (v := .bool (false)) rfl rfl (by kernel_rfl) (pe hs rfl rfl) (o_eq (o_neq (m := 58) (n := 58) rfl (pe hs rfl rfl) rfl) rfl) ?_
 refine q_v 75 (.bool (false)) (o_pickF rfl (pe hs rfl rfl) (pe hs rfl rfl)) ?_
 refine q_mv (pe hs rfl rfl) ?_
 refine op_valG (e := 76) (d := 77) (v := .slice ((some ⟨ge__2, 0, none⟩)) (1) (ce_2)) rfl rfl (by kernel_rfl) (pe hs rfl rfl) (o_move rfl (pe hs rfl rfl)) ?_
 refine op_valG (e := 76) (d := 78) (v := .pointer (some ⟨ge__2, 0, none⟩)) rfl rfl (by kernel_rfl) (pe hs rfl rfl) (o_ixE rfl (pe hs rfl rfl) rfl (by decide)) ?_
 refine op_valG (e := 76) (d := 79) (v := .pointer (some ⟨ge__2, 7, none⟩)) rfl rfl (by kernel_rfl) (pe hs rfl rfl) (o_field (k' := 7) rfl (pe hs rfl rfl) (fun _ => by kernel_rfl)) ?_
 refine op_valG (e := 76) (d := 80) (v := .slice D_2 (58) (d_2)) rfl rfl (by kernel_rfl) (pe hs rfl rfl) (o_ldE7 rfl (pe hs rfl rfl) hE_2 ⟨by kernel_rfl, by kernel_rfl⟩) ?_
 refine op_valG (e := 76) (d := 81) (v := .int .i64 ((58 : Nat) : Int)) rfl rfl (by kernel_rfl) (pe hs rfl rfl) (o_len rfl (pe hs rfl rfl)) ?_
 refine op_valG (e := 76) (d := 82) (v := .bool (false)) rfl rfl (by kernel_rfl) (pe hs rfl rfl) (o_eq (o_neq (m := 58) (n := 58) rfl (pe hs rfl rfl) rfl) rfl) ?_
 refine q_v 83 (.bool (false)) (o_pickF rfl (pe hs rfl rfl) (pe hs rfl rfl)) ?_
 refine x_nil (hK_14 _ _ ?_)
 refine w2_condF (pe hs rfl rfl) ?_
 refine w2_skip ?_
 refine hK_13 _ _ ?_
 refine w2_seq (fun K_15 hK_15 => ?_)
 have hS9 : Bs w_5 (subA D_1 0 d_1) d_1 [0, 1] := (hO_1).bs.first (n := 2) (by rw [hl_1]; omega)
 have hcap9 : 58 ≤ d_1 := by have h9 := hO_1.bs.le; rw [hl_1] at h9; exact h9
 refine x_drawn 16 [fun _ v => v = .slice A1 (n1) (c1), fun _ v => v = .string (strB ax), fun _ v => v = .slice A2 (n2) (c2), fun _ v => v = .string (strB ax), fun _ v => v = .bool (false), fun _ v => v = .bool (false), fun _ v => v = .slice ((some ⟨ge__1, 0, none⟩)) (1) (ce_1), fun _ v => v = .pointer (some ⟨ge__1, 0, none⟩), fun _ v => v = .pointer (some ⟨ge__1, 7, none⟩), fun _ v => v = .slice D_1 (58) (d_1), fun _ v => v = .string (strB ([0, 1] ++ (pubL (shaL ax) ++ outS (firstS (shaL nameS) (shaL (shaL (shaL nameS ++ [0, 1]) ++ (pubL (padTo 32 [7])))) (padTo 32 [1]) (pubL (shaL ax)) (dhL (shaL ax) (secN (padTo 32 [7])))) (numZ (n) 8)))), fun _ v => v = .slice ((some ⟨ge__2, 0, none⟩)) (1) (ce_2), fun _ v => v = .pointer (some ⟨ge__2, 0, none⟩), fun _ v => v = .pointer (some ⟨ge__2, 7, none⟩), fun _ v => v = .slice D_2 (58) (d_2), fun _ v => v = .string (strB ([0, 1] ++ (pubL (shaL ax) ++ outS (firstS (shaL nameS) (shaL (shaL (shaL nameS ++ [0, 1]) ++ (pubL (padTo 32 [7])))) (padTo 32 [1]) (pubL (shaL ax)) (dhL (shaL ax) (secN (padTo 32 [7])))) (numZ (n) 8))))] [84, 85, 86, 87, 88, 89, 90, 91, 92, 93, 94, 95, 96, 97, 98, 99] hs hd (by kernel_rfl) (by kernel_rfl) (by kernel_rfl) (by kernel_rfl) (by kernel_rfl) ⟨stLit, stLit, stLit, stLit, stLit, stLit, stLit, stLit, stLit, stLit, stLit, stLit, stLit, stLit, stLit, stLit, trivial⟩ ⟨(step_ok rfl (fun a' w' hb' hO hD => by
   have d_3 := (hO 0 (by decide)).trans ((pm rfl).trans t0)
   exact .inl ⟨_, _, (o_move rfl d_3), rfl, Below.refl _ _⟩)),
(step_ok rfl (fun a' w' hb' hO hD => by
   have d_4 : a'.eval (.tmp 84) = .slice A1 (n1) (c1) := hD 0 84 (by kernel_rfl) rfl
   exact .inl ⟨_, _, (o_str rfl d_4 (h1.below (below_from HB_4 hb')) (by simp only [l1])), rfl, Below.refl _ _⟩)),
(step_ok rfl (fun a' w' hb' hO hD => by
   have d_5 := (hO 1 (by decide)).trans ((pm rfl).trans t1)
   exact .inl ⟨_, _, (o_move rfl d_5), rfl, Below.refl _ _⟩)),
(step_ok rfl (fun a' w' hb' hO hD => by
   have d_6 : a'.eval (.tmp 86) = .slice A2 (n2) (c2) := hD 2 86 (by kernel_rfl) rfl
   exact .inl ⟨_, _, (o_str rfl d_6 (h2.below (below_from HB_4 hb')) (by simp only [l2])), rfl, Below.refl _ _⟩)),
(step_ok rfl (fun a' w' hb' hO hD => by
   have d_7 : a'.eval (.tmp 85) = .string (strB ax) := hD 1 85 (by kernel_rfl) rfl
   have d_8 : a'.eval (.tmp 87) = .string (strB ax) := hD 3 87 (by kernel_rfl) rfl
   have e0 : (.bool (!decide (strB ax = strB ax)) : Value) = .bool (false) := (by rw [decide_eq_true rfl]; rfl)
   exact .inl ⟨_, _, (o_neSD rfl d_7 d_8), e0, Below.refl _ _⟩)),
(step_ok rfl (fun a' w' hb' hO hD => by
   have d_9 : a'.eval (.tmp 88) = .bool (false) := hD 4 88 (by kernel_rfl) rfl
   exact .inl ⟨_, _, (o_move rfl d_9), rfl, Below.refl _ _⟩)),
(step_yes 5 false 89 rfl rfl (by kernel_rfl) (fun _ _ h => h) (fun a' w' hb' hO hD => by
   have d_10 : a'.eval (.tmp 8) = .slice ((some ⟨ge__1, 0, none⟩)) (1) (ce_1) := (hO 8 (by decide)).trans (pe hs rfl rfl)
   exact .inl ⟨_, _, (o_move rfl d_10), rfl, Below.refl _ _⟩)),
(step_yes 5 false 89 rfl rfl (by kernel_rfl) (fun _ _ h => h) (fun a' w' hb' hO hD => by
   have d_11 : a'.eval (.tmp 90) = .slice ((some ⟨ge__1, 0, none⟩)) (1) (ce_1) := hD 6 90 (by kernel_rfl) rfl
   exact .inl ⟨_, _, (o_ixE rfl d_11 rfl (by decide)), rfl, Below.refl _ _⟩)),
(step_yes 5 false 89 rfl rfl (by kernel_rfl) (fun _ _ h => h) (fun a' w' hb' hO hD => by
   have d_12 : a'.eval (.tmp 91) = .pointer (some ⟨ge__1, 0, none⟩) := hD 7 91 (by kernel_rfl) rfl
   exact .inl ⟨_, _, (o_field (k' := 7) rfl d_12 (fun _ => by kernel_rfl)), rfl, Below.refl _ _⟩)),
(step_yes 5 false 89 rfl rfl (by kernel_rfl) (fun _ _ h => h) (fun a' w' hb' hO hD => by
   have d_13 : a'.eval (.tmp 92) = .pointer (some ⟨ge__1, 7, none⟩) := hD 8 92 (by kernel_rfl) rfl
   exact .inl ⟨_, _, (o_ldE7 rfl d_13 (hE_1.nx hb') ⟨by kernel_rfl, by kernel_rfl⟩), rfl, Below.refl _ _⟩)),
(step_yes 5 false 89 rfl rfl (by kernel_rfl) (fun _ _ h => h) (fun a' w' hb' hO hD => by
   have d_14 : a'.eval (.tmp 93) = .slice D_1 (58) (d_1) := hD 9 93 (by kernel_rfl) rfl
   exact .inl ⟨_, _, (o_str rfl d_14 ((hO_1.nx hb')).bs hl_1), rfl, Below.refl _ _⟩)),
(step_yes 5 false 89 rfl rfl (by kernel_rfl) (fun _ _ h => h) (fun a' w' hb' hO hD => by
   have d_15 : a'.eval (.tmp 11) = .slice ((some ⟨ge__2, 0, none⟩)) (1) (ce_2) := (hO 11 (by decide)).trans (pe hs rfl rfl)
   exact .inl ⟨_, _, (o_move rfl d_15), rfl, Below.refl _ _⟩)),
(step_yes 5 false 89 rfl rfl (by kernel_rfl) (fun _ _ h => h) (fun a' w' hb' hO hD => by
   have d_16 : a'.eval (.tmp 95) = .slice ((some ⟨ge__2, 0, none⟩)) (1) (ce_2) := hD 11 95 (by kernel_rfl) rfl
   exact .inl ⟨_, _, (o_ixE rfl d_16 rfl (by decide)), rfl, Below.refl _ _⟩)),
(step_yes 5 false 89 rfl rfl (by kernel_rfl) (fun _ _ h => h) (fun a' w' hb' hO hD => by
   have d_17 : a'.eval (.tmp 96) = .pointer (some ⟨ge__2, 0, none⟩) := hD 12 96 (by kernel_rfl) rfl
   exact .inl ⟨_, _, (o_field (k' := 7) rfl d_17 (fun _ => by kernel_rfl)), rfl, Below.refl _ _⟩)),
(step_yes 5 false 89 rfl rfl (by kernel_rfl) (fun _ _ h => h) (fun a' w' hb' hO hD => by
   have d_18 : a'.eval (.tmp 97) = .pointer (some ⟨ge__2, 7, none⟩) := hD 13 97 (by kernel_rfl) rfl
   exact .inl ⟨_, _, (o_ldE7 rfl d_18 (hE_2.nx hb') ⟨by kernel_rfl, by kernel_rfl⟩), rfl, Below.refl _ _⟩)),
(step_yes 5 false 89 rfl rfl (by kernel_rfl) (fun _ _ h => h) (fun a' w' hb' hO hD => by
   have d_19 : a'.eval (.tmp 98) = .slice D_2 (58) (d_2) := hD 14 98 (by kernel_rfl) rfl
   exact .inl ⟨_, _, (o_str rfl d_19 ((hO_2.nx hb')).bs hl_2), rfl, Below.refl _ _⟩)), trivial⟩ (fun a_1 w_6 hs_1 hd_1 hb_4 hO_3 hV_1 => ?_)
 have ta_1_8 : a_1.eval (.tmp 8) = .slice ((some ⟨ge__1, 0, none⟩)) (1) (ce_1) := (hO_3 8 (by decide)).trans (pe hs rfl rfl)
 clear t0 t1 t2 hd
 replace hE_1 := hE_1.nx hb_4
 replace hO_1 := hO_1.nx hb_4
 replace hE_2 := hE_2.nx hb_4
 replace hO_2 := hO_2.nx hb_4
 replace hS9 := hS9.nx hb_4
 have HB_5 := below_from HB_4 hb_4
 have ta_1_89 : a_1.eval (.tmp 89) = .bool (false) := hV_1 5 89 rfl rfl
 have ta_1_94 : a_1.eval (.tmp 94) = .string (strB ([0, 1] ++ (pubL (shaL ax) ++ outS (firstS (shaL nameS) (shaL (shaL (shaL nameS ++ [0, 1]) ++ (pubL (padTo 32 [7])))) (padTo 32 [1]) (pubL (shaL ax)) (dhL (shaL ax) (secN (padTo 32 [7])))) (numZ (n) 8)))) := hV_1 10 94 rfl rfl
 have ta_1_99 : a_1.eval (.tmp 99) = .string (strB ([0, 1] ++ (pubL (shaL ax) ++ outS (firstS (shaL nameS) (shaL (shaL (shaL nameS ++ [0, 1]) ++ (pubL (padTo 32 [7])))) (padTo 32 [1]) (pubL (shaL ax)) (dhL (shaL ax) (secN (padTo 32 [7])))) (numZ (n) 8)))) := hV_1 15 99 rfl rfl
 clear hV_1 hO_3
 simp only [List.drop_succ_cons, List.drop_zero]
 refine op_valG (e := 89) (d := 100) (v := .bool (true)) rfl rfl (by kernel_rfl) ((pm rfl).trans ta_1_89) (o_eq (o_eqSD rfl ((pm rfl).trans ta_1_94) ((pm rfl).trans ta_1_99)) (by rw [decide_eq_true rfl])) ?_
 refine q_v 101 (.bool (true)) (o_pickF rfl ((pm rfl).trans ta_1_89) (pe hs_1 rfl rfl)) ?_
 refine q_mv (pe hs_1 rfl rfl) ?_
 refine op_valG (e := 102) (d := 103) (v := .slice ((some ⟨ge__1, 0, none⟩)) (1) (ce_1)) rfl rfl (by kernel_rfl) (pe hs_1 rfl rfl) (o_move rfl ((pm rfl).trans ta_1_8)) ?_
 refine op_valG (e := 102) (d := 104) (v := .pointer (some ⟨ge__1, 0, none⟩)) rfl rfl (by kernel_rfl) (pe hs_1 rfl rfl) (o_ixE rfl (pe hs_1 rfl rfl) rfl (by decide)) ?_
 refine op_valG (e := 102) (d := 105) (v := .pointer (some ⟨ge__1, 7, none⟩)) rfl rfl (by kernel_rfl) (pe hs_1 rfl rfl) (o_field (k' := 7) rfl (pe hs_1 rfl rfl) (fun _ => by kernel_rfl)) ?_
 refine op_valG (e := 102) (d := 106) (v := .slice D_1 (58) (d_1)) rfl rfl (by kernel_rfl) (pe hs_1 rfl rfl) (o_ldE7 rfl (pe hs_1 rfl rfl) hE_1 ⟨by kernel_rfl, by kernel_rfl⟩) ?_
 refine op_valG (e := 102) (d := 107) (v := .slice ((subA D_1 0 d_1)) (2) (d_1)) rfl rfl (by kernel_rfl) (pe hs_1 rfl rfl) (o_sliceH (h := 2) rfl (pe hs_1 rfl rfl) rfl (by omega)) ?_
 refine op_valG (e := 102) (d := 108) (v := .string (strB ([0, 1]))) rfl rfl (by kernel_rfl) (pe hs_1 rfl rfl) (o_str rfl (pe hs_1 rfl rfl) hS9 (by simp only [List.length_cons, List.length_nil])) ?_
 refine op_valG (e := 102) (d := 109) (v := .bool (true)) rfl rfl (by kernel_rfl) (pe hs_1 rfl rfl) (o_eqS rfl (pe hs_1 rfl rfl) rfl rfl) ?_
 refine q_v 110 (.bool (true)) (o_pickT rfl (pe hs_1 rfl rfl) (pe hs_1 rfl rfl)) ?_
 refine q_mv (pe hs_1 rfl rfl) ?_
 refine op_callG (e := 111) (vs := #[]) rfl rfl (by kernel_rfl) (pe hs_1 rfl rfl) (exec_call Tryz.func6 (by kernel_rfl) (by kernel_rfl) _ rfl _ _ (args0)) (awake23_any _) (fun e_6 w_7 hR_6 => ?_)
 obtain ⟨rfl, hb_6⟩ := hR_6
 replace hE_1 := hE_1.nx hb_6
 replace hO_1 := hO_1.nx hb_6
 replace hE_2 := hE_2.nx hb_6
 replace hO_2 := hO_2.nx hb_6
 replace hS9 := hS9.nx hb_6
 have HB_6 := below_from HB_5 hb_6
 refine ⟨_, rfl, ?_⟩
 refine q_v 113 (.bool (true)) (o_pickT rfl (pe hs_1 rfl rfl) (pe hs_1 rfl rfl)) ?_
 refine q_at (pe hs_1 rfl rfl) ?_
 refine x_nil (hK_15 _ _ ?_)
 refine w2_ret ?_
 refine ret1 rfl hd_1 (pe hs_1 rfl rfl) ?_
 exact ⟨rfl, HB_6⟩
set_option maxHeartbeats 1000000 in
theorem Dial_diff {A1 A2 : Option Addr} {c1 c2 n1 n2 : Nat} {ax bx : List Nat} {n : Int} (w : World) (h1 : Bs w A1 c1 ax) (l1 : ax.length = n1) (h2 : Bs w A2 c2 bx) (l2 : bx.length = n2) (hk : n1 ≤ 100) (hl : n2 ≤ 100) (hn : okT n) (hne : ¬ strB ax = strB bx) :
  Calls Tryz.prog 3 #[.slice A1 (n1) (c1), .slice A2 (n2) (c2), .int .i64 (n)] w fun e w' => e = .returned (.bool true) ∧ Below w.heap.size w w' := by
 have hn2 := hn
 unfold okT at hn2
 refine x_enter 114 Tryz.func3 rfl rfl (fun a hs hd ha0 => ?_)
 have t0 : a.eval (.tmp 0) = .slice A1 (n1) (c1) := ha0 0 _ rfl
 have t1 : a.eval (.tmp 1) = .slice A2 (n2) (c2) := ha0 1 _ rfl
 have t2 : a.eval (.tmp 2) = .int .i64 (n) := ha0 2 _ rfl
 clear ha0
 refine w2_sr (fun K_1 hK_1 => ?_)
 refine q_as (.bool (false)) rfl ?_
 refine x_nil (hK_1 _ _ ?_)
 refine w2_seq (fun K_2 hK_2 => ?_)
 refine w2_sr (fun K_3 hK_3 => ?_)
 refine q_mv ((pm rfl).trans t0) ?_
 refine q_v 13 (.int .i64 ((n1 : Nat) : Int)) (o_len rfl (pe hs rfl rfl)) ?_
 refine q_v 14 (.bool (false)) (o_eq (o_gtr (m := n1) (n := 100) rfl (pe hs rfl rfl) rfl) (by rw [decide_eq_false (by omega)])) ?_
 refine q_mv (pe hs rfl rfl) ?_
 refine op_valG (e := 15) (d := 16) (v := .slice A2 (n2) (c2)) rfl rfl (by kernel_rfl) (pe hs rfl rfl) (o_move rfl ((pm rfl).trans t1)) ?_
 refine op_valG (e := 15) (d := 17) (v := .int .i64 ((n2 : Nat) : Int)) rfl rfl (by kernel_rfl) (pe hs rfl rfl) (o_len rfl (pe hs rfl rfl)) ?_
 refine op_valG (e := 15) (d := 18) (v := .bool (false)) rfl rfl (by kernel_rfl) (pe hs rfl rfl) (o_eq (o_gtr (m := n2) (n := 100) rfl (pe hs rfl rfl) rfl) (by rw [decide_eq_false (by omega)])) ?_
 refine q_v 19 (.bool (false)) (o_pickF rfl (pe hs rfl rfl) (pe hs rfl rfl)) ?_
 refine x_nil (hK_3 _ _ ?_)
 refine w2_condF (pe hs rfl rfl) ?_
 refine w2_skip ?_
 refine hK_2 _ _ ?_
 refine w2_sr (fun K_4 hK_4 => ?_)
 refine q_ca (vs := #[]) Tryz.func7 (args0) (made_any _) (fun e_1 w_1 hR_1 => ?_)
 obtain ⟨M_1, g_1, rfl, hC_1, hge_1, hb_1⟩ := hR_1
 refine ⟨_, rfl, ?_⟩
 refine q_at (pe hs rfl rfl) ?_
 refine x_nil (hK_4 _ _ ?_)
 refine w2_seq (fun K_5 hK_5 => ?_)
 refine w2_sr (fun K_6 hK_6 => ?_)
 refine q_mv (pe hs rfl rfl) ?_
 refine q_v 23 (.bool (false)) (o_nil (b := false) rfl (pe hs rfl rfl) rfl rfl ⟨58, fun _ => by kernel_rfl⟩) ?_
 refine x_nil (hK_6 _ _ ?_)
 refine w2_condF (pe hs rfl rfl) ?_
 refine w2_skip ?_
 refine hK_5 _ _ ?_
 refine w2_sr (fun K_7 hK_7 => ?_)
 refine q_mv (pe hs rfl rfl) ?_
 refine q_mv ((pm rfl).trans t0) ?_
 refine q_mv ((pm rfl).trans t2) ?_
 refine q_ca (vs := #[.pointer (some ⟨g_1, 0, none⟩), .slice A1 (n1) (c1), .int .i64 (n)]) Tryz.func8 (args3 (pe hs rfl rfl) (pe hs rfl rfl) (pe hs rfl rfl)) (Dial_ok _ hC_1 hn (h1.below hb_1) (by simp only [l1]) (by omega) (key_good (by decide)) (pubL_num _)) (fun e_2 w_2 hR_2 => ?_)
 have hge_2_l := hC_1.lt
 obtain ⟨ge__1, ce_1, D_1, d_1, rfl, hge_2, hE_1, hO_1, hC_2, hX_1⟩ := hR_2
 have hne_1 : ¬ M_1 ge__1 := fun h => absurd (hge_2_l _ h) (Nat.not_lt.2 hge_2)
 have sp_1 : Sep (blkA D_1) M_1 := fun j hj h => absurd (hge_2_l _ h) (Nat.not_lt.2 (hO_1.ge' j hj))
 replace hO_1 := hO_1.mono hb_1.size
 have hl_1 : ([0, 1] ++ (pubL (shaL ax) ++ outS (firstS (shaL nameS) (shaL (shaL (shaL nameS ++ [0, 1]) ++ (pubL (padTo 32 [7])))) (padTo 32 [1]) (pubL (shaL ax)) (dhL (shaL ax) (secN (padTo 32 [7])))) (numZ (n) 8))).length = 58 := data_len _ _ (numZ_length _ _)
 have HB_1 := hX_1.below hb_1 hb_1.size hge_1
 refine ⟨_, rfl, ?_⟩
 refine q_at (pe hs rfl rfl) ?_
 refine x_nil (hK_7 _ _ ?_)
 refine w2_seq (fun K_8 hK_8 => ?_)
 refine w2_sr (fun K_9 hK_9 => ?_)
 refine q_mv ((pm rfl).trans t2) ?_
 refine q_v 29 (.bool (false)) (o_eq (o_lssZZ (m := n) (n := ((0 : Nat) : Int)) rfl (pe hs rfl rfl) rfl) (by rw [decide_eq_false (by omega)])) ?_
 refine q_mv (pe hs rfl rfl) ?_
 refine op_valG (e := 30) (d := 31) (v := .int .i64 (n)) rfl rfl (by kernel_rfl) (pe hs rfl rfl) (o_move rfl ((pm rfl).trans t2)) ?_
 refine op_valG (e := 30) (d := 32) (v := .bool (false)) rfl rfl (by kernel_rfl) (pe hs rfl rfl) (o_eq (o_gtrZZ (m := n) (n := ((1099511627776 : Nat) : Int)) rfl (pe hs rfl rfl) rfl) (by rw [decide_eq_false (by omega)])) ?_
 refine q_v 33 (.bool (false)) (o_pickF rfl (pe hs rfl rfl) (pe hs rfl rfl)) ?_
 refine x_nil (hK_9 _ _ ?_)
 refine w2_condF (pe hs rfl rfl) ?_
 refine w2_skip ?_
 refine hK_8 _ _ ?_
 refine w2_sr (fun K_10 hK_10 => ?_)
 refine q_mv (pe hs rfl rfl) ?_
 refine q_mv ((pm rfl).trans t1) ?_
 refine q_mv ((pm rfl).trans t2) ?_
 refine q_ca (vs := #[.pointer (some ⟨g_1, 0, none⟩), .slice A2 (n2) (c2), .int .i64 (n)]) Tryz.func8 (args3 (pe hs rfl rfl) (pe hs rfl rfl) (pe hs rfl rfl)) (Dial_up (key := []) _ hC_2) (fun e_3 w_3 hR_3 => ?_)
 obtain ⟨rfl, hb_3⟩ := hR_3
 replace hC_2 := hC_2.nx hb_3
 replace hE_1 := hE_1.nx hb_3
 replace hO_1 := hO_1.nx hb_3
 have HB_2 := below_from HB_1 hb_3
 refine ⟨_, rfl, ?_⟩
 refine q_at (pe hs rfl rfl) ?_
 refine x_nil (hK_10 _ _ ?_)
 refine w2_sr (fun K_11 hK_11 => ?_)
 refine q_mv (pe hs rfl rfl) ?_
 refine q_ca (vs := #[.pointer (some ⟨g_1, 0, none⟩)]) Tryz.func9 (args1 (pe hs rfl rfl)) (LineCut_1 _ hC_2) (fun e_4 w_4 hR_4 => ?_)
 obtain ⟨rfl, hC_3, hX_2⟩ := hR_4
 replace hE_1 := hE_1.keepX hX_2 hne_1
 replace hO_1 := hO_1.keepM hX_2 (sp_1)
 have HB_3 := hX_2.below HB_2 HB_2.size hge_1
 refine ⟨_, rfl, ?_⟩
 refine q_at (pe hs rfl rfl) ?_
 refine x_nil (hK_11 _ _ ?_)
 refine w2_sr (fun K_12 hK_12 => ?_)
 refine q_mv (pe hs rfl rfl) ?_
 refine q_mv ((pm rfl).trans t1) ?_
 refine q_mv ((pm rfl).trans t2) ?_
 refine q_ca (vs := #[.pointer (some ⟨g_1, 0, none⟩), .slice A2 (n2) (c2), .int .i64 (n)]) Tryz.func8 (args3 (pe hs rfl rfl) (pe hs rfl rfl) (pe hs rfl rfl)) (Dial_ok _ hC_3 hn (h2.below HB_3) (by simp only [l2]) (by omega) (key_good (by decide)) (pubL_num _)) (fun e_5 w_5 hR_5 => ?_)
 have hge_3_l := hC_3.lt
 obtain ⟨ge__2, ce_2, D_2, d_2, rfl, hge_3, hE_2, hO_2, hC_4, hX_3⟩ := hR_5
 have hne_2 : ¬ M_1 ge__2 := fun h => absurd (hge_3_l _ h) (Nat.not_lt.2 hge_3)
 replace hO_2 := hO_2.mono HB_3.size
 have hl_2 : ([0, 1] ++ (pubL (shaL bx) ++ outS (firstS (shaL nameS) (shaL (shaL (shaL nameS ++ [0, 1]) ++ (pubL (padTo 32 [7])))) (padTo 32 [1]) (pubL (shaL bx)) (dhL (shaL bx) (secN (padTo 32 [7])))) (numZ (n) 8))).length = 58 := data_len _ _ (numZ_length _ _)
 replace hE_1 := hE_1.keepX hX_3 hne_1
 replace hO_1 := hO_1.keepM hX_3 (sp_1)
 have HB_4 := hX_3.below HB_3 HB_3.size hge_1
 refine ⟨_, rfl, ?_⟩
 refine q_at (pe hs rfl rfl) ?_
 refine x_nil (hK_12 _ _ ?_)
 refine w2_seq (fun K_13 hK_13 => ?_)
 refine w2_sr (fun K_14 hK_14 => ?_)
 refine q_mv (pe hs rfl rfl) ?_
 refine q_v 51 (.int .i64 ((1 : Nat) : Int)) (o_lenE rfl (pe hs rfl rfl)) ?_
 refine q_v 52 (.bool (false)) (o_eq (o_neq (m := 1) (n := 1) rfl (pe hs rfl rfl) rfl) rfl) ?_
 refine q_mv (pe hs rfl rfl) ?_
 refine op_valG (e := 53) (d := 54) (v := .slice none (0) (0)) rfl rfl (by kernel_rfl) (pe hs rfl rfl) (o_move rfl (pe hs rfl rfl)) ?_
 refine op_valG (e := 53) (d := 55) (v := .int .i64 ((0 : Nat) : Int)) rfl rfl (by kernel_rfl) (pe hs rfl rfl) (o_lenE rfl (pe hs rfl rfl)) ?_
 refine op_valG (e := 53) (d := 56) (v := .bool (false)) rfl rfl (by kernel_rfl) (pe hs rfl rfl) (o_eq (o_neq (m := 0) (n := 0) rfl (pe hs rfl rfl) rfl) rfl) ?_
 refine q_v 57 (.bool (false)) (o_pickF rfl (pe hs rfl rfl) (pe hs rfl rfl)) ?_
 refine q_mv (pe hs rfl rfl) ?_
 refine op_valG (e := 58) (d := 59) (v := .slice none (0) (0)) rfl rfl (by kernel_rfl) (pe hs rfl rfl) (o_move rfl (pe hs rfl rfl)) ?_
 refine op_valG (e := 58) (d := 60) (v := .int .i64 ((0 : Nat) : Int)) rfl rfl (by kernel_rfl) (pe hs rfl rfl) (o_lenE rfl (pe hs rfl rfl)) ?_
 refine op_valG (e := 58) (d := 61) (v := .bool (false)) rfl rfl (by kernel_rfl) (pe hs rfl rfl) (o_eq (o_neq (m := 0) (n := 0) rfl (pe hs rfl rfl) rfl) rfl) ?_
 refine q_v 62 (.bool (false)) (o_pickF rfl (pe hs rfl rfl) (pe hs rfl rfl)) ?_
 refine q_mv (pe hs rfl rfl) ?_
 refine op_valG (e := 63) (d := 64) (v := .slice ((some ⟨ge__2, 0, none⟩)) (1) (ce_2)) rfl rfl (by kernel_rfl) (pe hs rfl rfl) (o_move rfl (pe hs rfl rfl)) ?_
 refine op_valG (e := 63) (d := 65) (v := .int .i64 ((1 : Nat) : Int)) rfl rfl (by kernel_rfl) (pe hs rfl rfl) (o_lenE rfl (pe hs rfl rfl)) ?_
 refine op_valG (e := 63) (d := 66) (v := .bool (false)) rfl rfl (by kernel_rfl) (pe hs rfl rfl) (o_eq (o_neq (m := 1) (n := 1) rfl (pe hs rfl rfl) rfl) rfl) ?_
 refine q_v 67 (.bool (false)) (o_pickF rfl (pe hs rfl rfl) (pe hs rfl rfl)) ?_
 refine q_mv (pe hs rfl rfl) ?_
 refine op_valG (e := 68) (d := 69) (v := .slice ((some ⟨ge__1, 0, none⟩)) (1) (ce_1)) rfl rfl (by kernel_rfl) (pe hs rfl rfl) (o_move rfl (pe hs rfl rfl)) ?_
 refine op_valG (e := 68) (d := 70) (v := .pointer (some ⟨ge__1, 0, none⟩)) rfl rfl (by kernel_rfl) (pe hs rfl rfl) (o_ixE rfl (pe hs rfl rfl) rfl (by decide)) ?_
 refine op_valG (e := 68) (d := 71) (v := .pointer (some ⟨ge__1, 7, none⟩)) rfl rfl (by kernel_rfl) (pe hs rfl rfl) (o_field (k' := 7) rfl (pe hs rfl rfl) (fun _ => by kernel_rfl)) ?_
 refine op_valG (e := 68) (d := 72) (v := .slice D_1 (58) (d_1)) rfl rfl (by kernel_rfl) (pe hs rfl rfl) (o_ldE7 rfl (pe hs rfl rfl) hE_1 ⟨by kernel_rfl, by kernel_rfl⟩) ?_
 refine op_valG (e := 68) (d := 73) (v := .int .i64 ((58 : Nat) : Int)) rfl rfl (by kernel_rfl) (pe hs rfl rfl) (o_len rfl (pe hs rfl rfl)) ?_
 refine op_valG (e := 68) (d := 74) (v := .bool (false)) rfl rfl (by kernel_rfl) (pe hs rfl rfl) (o_eq (o_neq (m := 58) (n := 58) rfl (pe hs rfl rfl) rfl) rfl) ?_
 refine q_v 75 (.bool (false)) (o_pickF rfl (pe hs rfl rfl) (pe hs rfl rfl)) ?_
 refine q_mv (pe hs rfl rfl) ?_
 refine op_valG (e := 76) (d := 77) (v := .slice ((some ⟨ge__2, 0, none⟩)) (1) (ce_2)) rfl rfl (by kernel_rfl) (pe hs rfl rfl) (o_move rfl (pe hs rfl rfl)) ?_
 refine op_valG (e := 76) (d := 78) (v := .pointer (some ⟨ge__2, 0, none⟩)) rfl rfl (by kernel_rfl) (pe hs rfl rfl) (o_ixE rfl (pe hs rfl rfl) rfl (by decide)) ?_
 refine op_valG (e := 76) (d := 79) (v := .pointer (some ⟨ge__2, 7, none⟩)) rfl rfl (by kernel_rfl) (pe hs rfl rfl) (o_field (k' := 7) rfl (pe hs rfl rfl) (fun _ => by kernel_rfl)) ?_
 refine op_valG (e := 76) (d := 80) (v := .slice D_2 (58) (d_2)) rfl rfl (by kernel_rfl) (pe hs rfl rfl) (o_ldE7 rfl (pe hs rfl rfl) hE_2 ⟨by kernel_rfl, by kernel_rfl⟩) ?_
 refine op_valG (e := 76) (d := 81) (v := .int .i64 ((58 : Nat) : Int)) rfl rfl (by kernel_rfl) (pe hs rfl rfl) (o_len rfl (pe hs rfl rfl)) ?_
 refine op_valG (e := 76) (d := 82) (v := .bool (false)) rfl rfl (by kernel_rfl) (pe hs rfl rfl) (o_eq (o_neq (m := 58) (n := 58) rfl (pe hs rfl rfl) rfl) rfl) ?_
 refine q_v 83 (.bool (false)) (o_pickF rfl (pe hs rfl rfl) (pe hs rfl rfl)) ?_
 refine x_nil (hK_14 _ _ ?_)
 refine w2_condF (pe hs rfl rfl) ?_
 refine w2_skip ?_
 refine hK_13 _ _ ?_
 refine w2_seq (fun K_15 hK_15 => ?_)
 have hS9 : Bs w_5 (subA D_1 0 d_1) d_1 [0, 1] := (hO_1).bs.first (n := 2) (by rw [hl_1]; omega)
 have hcap9 : 58 ≤ d_1 := by have h9 := hO_1.bs.le; rw [hl_1] at h9; exact h9
 refine x_drawn 16 [fun _ v => v = .slice A1 (n1) (c1), fun _ v => v = .string (strB ax), fun _ v => v = .slice A2 (n2) (c2), fun _ v => v = .string (strB bx), fun _ v => v = .bool (true), fun _ v => v = .bool (true), fun _ _ => True, fun _ _ => True, fun _ _ => True, fun _ _ => True, fun _ _ => True, fun _ _ => True, fun _ _ => True, fun _ _ => True, fun _ _ => True, fun _ _ => True] [84, 85, 86, 87, 88, 89, 90, 91, 92, 93, 94, 95, 96, 97, 98, 99] hs hd (by kernel_rfl) (by kernel_rfl) (by kernel_rfl) (by kernel_rfl) (by kernel_rfl) ⟨stLit, stLit, stLit, stLit, stLit, stLit, stLit, stLit, stLit, stLit, stLit, stLit, stLit, stLit, stLit, stLit, trivial⟩ ⟨(step_ok rfl (fun a' w' hb' hO hD => by
   have d_3 := (hO 0 (by decide)).trans ((pm rfl).trans t0)
   exact .inl ⟨_, _, (o_move rfl d_3), rfl, Below.refl _ _⟩)),
(step_ok rfl (fun a' w' hb' hO hD => by
   have d_4 : a'.eval (.tmp 84) = .slice A1 (n1) (c1) := hD 0 84 (by kernel_rfl) rfl
   exact .inl ⟨_, _, (o_str rfl d_4 (h1.below (below_from HB_4 hb')) (by simp only [l1])), rfl, Below.refl _ _⟩)),
(step_ok rfl (fun a' w' hb' hO hD => by
   have d_5 := (hO 1 (by decide)).trans ((pm rfl).trans t1)
   exact .inl ⟨_, _, (o_move rfl d_5), rfl, Below.refl _ _⟩)),
(step_ok rfl (fun a' w' hb' hO hD => by
   have d_6 : a'.eval (.tmp 86) = .slice A2 (n2) (c2) := hD 2 86 (by kernel_rfl) rfl
   exact .inl ⟨_, _, (o_str rfl d_6 (h2.below (below_from HB_4 hb')) (by simp only [l2])), rfl, Below.refl _ _⟩)),
(step_ok rfl (fun a' w' hb' hO hD => by
   have d_7 : a'.eval (.tmp 85) = .string (strB ax) := hD 1 85 (by kernel_rfl) rfl
   have d_8 : a'.eval (.tmp 87) = .string (strB bx) := hD 3 87 (by kernel_rfl) rfl
   have e0 : (.bool (!decide (strB ax = strB bx)) : Value) = .bool (true) := (by rw [decide_eq_false hne]; rfl)
   exact .inl ⟨_, _, (o_neSD rfl d_7 d_8), e0, Below.refl _ _⟩)),
(step_ok rfl (fun a' w' hb' hO hD => by
   have d_9 : a'.eval (.tmp 88) = .bool (true) := hD 4 88 (by kernel_rfl) rfl
   exact .inl ⟨_, _, (o_move rfl d_9), rfl, Below.refl _ _⟩)),
(step_no 5 false true 89 rfl rfl (by kernel_rfl) (fun _ _ h => h) (by decide) (fun _ => trivial)),
(step_no 5 false true 89 rfl rfl (by kernel_rfl) (fun _ _ h => h) (by decide) (fun _ => trivial)),
(step_no 5 false true 89 rfl rfl (by kernel_rfl) (fun _ _ h => h) (by decide) (fun _ => trivial)),
(step_no 5 false true 89 rfl rfl (by kernel_rfl) (fun _ _ h => h) (by decide) (fun _ => trivial)),
(step_no 5 false true 89 rfl rfl (by kernel_rfl) (fun _ _ h => h) (by decide) (fun _ => trivial)),
(step_no 5 false true 89 rfl rfl (by kernel_rfl) (fun _ _ h => h) (by decide) (fun _ => trivial)),
(step_no 5 false true 89 rfl rfl (by kernel_rfl) (fun _ _ h => h) (by decide) (fun _ => trivial)),
(step_no 5 false true 89 rfl rfl (by kernel_rfl) (fun _ _ h => h) (by decide) (fun _ => trivial)),
(step_no 5 false true 89 rfl rfl (by kernel_rfl) (fun _ _ h => h) (by decide) (fun _ => trivial)),
(step_no 5 false true 89 rfl rfl (by kernel_rfl) (fun _ _ h => h) (by decide) (fun _ => trivial)), trivial⟩ (fun a_1 w_6 hs_1 hd_1 hb_4 hO_3 hV_1 => ?_)
 have ta_1_8 : a_1.eval (.tmp 8) = .slice ((some ⟨ge__1, 0, none⟩)) (1) (ce_1) := (hO_3 8 (by decide)).trans (pe hs rfl rfl)
 clear t0 t1 t2 hd
 replace hE_1 := hE_1.nx hb_4
 replace hO_1 := hO_1.nx hb_4
 replace hE_2 := hE_2.nx hb_4
 replace hO_2 := hO_2.nx hb_4
 replace hS9 := hS9.nx hb_4
 have HB_5 := below_from HB_4 hb_4
 have ta_1_89 : a_1.eval (.tmp 89) = .bool (true) := hV_1 5 89 rfl rfl
 clear hV_1 hO_3
 simp only [List.drop_succ_cons, List.drop_zero]
 refine op_left (e := 89) rfl rfl (by kernel_rfl) ((pm rfl).trans ta_1_89) rfl ?_
 refine q_v 101 (.bool (true)) (o_pickT rfl ((pm rfl).trans ta_1_89) rfl) ?_
 refine q_mv (pe hs_1 rfl rfl) ?_
 refine op_valG (e := 102) (d := 103) (v := .slice ((some ⟨ge__1, 0, none⟩)) (1) (ce_1)) rfl rfl (by kernel_rfl) (pe hs_1 rfl rfl) (o_move rfl ((pm rfl).trans ta_1_8)) ?_
 refine op_valG (e := 102) (d := 104) (v := .pointer (some ⟨ge__1, 0, none⟩)) rfl rfl (by kernel_rfl) (pe hs_1 rfl rfl) (o_ixE rfl (pe hs_1 rfl rfl) rfl (by decide)) ?_
 refine op_valG (e := 102) (d := 105) (v := .pointer (some ⟨ge__1, 7, none⟩)) rfl rfl (by kernel_rfl) (pe hs_1 rfl rfl) (o_field (k' := 7) rfl (pe hs_1 rfl rfl) (fun _ => by kernel_rfl)) ?_
 refine op_valG (e := 102) (d := 106) (v := .slice D_1 (58) (d_1)) rfl rfl (by kernel_rfl) (pe hs_1 rfl rfl) (o_ldE7 rfl (pe hs_1 rfl rfl) hE_1 ⟨by kernel_rfl, by kernel_rfl⟩) ?_
 refine op_valG (e := 102) (d := 107) (v := .slice ((subA D_1 0 d_1)) (2) (d_1)) rfl rfl (by kernel_rfl) (pe hs_1 rfl rfl) (o_sliceH (h := 2) rfl (pe hs_1 rfl rfl) rfl (by omega)) ?_
 refine op_valG (e := 102) (d := 108) (v := .string (strB ([0, 1]))) rfl rfl (by kernel_rfl) (pe hs_1 rfl rfl) (o_str rfl (pe hs_1 rfl rfl) hS9 (by simp only [List.length_cons, List.length_nil])) ?_
 refine op_valG (e := 102) (d := 109) (v := .bool (true)) rfl rfl (by kernel_rfl) (pe hs_1 rfl rfl) (o_eqS rfl (pe hs_1 rfl rfl) rfl rfl) ?_
 refine q_v 110 (.bool (true)) (o_pickT rfl (pe hs_1 rfl rfl) (pe hs_1 rfl rfl)) ?_
 refine q_mv (pe hs_1 rfl rfl) ?_
 refine op_callG (e := 111) (vs := #[]) rfl rfl (by kernel_rfl) (pe hs_1 rfl rfl) (exec_call Tryz.func6 (by kernel_rfl) (by kernel_rfl) _ rfl _ _ (args0)) (awake23_any _) (fun e_6 w_7 hR_6 => ?_)
 obtain ⟨rfl, hb_6⟩ := hR_6
 replace hE_1 := hE_1.nx hb_6
 replace hO_1 := hO_1.nx hb_6
 replace hE_2 := hE_2.nx hb_6
 replace hO_2 := hO_2.nx hb_6
 replace hS9 := hS9.nx hb_6
 have HB_6 := below_from HB_5 hb_6
 refine ⟨_, rfl, ?_⟩
 refine q_v 113 (.bool (true)) (o_pickT rfl (pe hs_1 rfl rfl) (pe hs_1 rfl rfl)) ?_
 refine q_at (pe hs_1 rfl rfl) ?_
 refine x_nil (hK_15 _ _ ?_)
 refine w2_ret ?_
 refine ret1 rfl hd_1 (pe hs_1 rfl rfl) ?_
 exact ⟨rfl, HB_6⟩
end Go.Proofs.YtodhdajelnfhpaaGreat
