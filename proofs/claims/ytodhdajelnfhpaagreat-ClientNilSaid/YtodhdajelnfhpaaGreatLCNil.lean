/-
 WALKS: sapperlaw23.ClientNil.
-/
import Derived.Test.YtodhdajelnfhpaaGreatClM
namespace Go.Proofs.YtodhdajelnfhpaaGreat
open Go.RowKit
set_option linter.unusedVariables false
set_option linter.unusedSimpArgs false
set_option maxRecDepth 100000
attribute [local irreducible] wpList wpListIn putsR

theorem CApp_nil {A0 : Option Addr} {c0 q : Nat} {i : Int} (w : World) :
  Calls Tryz.prog 11 #[.pointer none, .int .i64 (i), .slice A0 (q) (c0)] w fun e w' => e = .returned (.slice none 0 0) ∧ w = w' := by
 refine x_enter 60 Tryz.func11 rfl rfl (fun a hs hd ha0 => ?_)
 have t0 : a.eval (.tmp 0) = .pointer none := ha0 0 _ rfl
 clear ha0
 refine w2_sr (fun K_1 hK_1 => ?_)
 refine q_as (.slice none (0) (0)) rfl ?_
 refine x_nil (hK_1 _ _ ?_)
 refine w2_seq (fun K_2 hK_2 => ?_)
 refine w2_sr (fun K_3 hK_3 => ?_)
 refine q_mv ((pm rfl).trans t0) ?_
 refine q_v 9 (.bool (true)) (o_nil (b := true) rfl (pe hs rfl rfl) rfl rfl ⟨58, fun _ => by kernel_rfl⟩) ?_
 refine q_mv (pe hs rfl rfl) ?_
 refine op_left (e := 10) rfl rfl (by kernel_rfl) (pe hs rfl rfl) rfl ?_
 refine op_left (e := 10) rfl rfl (by kernel_rfl) (pe hs rfl rfl) rfl ?_
 refine op_left (e := 10) rfl rfl (by kernel_rfl) (pe hs rfl rfl) rfl ?_
 refine q_v 14 (.bool (true)) (o_pickT rfl (pe hs rfl rfl) rfl) ?_
 refine x_nil (hK_3 _ _ ?_)
 refine w2_condT (pe hs rfl rfl) ?_
 refine w2_sr (fun K_4 hK_4 => ?_)
 refine q_as (.slice none (0) (0)) rfl ?_
 refine x_nil (hK_4 _ _ ?_)
 refine w2_ret ?_
 refine thn_ret ?_
 refine ret1 rfl hd (pe hs rfl rfl) ?_
 exact ⟨rfl, rfl⟩
theorem CAppEnd_nil {i : Int} (w : World) :
  Calls Tryz.prog 12 #[.pointer none, .int .i64 (i)] w fun e w' => e = .returned (.slice none 0 0) ∧ w = w' := by
 refine x_enter 46 Tryz.func12 rfl rfl (fun a hs hd ha0 => ?_)
 have t0 : a.eval (.tmp 0) = .pointer none := ha0 0 _ rfl
 clear ha0
 refine w2_sr (fun K_1 hK_1 => ?_)
 refine q_as (.slice none (0) (0)) rfl ?_
 refine x_nil (hK_1 _ _ ?_)
 refine w2_seq (fun K_2 hK_2 => ?_)
 refine w2_sr (fun K_3 hK_3 => ?_)
 refine q_mv ((pm rfl).trans t0) ?_
 refine q_v 7 (.bool (true)) (o_nil (b := true) rfl (pe hs rfl rfl) rfl rfl ⟨58, fun _ => by kernel_rfl⟩) ?_
 refine q_mv (pe hs rfl rfl) ?_
 refine op_left (e := 8) rfl rfl (by kernel_rfl) (pe hs rfl rfl) rfl ?_
 refine op_left (e := 8) rfl rfl (by kernel_rfl) (pe hs rfl rfl) rfl ?_
 refine op_left (e := 8) rfl rfl (by kernel_rfl) (pe hs rfl rfl) rfl ?_
 refine op_left (e := 8) rfl rfl (by kernel_rfl) (pe hs rfl rfl) rfl ?_
 refine op_left (e := 8) rfl rfl (by kernel_rfl) (pe hs rfl rfl) rfl ?_
 refine op_left (e := 8) rfl rfl (by kernel_rfl) (pe hs rfl rfl) rfl ?_
 refine op_left (e := 8) rfl rfl (by kernel_rfl) (pe hs rfl rfl) rfl ?_
 refine q_v 16 (.bool (true)) (o_pickT rfl (pe hs rfl rfl) rfl) ?_
 refine x_nil (hK_3 _ _ ?_)
 refine w2_condT (pe hs rfl rfl) ?_
 refine w2_sr (fun K_4 hK_4 => ?_)
 refine q_as (.slice none (0) (0)) rfl ?_
 refine x_nil (hK_4 _ _ ?_)
 refine w2_ret ?_
 refine thn_ret ?_
 refine ret1 rfl hd (pe hs rfl rfl) ?_
 exact ⟨rfl, rfl⟩
theorem CAppCut_nil {i : Int} (w : World) :
  Calls Tryz.prog 13 #[.pointer none, .int .i64 (i)] w fun e w' => e = .returned (.slice none 0 0) ∧ w = w' := by
 refine x_enter 23 Tryz.func13 rfl rfl (fun a hs hd ha0 => ?_)
 have t0 : a.eval (.tmp 0) = .pointer none := ha0 0 _ rfl
 clear ha0
 refine w2_sr (fun K_1 hK_1 => ?_)
 refine q_as (.slice none (0) (0)) rfl ?_
 refine x_nil (hK_1 _ _ ?_)
 refine w2_seq (fun K_2 hK_2 => ?_)
 refine w2_sr (fun K_3 hK_3 => ?_)
 refine q_mv ((pm rfl).trans t0) ?_
 refine q_v 6 (.bool (true)) (o_nil (b := true) rfl (pe hs rfl rfl) rfl rfl ⟨58, fun _ => by kernel_rfl⟩) ?_
 refine q_mv (pe hs rfl rfl) ?_
 refine op_left (e := 7) rfl rfl (by kernel_rfl) (pe hs rfl rfl) rfl ?_
 refine op_left (e := 7) rfl rfl (by kernel_rfl) (pe hs rfl rfl) rfl ?_
 refine op_left (e := 7) rfl rfl (by kernel_rfl) (pe hs rfl rfl) rfl ?_
 refine op_left (e := 7) rfl rfl (by kernel_rfl) (pe hs rfl rfl) rfl ?_
 refine op_left (e := 7) rfl rfl (by kernel_rfl) (pe hs rfl rfl) rfl ?_
 refine op_left (e := 7) rfl rfl (by kernel_rfl) (pe hs rfl rfl) rfl ?_
 refine op_left (e := 7) rfl rfl (by kernel_rfl) (pe hs rfl rfl) rfl ?_
 refine q_v 15 (.bool (true)) (o_pickT rfl (pe hs rfl rfl) rfl) ?_
 refine x_nil (hK_3 _ _ ?_)
 refine w2_condT (pe hs rfl rfl) ?_
 refine w2_sr (fun K_4 hK_4 => ?_)
 refine q_as (.slice none (0) (0)) rfl ?_
 refine x_nil (hK_4 _ _ ?_)
 refine w2_ret ?_
 refine thn_ret ?_
 refine ret1 rfl hd (pe hs rfl rfl) ?_
 exact ⟨rfl, rfl⟩
theorem Dial_nil {A0 : Option Addr} {c0 q : Nat} {n : Int} (w : World) :
  Calls Tryz.prog 8 #[.pointer none, .slice A0 (q) (c0), .int .i64 (n)] w fun e w' => e = .returned (.slice none 0 0) ∧ w = w' := by
 refine x_enter 80 Tryz.func8 rfl rfl (fun a hs hd ha0 => ?_)
 have t0 : a.eval (.tmp 0) = .pointer none := ha0 0 _ rfl
 clear ha0
 refine w2_sr (fun K_1 hK_1 => ?_)
 refine q_as (.slice none (0) (0)) rfl ?_
 refine x_nil (hK_1 _ _ ?_)
 refine w2_seq (fun K_2 hK_2 => ?_)
 refine w2_sr (fun K_3 hK_3 => ?_)
 refine q_mv ((pm rfl).trans t0) ?_
 refine q_v 12 (.bool (true)) (o_nil (b := true) rfl (pe hs rfl rfl) rfl rfl ⟨58, fun _ => by kernel_rfl⟩) ?_
 refine q_mv (pe hs rfl rfl) ?_
 refine op_left (e := 13) rfl rfl (by kernel_rfl) (pe hs rfl rfl) rfl ?_
 refine op_left (e := 13) rfl rfl (by kernel_rfl) (pe hs rfl rfl) rfl ?_
 refine q_v 16 (.bool (true)) (o_pickT rfl (pe hs rfl rfl) rfl) ?_
 refine q_mv (pe hs rfl rfl) ?_
 refine op_left (e := 17) rfl rfl (by kernel_rfl) (pe hs rfl rfl) rfl ?_
 refine op_left (e := 17) rfl rfl (by kernel_rfl) (pe hs rfl rfl) rfl ?_
 refine op_left (e := 17) rfl rfl (by kernel_rfl) (pe hs rfl rfl) rfl ?_
 refine q_v 21 (.bool (true)) (o_pickT rfl (pe hs rfl rfl) rfl) ?_
 refine x_nil (hK_3 _ _ ?_)
 refine w2_condT (pe hs rfl rfl) ?_
 refine w2_sr (fun K_4 hK_4 => ?_)
 refine q_as (.slice none (0) (0)) rfl ?_
 refine x_nil (hK_4 _ _ ?_)
 refine w2_ret ?_
 refine thn_ret ?_
 refine ret1 rfl hd (pe hs rfl rfl) ?_
 exact ⟨rfl, rfl⟩
theorem CLine_nil {A0 : Option Addr} {c0 q : Nat} {n : Int} (w : World) :
  Calls Tryz.prog 14 #[.pointer none, .slice A0 (q) (c0), .int .i64 (n)] w fun e w' => e = .returned (.slice none 0 0) ∧ w = w' := by
 refine x_enter 58 Tryz.func14 rfl rfl (fun a hs hd ha0 => ?_)
 have t0 : a.eval (.tmp 0) = .pointer none := ha0 0 _ rfl
 clear ha0
 refine w2_sr (fun K_1 hK_1 => ?_)
 refine q_as (.slice none (0) (0)) rfl ?_
 refine x_nil (hK_1 _ _ ?_)
 refine w2_seq (fun K_2 hK_2 => ?_)
 refine w2_sr (fun K_3 hK_3 => ?_)
 refine q_mv ((pm rfl).trans t0) ?_
 refine q_v 8 (.bool (true)) (o_nil (b := true) rfl (pe hs rfl rfl) rfl rfl ⟨58, fun _ => by kernel_rfl⟩) ?_
 refine q_mv (pe hs rfl rfl) ?_
 refine op_left (e := 9) rfl rfl (by kernel_rfl) (pe hs rfl rfl) rfl ?_
 refine op_left (e := 9) rfl rfl (by kernel_rfl) (pe hs rfl rfl) rfl ?_
 refine op_left (e := 9) rfl rfl (by kernel_rfl) (pe hs rfl rfl) rfl ?_
 refine q_v 13 (.bool (true)) (o_pickT rfl (pe hs rfl rfl) rfl) ?_
 refine q_mv (pe hs rfl rfl) ?_
 refine op_left (e := 14) rfl rfl (by kernel_rfl) (pe hs rfl rfl) rfl ?_
 refine op_left (e := 14) rfl rfl (by kernel_rfl) (pe hs rfl rfl) rfl ?_
 refine op_left (e := 14) rfl rfl (by kernel_rfl) (pe hs rfl rfl) rfl ?_
 refine q_v 18 (.bool (true)) (o_pickT rfl (pe hs rfl rfl) rfl) ?_
 refine x_nil (hK_3 _ _ ?_)
 refine w2_condT (pe hs rfl rfl) ?_
 refine w2_sr (fun K_4 hK_4 => ?_)
 refine q_as (.slice none (0) (0)) rfl ?_
 refine x_nil (hK_4 _ _ ?_)
 refine w2_ret ?_
 refine thn_ret ?_
 refine ret1 rfl hd (pe hs rfl rfl) ?_
 exact ⟨rfl, rfl⟩
theorem LineCut_nil (w : World) :
  Calls Tryz.prog 9 #[.pointer none] w fun e w' => e = .returned (.slice none 0 0) ∧ w = w' := by
 refine x_enter 14 Tryz.func9 rfl rfl (fun a hs hd ha0 => ?_)
 have t0 : a.eval (.tmp 0) = .pointer none := ha0 0 _ rfl
 clear ha0
 refine w2_sr (fun K_1 hK_1 => ?_)
 refine q_as (.slice none (0) (0)) rfl ?_
 refine x_nil (hK_1 _ _ ?_)
 refine w2_seq (fun K_2 hK_2 => ?_)
 refine w2_sr (fun K_3 hK_3 => ?_)
 refine q_mv ((pm rfl).trans t0) ?_
 refine q_v 4 (.bool (true)) (o_nil (b := true) rfl (pe hs rfl rfl) rfl rfl ⟨58, fun _ => by kernel_rfl⟩) ?_
 refine q_mv (pe hs rfl rfl) ?_
 refine op_left (e := 5) rfl rfl (by kernel_rfl) (pe hs rfl rfl) rfl ?_
 refine op_left (e := 5) rfl rfl (by kernel_rfl) (pe hs rfl rfl) rfl ?_
 refine op_left (e := 5) rfl rfl (by kernel_rfl) (pe hs rfl rfl) rfl ?_
 refine q_v 9 (.bool (true)) (o_pickT rfl (pe hs rfl rfl) rfl) ?_
 refine x_nil (hK_3 _ _ ?_)
 refine w2_condT (pe hs rfl rfl) ?_
 refine w2_sr (fun K_4 hK_4 => ?_)
 refine q_as (.slice none (0) (0)) rfl ?_
 refine x_nil (hK_4 _ _ ?_)
 refine w2_ret ?_
 refine thn_ret ?_
 refine ret1 rfl hd (pe hs rfl rfl) ?_
 exact ⟨rfl, rfl⟩
theorem Tick_nil {n : Int} (w : World) :
  Calls Tryz.prog 10 #[.pointer none, .int .i64 (n)] w fun e w' => e = .returned (.slice none 0 0) ∧ Below w.heap.size w w' := by
 refine x_enter 34 Tryz.func10 rfl rfl (fun a hs hd ha0 => ?_)
 have t0 : a.eval (.tmp 0) = .pointer none := ha0 0 _ rfl
 have t1 : a.eval (.tmp 1) = .int .i64 (n) := ha0 1 _ rfl
 clear ha0
 refine w2_sr (fun K_1 hK_1 => ?_)
 refine q_as (.slice none (0) (0)) rfl ?_
 refine x_nil (hK_1 _ _ ?_)
 refine w2_seq (fun K_2 hK_2 => ?_)
 refine w2_seq (fun K_3 hK_3 => ?_)
 refine x_drawn 23 [fun _ v => v = .pointer none, fun _ v => v = .bool (true), fun _ v => v = .bool (true), fun _ _ => True, fun _ _ => True, fun _ _ => True, fun _ v => v = .bool (true), fun _ v => v = .bool (true), fun _ _ => True, fun _ _ => True, fun _ _ => True, fun _ v => v = .bool (true), fun _ v => v = .bool (true), fun _ _ => True, fun _ _ => True, fun _ _ => True, fun _ _ => True, fun _ _ => True, fun _ _ => True, fun _ _ => True, fun _ _ => True, fun _ _ => True, fun _ _ => True] [5, 6, 7, 8, 9, 10, 11, 12, 13, 14, 15, 16, 17, 18, 19, 20, 21, 22, 23, 24, 25, 26, 27] hs hd (by kernel_rfl) (by kernel_rfl) (by kernel_rfl) (by kernel_rfl) (by kernel_rfl) ⟨stLit, stLit, stLit, stLit, stLit, stLit, stLit, stLit, stLit, stLit, stLit, stLit, stLit, stLit, stLit, stLit, stLit, stLit, stLit, stLit, stLit, stLit, stLit, trivial⟩ ⟨(step_ok rfl (fun a' w' hb' hO hD => by
   have d_1 := (hO 0 (by decide)).trans ((pm rfl).trans t0)
   exact .inl ⟨_, _, (o_move rfl d_1), rfl, Below.refl _ _⟩)),
(step_ok rfl (fun a' w' hb' hO hD => by
   have d_2 : a'.eval (.tmp 5) = .pointer none := hD 0 5 (by kernel_rfl) rfl
   exact .inl ⟨_, _, (o_nil (b := true) rfl d_2 rfl rfl ⟨58, fun _ => by kernel_rfl⟩), rfl, Below.refl _ _⟩)),
(step_ok rfl (fun a' w' hb' hO hD => by
   have d_3 : a'.eval (.tmp 6) = .bool (true) := hD 1 6 (by kernel_rfl) rfl
   exact .inl ⟨_, _, (o_move rfl d_3), rfl, Below.refl _ _⟩)),
(step_no 2 false true 7 rfl rfl (by kernel_rfl) (fun _ _ h => h) (by decide) (fun _ => trivial)),
(step_no 2 false true 7 rfl rfl (by kernel_rfl) (fun _ _ h => h) (by decide) (fun _ => trivial)),
(step_no 2 false true 7 rfl rfl (by kernel_rfl) (fun _ _ h => h) (by decide) (fun _ => trivial)),
(step_ok rfl (fun a' w' hb' hO hD => by
   have d_4 : a'.eval (.tmp 7) = .bool (true) := hD 2 7 (by kernel_rfl) rfl
   exact .inl ⟨_, _, (o_pickT rfl d_4 rfl), rfl, Below.refl _ _⟩)),
(step_ok rfl (fun a' w' hb' hO hD => by
   have d_5 : a'.eval (.tmp 11) = .bool (true) := hD 6 11 (by kernel_rfl) rfl
   exact .inl ⟨_, _, (o_move rfl d_5), rfl, Below.refl _ _⟩)),
(step_no 7 false true 12 rfl rfl (by kernel_rfl) (fun _ _ h => h) (by decide) (fun _ => trivial)),
(step_no 7 false true 12 rfl rfl (by kernel_rfl) (fun _ _ h => h) (by decide) (fun _ => trivial)),
(step_no 7 false true 12 rfl rfl (by kernel_rfl) (fun _ _ h => h) (by decide) (fun _ => trivial)),
(step_ok rfl (fun a' w' hb' hO hD => by
   have d_6 : a'.eval (.tmp 12) = .bool (true) := hD 7 12 (by kernel_rfl) rfl
   exact .inl ⟨_, _, (o_pickT rfl d_6 rfl), rfl, Below.refl _ _⟩)),
(step_ok rfl (fun a' w' hb' hO hD => by
   have d_7 : a'.eval (.tmp 16) = .bool (true) := hD 11 16 (by kernel_rfl) rfl
   exact .inl ⟨_, _, (o_move rfl d_7), rfl, Below.refl _ _⟩)),
(step_no 12 false true 17 rfl rfl (by kernel_rfl) (fun _ _ h => h) (by decide) (fun _ => trivial)),
(step_no 12 false true 17 rfl rfl (by kernel_rfl) (fun _ _ h => h) (by decide) (fun _ => trivial)),
(step_no 12 false true 17 rfl rfl (by kernel_rfl) (fun _ _ h => h) (by decide) (fun _ => trivial)),
(step_no 12 false true 17 rfl rfl (by kernel_rfl) (fun _ _ h => h) (by decide) (fun _ => trivial)),
(step_no 12 false true 17 rfl rfl (by kernel_rfl) (fun _ _ h => h) (by decide) (fun _ => trivial)),
(step_no 12 false true 17 rfl rfl (by kernel_rfl) (fun _ _ h => h) (by decide) (fun _ => trivial)),
(step_no 12 false true 17 rfl rfl (by kernel_rfl) (fun _ _ h => h) (by decide) (fun _ => trivial)),
(step_no 12 false true 17 rfl rfl (by kernel_rfl) (fun _ _ h => h) (by decide) (fun _ => trivial)),
(step_no 12 false true 17 rfl rfl (by kernel_rfl) (fun _ _ h => h) (by decide) (fun _ => trivial)),
(step_no 12 false true 17 rfl rfl (by kernel_rfl) (fun _ _ h => h) (by decide) (fun _ => trivial)), trivial⟩ (fun a_1 w_1 hs_1 hd_1 hb_1 hO_1 hV_1 => ?_)
 clear t0 t1 hd
 have ta_1_17 : a_1.eval (.tmp 17) = .bool (true) := hV_1 12 17 rfl rfl
 clear hV_1 hO_1
 simp only [List.drop_succ_cons, List.drop_zero]
 refine op_left (e := 17) rfl rfl (by kernel_rfl) ((pm rfl).trans ta_1_17) rfl ?_
 refine q_v 29 (.bool (true)) (o_pickT rfl ((pm rfl).trans ta_1_17) rfl) ?_
 refine x_nil (hK_3 _ _ ?_)
 refine w2_condT (pe hs_1 rfl rfl) ?_
 refine w2_sr (fun K_4 hK_4 => ?_)
 refine q_as (.slice none (0) (0)) rfl ?_
 refine x_nil (hK_4 _ _ ?_)
 refine w2_ret ?_
 refine thn_ret ?_
 refine ret1 rfl hd_1 (pe hs_1 rfl rfl) ?_
 exact ⟨rfl, hb_1⟩
theorem Len_nil (w : World) :
  Calls Tryz.prog 15 #[.pointer none] w fun e w' => e = .returned (.int .i64 ((0 : Nat) : Int)) ∧ w = w' := by
 refine x_enter 10 Tryz.func15 rfl rfl (fun a hs hd ha0 => ?_)
 have t0 : a.eval (.tmp 0) = .pointer none := ha0 0 _ rfl
 clear ha0
 refine w2_sr (fun K_1 hK_1 => ?_)
 refine q_as (.int .i64 ((0 : Nat) : Int)) rfl ?_
 refine x_nil (hK_1 _ _ ?_)
 refine w2_seq (fun K_2 hK_2 => ?_)
 refine w2_sr (fun K_3 hK_3 => ?_)
 refine q_mv ((pm rfl).trans t0) ?_
 refine q_v 4 (.bool (true)) (o_nil (b := true) rfl (pe hs rfl rfl) rfl rfl ⟨58, fun _ => by kernel_rfl⟩) ?_
 refine x_nil (hK_3 _ _ ?_)
 refine w2_condT (pe hs rfl rfl) ?_
 refine w2_sr (fun K_4 hK_4 => ?_)
 refine q_as (.int .i64 ((0 : Nat) : Int)) rfl ?_
 refine x_nil (hK_4 _ _ ?_)
 refine w2_ret ?_
 refine thn_ret ?_
 refine ret1 rfl hd (pe hs rfl rfl) ?_
 exact ⟨rfl, rfl⟩
theorem Up_nil (w : World) :
  Calls Tryz.prog 16 #[.pointer none] w fun e w' => e = .returned (.bool false) ∧ w = w' := by
 refine x_enter 12 Tryz.func16 rfl rfl (fun a hs hd ha0 => ?_)
 have t0 : a.eval (.tmp 0) = .pointer none := ha0 0 _ rfl
 clear ha0
 refine w2_sr (fun K_1 hK_1 => ?_)
 refine q_as (.bool (false)) rfl ?_
 refine x_nil (hK_1 _ _ ?_)
 refine w2_sr (fun K_2 hK_2 => ?_)
 refine q_mv ((pm rfl).trans t0) ?_
 refine q_v 4 (.bool (false)) (o_nilN (b := true) rfl (pe hs rfl rfl) rfl rfl ⟨58, fun _ => by kernel_rfl⟩) ?_
 refine q_mv (pe hs rfl rfl) ?_
 refine op_left (e := 5) rfl rfl (by kernel_rfl) (pe hs rfl rfl) rfl ?_
 refine op_left (e := 5) rfl rfl (by kernel_rfl) (pe hs rfl rfl) rfl ?_
 refine op_left (e := 5) rfl rfl (by kernel_rfl) (pe hs rfl rfl) rfl ?_
 refine op_left (e := 5) rfl rfl (by kernel_rfl) (pe hs rfl rfl) rfl ?_
 refine op_left (e := 5) rfl rfl (by kernel_rfl) (pe hs rfl rfl) rfl ?_
 refine q_v 11 (.bool (false)) (o_pickF rfl (pe hs rfl rfl) rfl) ?_
 refine q_at (pe hs rfl rfl) ?_
 refine x_nil (hK_2 _ _ ?_)
 refine w2_ret ?_
 refine ret1 rfl hd (pe hs rfl rfl) ?_
 exact ⟨rfl, rfl⟩
set_option maxHeartbeats 2000000 in
theorem ClientNil_any {A0 : Option Addr} {c0 q : Nat} {d i n : Int} (w : World) :
  Calls Tryz.prog 5 #[.agg #[.int .i64 (d), .int .i64 (i), .slice A0 (q) (c0), .int .i64 (n)]] w fun e w' => e = .returned (.bool true) ∧ Below w.heap.size w w' := by
 refine x_enter 61 Tryz.func5 rfl rfl (fun a hs hd ha0 => ?_)
 have t0 : a.eval (.tmp 0) = .agg #[.int .i64 (d), .int .i64 (i), .slice A0 (q) (c0), .int .i64 (n)] := ha0 0 _ rfl
 clear ha0
 refine w2_sr (fun K_1 hK_1 => ?_)
 refine op_ex (d := 1) rfl rfl (o_boxL (cs := #[.int .i64 (d), .int .i64 (i), .slice A0 (q) (c0), .int .i64 (n)]) rfl ((pm rfl).trans t0)) (fun v_1 w_1 hR_1 => ?_)
 obtain ⟨g_1, rfl, hle_1, hB_1, hb_1⟩ := hR_1
 refine q_as (.bool (false)) rfl ?_
 refine x_nil (hK_1 _ _ ?_)
 refine w2_sr (fun K_2 hK_2 => ?_)
 refine q_as (.pointer none) rfl ?_
 refine x_nil (hK_2 _ _ ?_)
 refine w2_seq (fun K_3 hK_3 => ?_)
 refine x_drawn 47 ((fun _ v => v = .pointer none) :: (fun _ v => v = .pointer (some ⟨g_1, 1, none⟩)) :: (fun _ v => v = .int .i64 (i)) :: (fun _ v => v = .pointer (some ⟨g_1, 2, none⟩)) :: (fun _ v => v = .slice A0 (q) (c0)) :: (fun ww vv => vv = .slice none (0) (0)) :: (fun _ v => v = .int .i64 ((0 : Nat) : Int)) :: (fun _ v => v = .pointer none) :: (fun _ v => v = .pointer (some ⟨g_1, 1, none⟩)) :: (fun _ v => v = .int .i64 (i)) :: (fun ww vv => vv = .slice none (0) (0)) :: (fun _ v => v = .int .i64 ((0 : Nat) : Int)) :: (fun _ v => v = .int .i64 ((0 : Nat) : Int)) :: (fun _ v => v = .pointer none) :: (fun _ v => v = .pointer (some ⟨g_1, 1, none⟩)) :: (fun _ v => v = .int .i64 (i)) :: (fun ww vv => vv = .slice none (0) (0)) :: (fun _ v => v = .int .i64 ((0 : Nat) : Int)) :: (fun _ v => v = .int .i64 ((0 : Nat) : Int)) :: (fun _ v => v = .pointer none) :: (fun _ v => v = .pointer (some ⟨g_1, 2, none⟩)) :: (fun _ v => v = .slice A0 (q) (c0)) :: (fun _ v => v = .pointer (some ⟨g_1, 3, none⟩)) :: (fun _ v => v = .int .i64 (n)) :: (fun ww vv => vv = .slice none (0) (0)) :: (fun _ v => v = .int .i64 ((0 : Nat) : Int)) :: (fun _ v => v = .int .i64 ((0 : Nat) : Int)) :: (fun _ v => v = .pointer none) :: (fun _ v => v = .pointer (some ⟨g_1, 2, none⟩)) :: (fun _ v => v = .slice A0 (q) (c0)) :: (fun _ v => v = .pointer (some ⟨g_1, 3, none⟩)) :: (fun _ v => v = .int .i64 (n)) :: (fun ww vv => vv = .slice none (0) (0)) :: (fun _ v => v = .int .i64 ((0 : Nat) : Int)) :: (fun _ v => v = .int .i64 ((0 : Nat) : Int)) :: (fun _ v => v = .pointer none) :: (fun ww vv => vv = .slice none (0) (0)) :: (fun _ v => v = .int .i64 ((0 : Nat) : Int)) :: (fun _ v => v = .int .i64 ((0 : Nat) : Int)) :: (fun _ v => v = .pointer none) :: (fun _ v => v = .pointer (some ⟨g_1, 3, none⟩)) :: (fun _ v => v = .int .i64 (n)) :: (fun ww vv => vv = .slice none (0) (0)) :: (fun _ v => v = .int .i64 ((0 : Nat) : Int)) :: (fun _ v => v = .int .i64 ((0 : Nat) : Int)) :: (fun _ v => v = .pointer none) :: (fun ww vv => vv = .int .i64 ((0 : Nat) : Int)) :: []) [4, 5, 6, 7, 8, 9, 10, 11, 12, 13, 14, 15, 16, 17, 18, 19, 20, 21, 22, 23, 24, 25, 26, 27, 28, 29, 30, 31, 32, 33, 34, 35, 36, 37, 38, 39, 40, 41, 42, 43, 44, 45, 46, 47, 48, 49, 50] hs hd (by kernel_rfl) (by kernel_rfl) (by kernel_rfl) (by kernel_rfl) (by kernel_rfl) ⟨stLit, stLit, stLit, stLit, stLit, stLit, stLit, stLit, stLit, stLit, stLit, stLit, stLit, stLit, stLit, stLit, stLit, stLit, stLit, stLit, stLit, stLit, stLit, stLit, stLit, stLit, stLit, stLit, stLit, stLit, stLit, stLit, stLit, stLit, stLit, stLit, stLit, stLit, stLit, stLit, stLit, stLit, stLit, stLit, stLit, stLit, stLit, trivial⟩ ⟨(step_ok rfl (fun a' w' hb' hO hD => by
   have d_1 : a'.eval (.tmp 3) = .pointer none := (hO 3 (by decide)).trans (pe hs rfl rfl)
   exact .inl ⟨_, _, (o_move rfl d_1), rfl, Below.refl _ _⟩)),
(step_ok rfl (fun a' w' hb' hO hD => by
   have d_2 : a'.eval (.tmp 1) = .pointer (some ⟨g_1, 0, none⟩) := (hO 1 (by decide)).trans (pe hs rfl rfl)
   exact .inl ⟨_, _, (o_field (k' := 1) rfl d_2 (fun _ => by kernel_rfl)), rfl, Below.refl _ _⟩)),
(step_ok rfl (fun a' w' hb' hO hD => by
   have d_3 : a'.eval (.tmp 5) = .pointer (some ⟨g_1, 1, none⟩) := hD 1 5 (by kernel_rfl) rfl
   exact .inl ⟨_, _, (o_load1 rfl d_3 (hB_1.nx hb') rfl ⟨by kernel_rfl, by kernel_rfl⟩), rfl, Below.refl _ _⟩)),
(step_ok rfl (fun a' w' hb' hO hD => by
   have d_4 : a'.eval (.tmp 1) = .pointer (some ⟨g_1, 0, none⟩) := (hO 1 (by decide)).trans (pe hs rfl rfl)
   exact .inl ⟨_, _, (o_field (k' := 2) rfl d_4 (fun _ => by kernel_rfl)), rfl, Below.refl _ _⟩)),
(step_ok rfl (fun a' w' hb' hO hD => by
   have d_5 : a'.eval (.tmp 7) = .pointer (some ⟨g_1, 2, none⟩) := hD 3 7 (by kernel_rfl) rfl
   exact .inl ⟨_, _, (o_load1 rfl d_5 (hB_1.nx hb') rfl ⟨by kernel_rfl, by kernel_rfl⟩), rfl, Below.refl _ _⟩)),
(step_ok rfl (fun a' w' hb' hO hD => by
   have d_6 : a'.eval (.tmp 4) = .pointer none := hD 0 4 (by kernel_rfl) rfl
   have d_7 : a'.eval (.tmp 6) = .int .i64 (i) := hD 2 6 (by kernel_rfl) rfl
   have d_8 : a'.eval (.tmp 8) = .slice A0 (q) (c0) := hD 4 8 (by kernel_rfl) rfl
   exact .inr ⟨_, #[.pointer none, .int .i64 (i), .slice A0 (q) (c0)], (exec_call Tryz.func11 (by kernel_rfl) (by kernel_rfl) _ rfl _ _ (args3 d_6 d_7 d_8)), Calls.mono (CApp_nil _) (fun e w'' hR => by obtain ⟨rfl, rfl⟩ := hR; exact ⟨_, rfl, rfl, (Below.refl _ _)⟩)⟩)),
(step_ok rfl (fun a' w' hb' hO hD => by
   have d_9 : a'.eval (.tmp 9) = .slice none (0) (0) := hD 5 9 (by kernel_rfl) rfl
   exact .inl ⟨_, _, (o_lenE rfl d_9), rfl, Below.refl _ _⟩)),
(step_ok rfl (fun a' w' hb' hO hD => by
   have d_10 : a'.eval (.tmp 3) = .pointer none := (hO 3 (by decide)).trans (pe hs rfl rfl)
   exact .inl ⟨_, _, (o_move rfl d_10), rfl, Below.refl _ _⟩)),
(step_ok rfl (fun a' w' hb' hO hD => by
   have d_11 : a'.eval (.tmp 1) = .pointer (some ⟨g_1, 0, none⟩) := (hO 1 (by decide)).trans (pe hs rfl rfl)
   exact .inl ⟨_, _, (o_field (k' := 1) rfl d_11 (fun _ => by kernel_rfl)), rfl, Below.refl _ _⟩)),
(step_ok rfl (fun a' w' hb' hO hD => by
   have d_12 : a'.eval (.tmp 12) = .pointer (some ⟨g_1, 1, none⟩) := hD 8 12 (by kernel_rfl) rfl
   exact .inl ⟨_, _, (o_load1 rfl d_12 (hB_1.nx hb') rfl ⟨by kernel_rfl, by kernel_rfl⟩), rfl, Below.refl _ _⟩)),
(step_ok rfl (fun a' w' hb' hO hD => by
   have d_13 : a'.eval (.tmp 11) = .pointer none := hD 7 11 (by kernel_rfl) rfl
   have d_14 : a'.eval (.tmp 13) = .int .i64 (i) := hD 9 13 (by kernel_rfl) rfl
   exact .inr ⟨_, #[.pointer none, .int .i64 (i)], (exec_call Tryz.func12 (by kernel_rfl) (by kernel_rfl) _ rfl _ _ (args2 d_13 d_14)), Calls.mono (CAppEnd_nil _) (fun e w'' hR => by obtain ⟨rfl, rfl⟩ := hR; exact ⟨_, rfl, rfl, (Below.refl _ _)⟩)⟩)),
(step_ok rfl (fun a' w' hb' hO hD => by
   have d_15 : a'.eval (.tmp 14) = .slice none (0) (0) := hD 10 14 (by kernel_rfl) rfl
   exact .inl ⟨_, _, (o_lenE rfl d_15), rfl, Below.refl _ _⟩)),
(step_ok rfl (fun a' w' hb' hO hD => by
   have d_16 : a'.eval (.tmp 10) = .int .i64 ((0 : Nat) : Int) := hD 6 10 (by kernel_rfl) rfl
   have d_17 : a'.eval (.tmp 15) = .int .i64 ((0 : Nat) : Int) := hD 11 15 (by kernel_rfl) rfl
   have e0 : (.int .i64 ((0 + 0 : Nat) : Int) : Value) = .int .i64 ((0 : Nat) : Int) := rfl
   exact .inl ⟨_, _, (o_add64 (m := 0) (n := 0) rfl d_16 d_17 (by omega)), e0, Below.refl _ _⟩)),
(step_ok rfl (fun a' w' hb' hO hD => by
   have d_18 : a'.eval (.tmp 3) = .pointer none := (hO 3 (by decide)).trans (pe hs rfl rfl)
   exact .inl ⟨_, _, (o_move rfl d_18), rfl, Below.refl _ _⟩)),
(step_ok rfl (fun a' w' hb' hO hD => by
   have d_19 : a'.eval (.tmp 1) = .pointer (some ⟨g_1, 0, none⟩) := (hO 1 (by decide)).trans (pe hs rfl rfl)
   exact .inl ⟨_, _, (o_field (k' := 1) rfl d_19 (fun _ => by kernel_rfl)), rfl, Below.refl _ _⟩)),
(step_ok rfl (fun a' w' hb' hO hD => by
   have d_20 : a'.eval (.tmp 18) = .pointer (some ⟨g_1, 1, none⟩) := hD 14 18 (by kernel_rfl) rfl
   exact .inl ⟨_, _, (o_load1 rfl d_20 (hB_1.nx hb') rfl ⟨by kernel_rfl, by kernel_rfl⟩), rfl, Below.refl _ _⟩)),
(step_ok rfl (fun a' w' hb' hO hD => by
   have d_21 : a'.eval (.tmp 17) = .pointer none := hD 13 17 (by kernel_rfl) rfl
   have d_22 : a'.eval (.tmp 19) = .int .i64 (i) := hD 15 19 (by kernel_rfl) rfl
   exact .inr ⟨_, #[.pointer none, .int .i64 (i)], (exec_call Tryz.func13 (by kernel_rfl) (by kernel_rfl) _ rfl _ _ (args2 d_21 d_22)), Calls.mono (CAppCut_nil _) (fun e w'' hR => by obtain ⟨rfl, rfl⟩ := hR; exact ⟨_, rfl, rfl, (Below.refl _ _)⟩)⟩)),
(step_ok rfl (fun a' w' hb' hO hD => by
   have d_23 : a'.eval (.tmp 20) = .slice none (0) (0) := hD 16 20 (by kernel_rfl) rfl
   exact .inl ⟨_, _, (o_lenE rfl d_23), rfl, Below.refl _ _⟩)),
(step_ok rfl (fun a' w' hb' hO hD => by
   have d_24 : a'.eval (.tmp 16) = .int .i64 ((0 : Nat) : Int) := hD 12 16 (by kernel_rfl) rfl
   have d_25 : a'.eval (.tmp 21) = .int .i64 ((0 : Nat) : Int) := hD 17 21 (by kernel_rfl) rfl
   have e0 : (.int .i64 ((0 + 0 : Nat) : Int) : Value) = .int .i64 ((0 : Nat) : Int) := rfl
   exact .inl ⟨_, _, (o_add64 (m := 0) (n := 0) rfl d_24 d_25 (by omega)), e0, Below.refl _ _⟩)),
(step_ok rfl (fun a' w' hb' hO hD => by
   have d_26 : a'.eval (.tmp 3) = .pointer none := (hO 3 (by decide)).trans (pe hs rfl rfl)
   exact .inl ⟨_, _, (o_move rfl d_26), rfl, Below.refl _ _⟩)),
(step_ok rfl (fun a' w' hb' hO hD => by
   have d_27 : a'.eval (.tmp 1) = .pointer (some ⟨g_1, 0, none⟩) := (hO 1 (by decide)).trans (pe hs rfl rfl)
   exact .inl ⟨_, _, (o_field (k' := 2) rfl d_27 (fun _ => by kernel_rfl)), rfl, Below.refl _ _⟩)),
(step_ok rfl (fun a' w' hb' hO hD => by
   have d_28 : a'.eval (.tmp 24) = .pointer (some ⟨g_1, 2, none⟩) := hD 20 24 (by kernel_rfl) rfl
   exact .inl ⟨_, _, (o_load1 rfl d_28 (hB_1.nx hb') rfl ⟨by kernel_rfl, by kernel_rfl⟩), rfl, Below.refl _ _⟩)),
(step_ok rfl (fun a' w' hb' hO hD => by
   have d_29 : a'.eval (.tmp 1) = .pointer (some ⟨g_1, 0, none⟩) := (hO 1 (by decide)).trans (pe hs rfl rfl)
   exact .inl ⟨_, _, (o_field (k' := 3) rfl d_29 (fun _ => by kernel_rfl)), rfl, Below.refl _ _⟩)),
(step_ok rfl (fun a' w' hb' hO hD => by
   have d_30 : a'.eval (.tmp 26) = .pointer (some ⟨g_1, 3, none⟩) := hD 22 26 (by kernel_rfl) rfl
   exact .inl ⟨_, _, (o_load1 rfl d_30 (hB_1.nx hb') rfl ⟨by kernel_rfl, by kernel_rfl⟩), rfl, Below.refl _ _⟩)),
(step_ok rfl (fun a' w' hb' hO hD => by
   have d_31 : a'.eval (.tmp 23) = .pointer none := hD 19 23 (by kernel_rfl) rfl
   have d_32 : a'.eval (.tmp 25) = .slice A0 (q) (c0) := hD 21 25 (by kernel_rfl) rfl
   have d_33 : a'.eval (.tmp 27) = .int .i64 (n) := hD 23 27 (by kernel_rfl) rfl
   exact .inr ⟨_, #[.pointer none, .slice A0 (q) (c0), .int .i64 (n)], (exec_call Tryz.func8 (by kernel_rfl) (by kernel_rfl) _ rfl _ _ (args3 d_31 d_32 d_33)), Calls.mono (Dial_nil _) (fun e w'' hR => by obtain ⟨rfl, rfl⟩ := hR; exact ⟨_, rfl, rfl, (Below.refl _ _)⟩)⟩)),
(step_ok rfl (fun a' w' hb' hO hD => by
   have d_34 : a'.eval (.tmp 28) = .slice none (0) (0) := hD 24 28 (by kernel_rfl) rfl
   exact .inl ⟨_, _, (o_lenE rfl d_34), rfl, Below.refl _ _⟩)),
(step_ok rfl (fun a' w' hb' hO hD => by
   have d_35 : a'.eval (.tmp 22) = .int .i64 ((0 : Nat) : Int) := hD 18 22 (by kernel_rfl) rfl
   have d_36 : a'.eval (.tmp 29) = .int .i64 ((0 : Nat) : Int) := hD 25 29 (by kernel_rfl) rfl
   have e0 : (.int .i64 ((0 + 0 : Nat) : Int) : Value) = .int .i64 ((0 : Nat) : Int) := rfl
   exact .inl ⟨_, _, (o_add64 (m := 0) (n := 0) rfl d_35 d_36 (by omega)), e0, Below.refl _ _⟩)),
(step_ok rfl (fun a' w' hb' hO hD => by
   have d_37 : a'.eval (.tmp 3) = .pointer none := (hO 3 (by decide)).trans (pe hs rfl rfl)
   exact .inl ⟨_, _, (o_move rfl d_37), rfl, Below.refl _ _⟩)),
(step_ok rfl (fun a' w' hb' hO hD => by
   have d_38 : a'.eval (.tmp 1) = .pointer (some ⟨g_1, 0, none⟩) := (hO 1 (by decide)).trans (pe hs rfl rfl)
   exact .inl ⟨_, _, (o_field (k' := 2) rfl d_38 (fun _ => by kernel_rfl)), rfl, Below.refl _ _⟩)),
(step_ok rfl (fun a' w' hb' hO hD => by
   have d_39 : a'.eval (.tmp 32) = .pointer (some ⟨g_1, 2, none⟩) := hD 28 32 (by kernel_rfl) rfl
   exact .inl ⟨_, _, (o_load1 rfl d_39 (hB_1.nx hb') rfl ⟨by kernel_rfl, by kernel_rfl⟩), rfl, Below.refl _ _⟩)),
(step_ok rfl (fun a' w' hb' hO hD => by
   have d_40 : a'.eval (.tmp 1) = .pointer (some ⟨g_1, 0, none⟩) := (hO 1 (by decide)).trans (pe hs rfl rfl)
   exact .inl ⟨_, _, (o_field (k' := 3) rfl d_40 (fun _ => by kernel_rfl)), rfl, Below.refl _ _⟩)),
(step_ok rfl (fun a' w' hb' hO hD => by
   have d_41 : a'.eval (.tmp 34) = .pointer (some ⟨g_1, 3, none⟩) := hD 30 34 (by kernel_rfl) rfl
   exact .inl ⟨_, _, (o_load1 rfl d_41 (hB_1.nx hb') rfl ⟨by kernel_rfl, by kernel_rfl⟩), rfl, Below.refl _ _⟩)),
(step_ok rfl (fun a' w' hb' hO hD => by
   have d_42 : a'.eval (.tmp 31) = .pointer none := hD 27 31 (by kernel_rfl) rfl
   have d_43 : a'.eval (.tmp 33) = .slice A0 (q) (c0) := hD 29 33 (by kernel_rfl) rfl
   have d_44 : a'.eval (.tmp 35) = .int .i64 (n) := hD 31 35 (by kernel_rfl) rfl
   exact .inr ⟨_, #[.pointer none, .slice A0 (q) (c0), .int .i64 (n)], (exec_call Tryz.func14 (by kernel_rfl) (by kernel_rfl) _ rfl _ _ (args3 d_42 d_43 d_44)), Calls.mono (CLine_nil _) (fun e w'' hR => by obtain ⟨rfl, rfl⟩ := hR; exact ⟨_, rfl, rfl, (Below.refl _ _)⟩)⟩)),
(step_ok rfl (fun a' w' hb' hO hD => by
   have d_45 : a'.eval (.tmp 36) = .slice none (0) (0) := hD 32 36 (by kernel_rfl) rfl
   exact .inl ⟨_, _, (o_lenE rfl d_45), rfl, Below.refl _ _⟩)),
(step_ok rfl (fun a' w' hb' hO hD => by
   have d_46 : a'.eval (.tmp 30) = .int .i64 ((0 : Nat) : Int) := hD 26 30 (by kernel_rfl) rfl
   have d_47 : a'.eval (.tmp 37) = .int .i64 ((0 : Nat) : Int) := hD 33 37 (by kernel_rfl) rfl
   have e0 : (.int .i64 ((0 + 0 : Nat) : Int) : Value) = .int .i64 ((0 : Nat) : Int) := rfl
   exact .inl ⟨_, _, (o_add64 (m := 0) (n := 0) rfl d_46 d_47 (by omega)), e0, Below.refl _ _⟩)),
(step_ok rfl (fun a' w' hb' hO hD => by
   have d_48 : a'.eval (.tmp 3) = .pointer none := (hO 3 (by decide)).trans (pe hs rfl rfl)
   exact .inl ⟨_, _, (o_move rfl d_48), rfl, Below.refl _ _⟩)),
(step_ok rfl (fun a' w' hb' hO hD => by
   have d_49 : a'.eval (.tmp 39) = .pointer none := hD 35 39 (by kernel_rfl) rfl
   exact .inr ⟨_, #[.pointer none], (exec_call Tryz.func9 (by kernel_rfl) (by kernel_rfl) _ rfl _ _ (args1 d_49)), Calls.mono (LineCut_nil _) (fun e w'' hR => by obtain ⟨rfl, rfl⟩ := hR; exact ⟨_, rfl, rfl, (Below.refl _ _)⟩)⟩)),
(step_ok rfl (fun a' w' hb' hO hD => by
   have d_50 : a'.eval (.tmp 40) = .slice none (0) (0) := hD 36 40 (by kernel_rfl) rfl
   exact .inl ⟨_, _, (o_lenE rfl d_50), rfl, Below.refl _ _⟩)),
(step_ok rfl (fun a' w' hb' hO hD => by
   have d_51 : a'.eval (.tmp 38) = .int .i64 ((0 : Nat) : Int) := hD 34 38 (by kernel_rfl) rfl
   have d_52 : a'.eval (.tmp 41) = .int .i64 ((0 : Nat) : Int) := hD 37 41 (by kernel_rfl) rfl
   have e0 : (.int .i64 ((0 + 0 : Nat) : Int) : Value) = .int .i64 ((0 : Nat) : Int) := rfl
   exact .inl ⟨_, _, (o_add64 (m := 0) (n := 0) rfl d_51 d_52 (by omega)), e0, Below.refl _ _⟩)),
(step_ok rfl (fun a' w' hb' hO hD => by
   have d_53 : a'.eval (.tmp 3) = .pointer none := (hO 3 (by decide)).trans (pe hs rfl rfl)
   exact .inl ⟨_, _, (o_move rfl d_53), rfl, Below.refl _ _⟩)),
(step_ok rfl (fun a' w' hb' hO hD => by
   have d_54 : a'.eval (.tmp 1) = .pointer (some ⟨g_1, 0, none⟩) := (hO 1 (by decide)).trans (pe hs rfl rfl)
   exact .inl ⟨_, _, (o_field (k' := 3) rfl d_54 (fun _ => by kernel_rfl)), rfl, Below.refl _ _⟩)),
(step_ok rfl (fun a' w' hb' hO hD => by
   have d_55 : a'.eval (.tmp 44) = .pointer (some ⟨g_1, 3, none⟩) := hD 40 44 (by kernel_rfl) rfl
   exact .inl ⟨_, _, (o_load1 rfl d_55 (hB_1.nx hb') rfl ⟨by kernel_rfl, by kernel_rfl⟩), rfl, Below.refl _ _⟩)),
(step_ok rfl (fun a' w' hb' hO hD => by
   have d_56 : a'.eval (.tmp 43) = .pointer none := hD 39 43 (by kernel_rfl) rfl
   have d_57 : a'.eval (.tmp 45) = .int .i64 (n) := hD 41 45 (by kernel_rfl) rfl
   exact .inr ⟨_, #[.pointer none, .int .i64 (n)], (exec_call Tryz.func10 (by kernel_rfl) (by kernel_rfl) _ rfl _ _ (args2 d_56 d_57)), Calls.mono (Tick_nil _) (fun e w'' hR => by obtain ⟨rfl, hb_8⟩ := hR; exact ⟨_, rfl, rfl, hb_8⟩)⟩)),
(step_ok rfl (fun a' w' hb' hO hD => by
   have d_58 : a'.eval (.tmp 46) = .slice none (0) (0) := hD 42 46 (by kernel_rfl) rfl
   exact .inl ⟨_, _, (o_lenE rfl d_58), rfl, Below.refl _ _⟩)),
(step_ok rfl (fun a' w' hb' hO hD => by
   have d_59 : a'.eval (.tmp 42) = .int .i64 ((0 : Nat) : Int) := hD 38 42 (by kernel_rfl) rfl
   have d_60 : a'.eval (.tmp 47) = .int .i64 ((0 : Nat) : Int) := hD 43 47 (by kernel_rfl) rfl
   have e0 : (.int .i64 ((0 + 0 : Nat) : Int) : Value) = .int .i64 ((0 : Nat) : Int) := rfl
   exact .inl ⟨_, _, (o_add64 (m := 0) (n := 0) rfl d_59 d_60 (by omega)), e0, Below.refl _ _⟩)),
(step_ok rfl (fun a' w' hb' hO hD => by
   have d_61 : a'.eval (.tmp 3) = .pointer none := (hO 3 (by decide)).trans (pe hs rfl rfl)
   exact .inl ⟨_, _, (o_move rfl d_61), rfl, Below.refl _ _⟩)),
(step_ok rfl (fun a' w' hb' hO hD => by
   have d_62 : a'.eval (.tmp 49) = .pointer none := hD 45 49 (by kernel_rfl) rfl
   exact .inr ⟨_, #[.pointer none], (exec_call Tryz.func15 (by kernel_rfl) (by kernel_rfl) _ rfl _ _ (args1 d_62)), Calls.mono (Len_nil _) (fun e w'' hR => by obtain ⟨rfl, rfl⟩ := hR; exact ⟨_, rfl, rfl, (Below.refl _ _)⟩)⟩)), trivial⟩ (fun a_1 w_2 hs_1 hd_1 hb_10 hO_1 hV_1 => ?_)
 have ta_1_3 : a_1.eval (.tmp 3) = .pointer none := (hO_1 3 (by decide)).trans (pe hs rfl rfl)
 clear t0 hd
 have HB_1 := below_from hb_1 hb_10
 have ta_1_48 : a_1.eval (.tmp 48) = .int .i64 ((0 : Nat) : Int) := hV_1 44 48 rfl rfl
 have ta_1_50 : a_1.eval (.tmp 50) = .int .i64 ((0 : Nat) : Int) := hV_1 46 50 rfl rfl
 clear hV_1 hO_1
 simp only [List.drop_succ_cons, List.drop_zero]
 refine q_v 51 (.int .i64 ((0 : Nat) : Int)) (o_eq (o_add64 (m := 0) (n := 0) rfl ((pm rfl).trans ta_1_48) ((pm rfl).trans ta_1_50) (by omega)) rfl) ?_
 refine q_v 52 (.bool (true)) (o_eq (o_eql (m := 0) (n := 0) rfl (pe hs_1 rfl rfl) rfl) rfl) ?_
 refine q_mv (pe hs_1 rfl rfl) ?_
 refine op_valG (e := 53) (d := 54) (v := .pointer none) rfl rfl (by kernel_rfl) (pe hs_1 rfl rfl) (o_move rfl ((pm rfl).trans ta_1_3)) ?_
 refine op_callG (e := 53) (vs := #[.pointer none]) rfl rfl (by kernel_rfl) (pe hs_1 rfl rfl) (exec_call Tryz.func16 (by kernel_rfl) (by kernel_rfl) _ rfl _ _ (args1 (pe hs_1 rfl rfl))) (Up_nil _) (fun e_1 w_3 hR_2 => ?_)
 obtain ⟨rfl, rfl⟩ := hR_2
 refine ⟨_, rfl, ?_⟩
 refine op_valG (e := 53) (d := 56) (v := .bool (true)) rfl rfl (by kernel_rfl) (pe hs_1 rfl rfl) (o_not (b := false) rfl (pe hs_1 rfl rfl)) ?_
 refine q_v 57 (.bool (true)) (o_pickT rfl (pe hs_1 rfl rfl) (pe hs_1 rfl rfl)) ?_
 refine q_mv (pe hs_1 rfl rfl) ?_
 refine op_callG (e := 58) (vs := #[]) rfl rfl (by kernel_rfl) (pe hs_1 rfl rfl) (exec_call Tryz.func6 (by kernel_rfl) (by kernel_rfl) _ rfl _ _ (args0)) (awake23_any _) (fun e_2 w_4 hR_3 => ?_)
 obtain ⟨rfl, hb_13⟩ := hR_3
 have HB_2 := below_from HB_1 hb_13
 refine ⟨_, rfl, ?_⟩
 refine q_v 60 (.bool (true)) (o_pickT rfl (pe hs_1 rfl rfl) (pe hs_1 rfl rfl)) ?_
 refine q_at (pe hs_1 rfl rfl) ?_
 refine x_nil (hK_3 _ _ ?_)
 refine w2_ret ?_
 refine ret1 rfl hd_1 (pe hs_1 rfl rfl) ?_
 exact ⟨rfl, HB_2⟩
end Go.Proofs.YtodhdajelnfhpaaGreat
