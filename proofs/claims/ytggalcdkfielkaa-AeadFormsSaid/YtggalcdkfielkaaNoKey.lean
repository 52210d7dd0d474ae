/-
 WALKS: keys and nonces that may not be: both sides answer nothing and 1.
-/
import Derived.Test.YtggalcdkfielkaaRAead
import Derived.Test.YtggalcdkfielkaaAwake9
namespace Go.Proofs.Ytggalcdkfielkaa
open Go.RowKit
set_option linter.unusedVariables false
set_option linter.unusedSimpArgs false
set_option maxRecDepth 100000
attribute [local irreducible] wpList wpListIn putsR

theorem may_no1 {A B : Option Addr} {c d m k : Nat} (w : World) (h32 : ¬ m = 32) :
  Calls Try.prog 51 #[.slice A (m) (c), .slice B (k) (d)] w fun e w' => e = .returned (.bool false) ∧ w = w' := by
 refine x_enter 13 Try.func51 rfl rfl (fun a hs hd ha0 => ?_)
 have t0 : a.eval (.tmp 0) = .slice A (m) (c) := ha0 0 _ rfl
 clear ha0
 refine w2_sr (fun K_1 hK_1 => ?_)
 refine q_as (.bool (false)) rfl ?_
 refine x_nil (hK_1 _ _ ?_)
 refine w2_sr (fun K_2 hK_2 => ?_)
 refine q_mv ((pm rfl).trans t0) ?_
 refine q_v 6 (.int .i64 ((m : Nat) : Int)) (o_len rfl (pe hs rfl rfl)) ?_
 refine q_v 7 (.bool (false)) (o_eq (o_eql (m := m) (n := 32) rfl (pe hs rfl rfl) rfl) (by rw [decide_eq_false h32])) ?_
 refine q_mv (pe hs rfl rfl) ?_
 refine op_left (e := 8) rfl rfl (by kernel_rfl) (pe hs rfl rfl) rfl ?_
 refine op_left (e := 8) rfl rfl (by kernel_rfl) (pe hs rfl rfl) rfl ?_
 refine op_left (e := 8) rfl rfl (by kernel_rfl) (pe hs rfl rfl) rfl ?_
 refine q_v 12 (.bool (false)) (o_pickF rfl (pe hs rfl rfl) rfl) ?_
 refine q_at (pe hs rfl rfl) ?_
 refine x_nil (hK_2 _ _ ?_)
 refine w2_ret ?_
 refine ret1 rfl hd (pe hs rfl rfl) ?_
 exact ⟨rfl, rfl⟩
theorem may_no2 {A B : Option Addr} {c d m k : Nat} (w : World) (h32 : m = 32) (h12 : ¬ k = 12) :
  Calls Try.prog 51 #[.slice A (m) (c), .slice B (k) (d)] w fun e w' => e = .returned (.bool false) ∧ w = w' := by
 refine x_enter 13 Try.func51 rfl rfl (fun a hs hd ha0 => ?_)
 have t0 : a.eval (.tmp 0) = .slice A (m) (c) := ha0 0 _ rfl
 have t1 : a.eval (.tmp 1) = .slice B (k) (d) := ha0 1 _ rfl
 clear ha0
 refine w2_sr (fun K_1 hK_1 => ?_)
 refine q_as (.bool (false)) rfl ?_
 refine x_nil (hK_1 _ _ ?_)
 refine w2_sr (fun K_2 hK_2 => ?_)
 refine q_mv ((pm rfl).trans t0) ?_
 refine q_v 6 (.int .i64 ((m : Nat) : Int)) (o_len rfl (pe hs rfl rfl)) ?_
 refine q_v 7 (.bool (true)) (o_eq (o_eql (m := m) (n := 32) rfl (pe hs rfl rfl) rfl) (by rw [decide_eq_true h32])) ?_
 refine q_mv (pe hs rfl rfl) ?_
 refine op_valG (e := 8) (d := 9) (v := .slice B (k) (d)) rfl rfl (by kernel_rfl) (pe hs rfl rfl) (o_move rfl ((pm rfl).trans t1)) ?_
 refine op_valG (e := 8) (d := 10) (v := .int .i64 ((k : Nat) : Int)) rfl rfl (by kernel_rfl) (pe hs rfl rfl) (o_len rfl (pe hs rfl rfl)) ?_
 refine op_valG (e := 8) (d := 11) (v := .bool (false)) rfl rfl (by kernel_rfl) (pe hs rfl rfl) (o_eq (o_eql (m := k) (n := 12) rfl (pe hs rfl rfl) rfl) (by rw [decide_eq_false h12])) ?_
 refine q_v 12 (.bool (false)) (o_pickT rfl (pe hs rfl rfl) (pe hs rfl rfl)) ?_
 refine q_at (pe hs rfl rfl) ?_
 refine x_nil (hK_2 _ _ ?_)
 refine w2_ret ?_
 refine ret1 rfl hd (pe hs rfl rfl) ?_
 exact ⟨rfl, rfl⟩
theorem may_no {A B : Option Addr} {c d m k : Nat} (w : World) (hbad : ¬ (m = 32 ∧ k = 12)) : Calls Try.prog 51 #[.slice A (m) (c), .slice B (k) (d)] w fun e w' => e = .returned (.bool false) ∧ w = w' := by
 by_cases h : m = 32
 ·exact may_no2 w h (fun h2 => hbad ⟨h, h2⟩)
 ·exact may_no1 w h
theorem Block_no {A B : Option Addr} {c d m k : Nat} (n : Nat) (w : World) (hbad : ¬ (m = 32 ∧ k = 12)) :
  Calls Try.prog 55 #[.slice A (m) (c), .slice B (k) (d), .int .u32 ((n : Nat) : Int)] w fun e w' => e = .returned (.tuple #[.slice none 0 0, .int .i64 ((1 : Nat) : Int)]) ∧ Below w.heap.size w w' := by
 refine x_enter 16 Try.func55 rfl rfl (fun a hs hd ha0 => ?_)
 have t0 : a.eval (.tmp 0) = .slice A (m) (c) := ha0 0 _ rfl
 have t1 : a.eval (.tmp 1) = .slice B (k) (d) := ha0 1 _ rfl
 clear ha0
 refine w2_sr (fun K_1 hK_1 => ?_)
 refine q_as (.slice none (0) (0)) rfl ?_
 refine q_as (.int .i64 ((0 : Nat) : Int)) rfl ?_
 refine x_nil (hK_1 _ _ ?_)
 refine w2_seq (fun K_2 hK_2 => ?_)
 refine w2_sr (fun K_3 hK_3 => ?_)
 refine q_mv ((pm rfl).trans t0) ?_
 refine q_mv ((pm rfl).trans t1) ?_
 refine q_ca (vs := #[.slice A (m) (c), .slice B (k) (d)]) Try.func51 (args2 (pe hs rfl rfl) (pe hs rfl rfl)) (may_no _ hbad) (fun e_1 w_1 hR_1 => ?_)
 obtain ⟨rfl, rfl⟩ := hR_1
 refine ⟨_, rfl, ?_⟩
 refine q_v 11 (.bool (true)) (o_not (b := false) rfl (pe hs rfl rfl)) ?_
 refine x_nil (hK_3 _ _ ?_)
 refine w2_condT (pe hs rfl rfl) ?_
 refine w2_sr (fun K_4 hK_4 => ?_)
 refine q_as (.slice none (0) (0)) rfl ?_
 refine q_as (.int .i64 ((1 : Nat) : Int)) rfl ?_
 refine x_nil (hK_4 _ _ ?_)
 refine w2_ret ?_
 refine thn_ret ?_
 refine ret2 rfl hd (pe hs rfl rfl) (pe hs rfl rfl) ?_
 exact ⟨rfl, Below.refl _ _⟩
theorem Xor_no {A B C : Option Addr} {c d m k q f : Nat} (n : Nat) (w : World) (hbad : ¬ (m = 32 ∧ k = 12)) :
  Calls Try.prog 30 #[.slice A (m) (c), .slice B (k) (d), .int .u32 ((n : Nat) : Int), .slice C (q) (f)] w fun e w' => e = .returned (.tuple #[.slice none 0 0, .int .i64 ((1 : Nat) : Int)]) ∧ Below w.heap.size w w' := by
 refine x_enter 30 Try.func30 rfl rfl (fun a hs hd ha0 => ?_)
 have t0 : a.eval (.tmp 0) = .slice A (m) (c) := ha0 0 _ rfl
 have t1 : a.eval (.tmp 1) = .slice B (k) (d) := ha0 1 _ rfl
 have t2 : a.eval (.tmp 2) = .int .u32 ((n : Nat) : Int) := ha0 2 _ rfl
 clear ha0
 refine w2_sr (fun K_1 hK_1 => ?_)
 refine op_ex (d := 4) rfl rfl (o_box rfl ((pm rfl).trans t0) rfl) (fun v_1 w_1 hR_1 => ?_)
 obtain ⟨g_1, rfl, hle_1, hB_1, hb_1⟩ := hR_1
 refine op_ex (d := 5) rfl rfl (o_box rfl ((pm rfl).trans t1) rfl) (fun v_2 w_2 hR_2 => ?_)
 obtain ⟨g_2, rfl, hle_2, hB_2, hb_2⟩ := hR_2
 replace hB_1 := hB_1.nx hb_2
 have HB_1 := below_from hb_1 hb_2
 refine op_ex (d := 6) rfl rfl (o_box rfl ((pm rfl).trans t2) rfl) (fun v_3 w_3 hR_3 => ?_)
 obtain ⟨g_3, rfl, hle_3, hB_3, hb_3⟩ := hR_3
 replace hB_1 := hB_1.nx hb_3
 replace hB_2 := hB_2.nx hb_3
 have HB_2 := below_from HB_1 hb_3
 refine q_as (.slice none (0) (0)) rfl ?_
 refine q_as (.int .i64 ((0 : Nat) : Int)) rfl ?_
 refine x_nil (hK_1 _ _ ?_)
 refine w2_seq (fun K_2 hK_2 => ?_)
 refine w2_sr (fun K_3 hK_3 => ?_)
 refine q_ld (v := .slice A (m) (c)) (pe hs rfl rfl) hB_1 rfl ?_
 refine q_ld (v := .slice B (k) (d)) (pe hs rfl rfl) hB_2 rfl ?_
 refine q_ca (vs := #[.slice A (m) (c), .slice B (k) (d)]) Try.func51 (args2 (pe hs rfl rfl) (pe hs rfl rfl)) (may_no _ hbad) (fun e_1 w_4 hR_4 => ?_)
 obtain ⟨rfl, rfl⟩ := hR_4
 refine ⟨_, rfl, ?_⟩
 refine q_v 15 (.bool (true)) (o_not (b := false) rfl (pe hs rfl rfl)) ?_
 refine x_nil (hK_3 _ _ ?_)
 refine w2_condT (pe hs rfl rfl) ?_
 refine w2_sr (fun K_4 hK_4 => ?_)
 refine q_as (.slice none (0) (0)) rfl ?_
 refine q_as (.int .i64 ((1 : Nat) : Int)) rfl ?_
 refine x_nil (hK_4 _ _ ?_)
 refine w2_ret ?_
 refine thn_ret ?_
 refine ret2 rfl hd (pe hs rfl rfl) (pe hs rfl rfl) ?_
 exact ⟨rfl, HB_2⟩
theorem tag_no {A B C E : Option Addr} {c d f g m k p q : Nat} (w : World) (hbad : ¬ (m = 32 ∧ k = 12)) :
  Calls Try.prog 31 #[.slice A (m) (c), .slice B (k) (d), .slice C (p) (f), .slice E (q) (g)] w fun e w' => e = .returned (.tuple #[.slice none 0 0, .int .i64 ((1 : Nat) : Int)]) ∧ Below w.heap.size w w' := by
 refine x_enter 42 Try.func31 rfl rfl (fun a hs hd ha0 => ?_)
 have t0 : a.eval (.tmp 0) = .slice A (m) (c) := ha0 0 _ rfl
 have t1 : a.eval (.tmp 1) = .slice B (k) (d) := ha0 1 _ rfl
 clear ha0
 refine w2_sr (fun K_1 hK_1 => ?_)
 refine q_as (.slice none (0) (0)) rfl ?_
 refine q_as (.int .i64 ((0 : Nat) : Int)) rfl ?_
 refine x_nil (hK_1 _ _ ?_)
 refine w2_sr (fun K_2 hK_2 => ?_)
 refine q_mv ((pm rfl).trans t0) ?_
 refine q_mv ((pm rfl).trans t1) ?_
 refine q_ca (vs := #[.slice A (m) (c), .slice B (k) (d), .int .u32 ((0 : Nat) : Int)]) Try.func55 (args3 (pe hs rfl rfl) (pe hs rfl rfl) rfl) (Block_no 0 _ hbad) (fun e_1 w_1 hR_1 => ?_)
 obtain ⟨rfl, hb_2⟩ := hR_1
 refine ⟨_, rfl, ?_⟩
 refine q_mv (pe hs rfl rfl) ?_
 refine q_ex (v := .slice none (0) (0)) (pe hs rfl rfl) rfl ?_
 refine q_ex (v := .int .i64 ((1 : Nat) : Int)) (pe hs rfl rfl) rfl ?_
 refine q_at (pe hs rfl rfl) ?_
 refine q_at (v := .int .i64 ((1 : Nat) : Int)) (pe hs rfl rfl) ?_
 refine x_nil (hK_2 _ _ ?_)
 refine w2_seq (fun K_3 hK_3 => ?_)
 refine w2_sr (fun K_4 hK_4 => ?_)
 refine q_mv (v := .int .i64 ((1 : Nat) : Int)) (pe hs rfl rfl) ?_
 refine q_v 20 (.bool (true)) (o_eq (o_neq (m := 1) (n := 0) rfl (pe hs rfl rfl) rfl) rfl) ?_
 refine x_nil (hK_4 _ _ ?_)
 refine w2_condT (pe hs rfl rfl) ?_
 refine w2_sr (fun K_5 hK_5 => ?_)
 refine q_mv (v := .int .i64 ((1 : Nat) : Int)) (pe hs rfl rfl) ?_
 refine q_as (.slice none (0) (0)) rfl ?_
 refine q_at (v := .int .i64 ((1 : Nat) : Int)) (pe hs rfl rfl) ?_
 refine x_nil (hK_5 _ _ ?_)
 refine w2_ret ?_
 refine thn_ret ?_
 refine ret2 rfl hd (pe hs rfl rfl) (pe hs rfl rfl) ?_
 exact ⟨rfl, hb_2⟩
theorem Seal_no {A B C E : Option Addr} {c d f g m k p q : Nat} (w : World) (hbad : ¬ (m = 32 ∧ k = 12)) :
  Calls Try.prog 7 #[.slice A (m) (c), .slice B (k) (d), .slice C (p) (f), .slice E (q) (g)] w fun e w' => e = .returned (.tuple #[.slice none 0 0, .int .i64 ((1 : Nat) : Int)]) ∧ Below w.heap.size w w' := by
 refine x_enter 35 Try.func7 rfl rfl (fun a hs hd ha0 => ?_)
 have t0 : a.eval (.tmp 0) = .slice A (m) (c) := ha0 0 _ rfl
 have t1 : a.eval (.tmp 1) = .slice B (k) (d) := ha0 1 _ rfl
 have t3 : a.eval (.tmp 3) = .slice E (q) (g) := ha0 3 _ rfl
 clear ha0
 refine w2_sr (fun K_1 hK_1 => ?_)
 refine q_as (.slice none (0) (0)) rfl ?_
 refine q_as (.int .i64 ((0 : Nat) : Int)) rfl ?_
 refine x_nil (hK_1 _ _ ?_)
 refine w2_sr (fun K_2 hK_2 => ?_)
 refine q_mv ((pm rfl).trans t0) ?_
 refine q_mv ((pm rfl).trans t1) ?_
 refine q_mv ((pm rfl).trans t3) ?_
 refine q_ca (vs := #[.slice A (m) (c), .slice B (k) (d), .int .u32 ((1 : Nat) : Int), .slice E (q) (g)]) Try.func30 (args4 (pe hs rfl rfl) (pe hs rfl rfl) rfl (pe hs rfl rfl)) (Xor_no 1 _ hbad) (fun e_1 w_1 hR_1 => ?_)
 obtain ⟨rfl, hb_2⟩ := hR_1
 refine ⟨_, rfl, ?_⟩
 refine q_mv (pe hs rfl rfl) ?_
 refine q_ex (v := .slice none (0) (0)) (pe hs rfl rfl) rfl ?_
 refine q_ex (v := .int .i64 ((1 : Nat) : Int)) (pe hs rfl rfl) rfl ?_
 refine q_at (pe hs rfl rfl) ?_
 refine q_at (v := .int .i64 ((1 : Nat) : Int)) (pe hs rfl rfl) ?_
 refine x_nil (hK_2 _ _ ?_)
 refine w2_seq (fun K_3 hK_3 => ?_)
 refine w2_sr (fun K_4 hK_4 => ?_)
 refine q_mv (v := .int .i64 ((1 : Nat) : Int)) (pe hs rfl rfl) ?_
 refine q_v 21 (.bool (true)) (o_eq (o_neq (m := 1) (n := 0) rfl (pe hs rfl rfl) rfl) rfl) ?_
 refine x_nil (hK_4 _ _ ?_)
 refine w2_condT (pe hs rfl rfl) ?_
 refine w2_sr (fun K_5 hK_5 => ?_)
 refine q_mv (v := .int .i64 ((1 : Nat) : Int)) (pe hs rfl rfl) ?_
 refine q_as (.slice none (0) (0)) rfl ?_
 refine q_at (v := .int .i64 ((1 : Nat) : Int)) (pe hs rfl rfl) ?_
 refine x_nil (hK_5 _ _ ?_)
 refine w2_ret ?_
 refine thn_ret ?_
 refine ret2 rfl hd (pe hs rfl rfl) (pe hs rfl rfl) ?_
 exact ⟨rfl, hb_2⟩
theorem Open_no {A B C E : Option Addr} {c d f g m k p q : Nat} {bs : List Nat} (w : World) (he : Bs w E g bs) (hq : bs.length = q) (hbad : ¬ (m = 32 ∧ k = 12)) (hql : q ≤ 17592186044416) :
  Calls Try.prog 12 #[.slice A (m) (c), .slice B (k) (d), .slice C (p) (f), .slice E (q) (g)] w fun e w' => e = .returned (.tuple #[.slice none 0 0, .int .i64 ((1 : Nat) : Int)]) ∧ Below w.heap.size w w' := by
 have hle := he.le
 refine x_enter 50 Try.func12 rfl rfl (fun a hs hd ha0 => ?_)
 have t0 : a.eval (.tmp 0) = .slice A (m) (c) := ha0 0 _ rfl
 have t1 : a.eval (.tmp 1) = .slice B (k) (d) := ha0 1 _ rfl
 have t2 : a.eval (.tmp 2) = .slice C (p) (f) := ha0 2 _ rfl
 have t3 : a.eval (.tmp 3) = .slice E (q) (g) := ha0 3 _ rfl
 clear ha0
 refine w2_sr (fun K_1 hK_1 => ?_)
 refine q_as (.slice none (0) (0)) rfl ?_
 refine q_as (.int .i64 ((0 : Nat) : Int)) rfl ?_
 refine x_nil (hK_1 _ _ ?_)
 refine w2_sr (fun K_2 hK_2 => ?_)
 refine q_mv ((pm rfl).trans t3) ?_
 refine q_v 14 (.int .i64 ((q : Nat) : Int)) (o_len rfl (pe hs rfl rfl)) ?_
 refine q_v 15 (.int .i64 (((q : Nat) : Int) - ((16 : Nat) : Int))) (o_subZ (m := q) (n := 16) rfl (pe hs rfl rfl) rfl (by omega) (by omega)) ?_
 refine q_v 16 (.int .i64 ((q - 16 : Nat) : Int)) (o_max0 (m := q) (n := 16) rfl rfl (pe hs rfl rfl)) ?_
 refine q_at (pe hs rfl rfl) ?_
 refine x_nil (hK_2 _ _ ?_)
 refine w2_sr (fun K_3 hK_3 => ?_)
 refine q_mv ((pm rfl).trans t0) ?_
 refine q_mv ((pm rfl).trans t1) ?_
 refine q_mv ((pm rfl).trans t2) ?_
 refine q_mv ((pm rfl).trans t3) ?_
 refine q_mv (pe hs rfl rfl) ?_
 refine q_v 23 (.slice ((subA E 0 g)) (q - 16) (g)) (o_sliceH (h := q - 16) rfl (pe hs rfl rfl) (pe hs rfl rfl) (by omega)) ?_
 refine q_ca (vs := #[.slice A (m) (c), .slice B (k) (d), .slice C (p) (f), .slice ((subA E 0 g)) (q - 16) (g)]) Try.func31 (args4 (pe hs rfl rfl) (pe hs rfl rfl) (pe hs rfl rfl) (pe hs rfl rfl)) (tag_no _ hbad) (fun e_1 w_1 hR_1 => ?_)
 obtain ⟨rfl, hb_2⟩ := hR_1
 refine ⟨_, rfl, ?_⟩
 refine q_mv (pe hs rfl rfl) ?_
 refine q_ex (v := .slice none (0) (0)) (pe hs rfl rfl) rfl ?_
 refine q_ex (v := .int .i64 ((1 : Nat) : Int)) (pe hs rfl rfl) rfl ?_
 refine q_at (pe hs rfl rfl) ?_
 refine q_at (v := .int .i64 ((1 : Nat) : Int)) (pe hs rfl rfl) ?_
 refine x_nil (hK_3 _ _ ?_)
 refine w2_seq (fun K_4 hK_4 => ?_)
 refine w2_block (fun K_5 hK_5 => ?_)
 refine w2_sr (fun K_6 hK_6 => ?_)
 refine q_mv (v := .int .i64 ((1 : Nat) : Int)) (pe hs rfl rfl) ?_
 refine q_v 29 (.bool (true)) (o_eq (o_neq (m := 1) (n := 0) rfl (pe hs rfl rfl) rfl) rfl) ?_
 refine q_at (pe hs rfl rfl) ?_
 refine x_nil (hK_6 _ _ ?_)
 refine w2_condT (pe hs rfl rfl) ?_
 refine w2_sr (fun K_7 hK_7 => ?_)
 refine q_mv (v := .int .i64 ((1 : Nat) : Int)) (pe hs rfl rfl) ?_
 refine q_as (.slice none (0) (0)) rfl ?_
 refine q_at (v := .int .i64 ((1 : Nat) : Int)) (pe hs rfl rfl) ?_
 refine x_nil (hK_7 _ _ ?_)
 refine w2_ret ?_
 refine exb_ret ?_
 refine thn_ret ?_
 refine ret2 rfl hd (pe hs rfl rfl) (pe hs rfl rfl) ?_
 exact ⟨rfl, hb_2⟩
theorem XorChaW_no {A B C : Option Addr} {c d f m k q : Nat} {ks ns bs : List Nat} (n : Nat) (w : World) (ha : Bs w A c ks) (hb : Bs w B d ns) (hc : Bs w C f bs) (hm : ks.length = m) (hk : ns.length = k) (hq : bs.length = q) (hn : n < 4294967296) (hbad : ¬ (m = 32 ∧ k = 12)) :
  Calls Try.prog 32 #[.slice A (m) (c), .slice B (k) (d), .int .u32 ((n : Nat) : Int), .slice C (q) (f)] w fun e w' => e = .returned (.tuple #[.slice none 0 0, .int .i64 ((1 : Nat) : Int)]) ∧ Below w.heap.size w w' := by
 by_cases h : m = 32
 ·exact XorChaW_no2 n w ha hb hc hm hk hq hn h (fun h2 => hbad ⟨h, h2⟩)
 ·exact XorChaW_no1 n w ha hb hc hm hk hq hn h
theorem SealW_no {A B C E : Option Addr} {c d f g m k p q : Nat} {ks ns zs bs : List Nat} (w : World) (ha : Bs w A c ks) (hb : Bs w B d ns) (hc : Bs w C f zs) (he : Bs w E g bs) (hm : ks.length = m) (hk : ns.length = k) (hp : zs.length = p) (hq : bs.length = q) (hbad : ¬ (m = 32 ∧ k = 12)) :
  Calls Try.prog 8 #[.slice A (m) (c), .slice B (k) (d), .slice C (p) (f), .slice E (q) (g)] w fun e w' => e = .returned (.tuple #[.slice none 0 0, .int .i64 ((1 : Nat) : Int)]) ∧ Below w.heap.size w w' := by
 refine x_enter 29 Try.func8 rfl rfl (fun a hs hd ha0 => ?_)
 have t0 : a.eval (.tmp 0) = .slice A (m) (c) := ha0 0 _ rfl
 have t1 : a.eval (.tmp 1) = .slice B (k) (d) := ha0 1 _ rfl
 have t3 : a.eval (.tmp 3) = .slice E (q) (g) := ha0 3 _ rfl
 clear ha0
 refine w2_sr (fun K_1 hK_1 => ?_)
 refine q_as (.slice none (0) (0)) rfl ?_
 refine q_as (.int .i64 ((0 : Nat) : Int)) rfl ?_
 refine x_nil (hK_1 _ _ ?_)
 refine w2_sr (fun K_2 hK_2 => ?_)
 refine q_mv ((pm rfl).trans t0) ?_
 refine q_mv ((pm rfl).trans t1) ?_
 refine q_mv ((pm rfl).trans t3) ?_
 refine q_ca (vs := #[.slice A (m) (c), .slice B (k) (d), .int .u32 ((1 : Nat) : Int), .slice E (q) (g)]) Try.func32 (args4 (pe hs rfl rfl) (pe hs rfl rfl) rfl (pe hs rfl rfl)) (XorChaW_no 1 _ ha hb he hm hk hq (by decide) hbad) (fun e_1 w_1 hR_1 => ?_)
 obtain ⟨rfl, hb_2⟩ := hR_1
 refine ⟨_, rfl, ?_⟩
 refine q_mv (pe hs rfl rfl) ?_
 refine q_ex (v := .slice none (0) (0)) (pe hs rfl rfl) rfl ?_
 refine q_ex (v := .int .i64 ((1 : Nat) : Int)) (pe hs rfl rfl) rfl ?_
 refine q_at (pe hs rfl rfl) ?_
 refine q_at (v := .int .i64 ((1 : Nat) : Int)) (pe hs rfl rfl) ?_
 refine x_nil (hK_2 _ _ ?_)
 refine w2_seq (fun K_3 hK_3 => ?_)
 refine w2_sr (fun K_4 hK_4 => ?_)
 refine q_mv (v := .int .i64 ((1 : Nat) : Int)) (pe hs rfl rfl) ?_
 refine q_v 20 (.bool (true)) (o_eq (o_neq (m := 1) (n := 0) rfl (pe hs rfl rfl) rfl) rfl) ?_
 refine x_nil (hK_4 _ _ ?_)
 refine w2_condT (pe hs rfl rfl) ?_
 refine w2_sr (fun K_5 hK_5 => ?_)
 refine q_mv (v := .int .i64 ((1 : Nat) : Int)) (pe hs rfl rfl) ?_
 refine q_as (.slice none (0) (0)) rfl ?_
 refine q_at (v := .int .i64 ((1 : Nat) : Int)) (pe hs rfl rfl) ?_
 refine x_nil (hK_5 _ _ ?_)
 refine w2_ret ?_
 refine thn_ret ?_
 refine ret2 rfl hd (pe hs rfl rfl) (pe hs rfl rfl) ?_
 exact ⟨rfl, hb_2⟩
theorem OpenW_no1 {A B C E : Option Addr} {c d f g m k p q : Nat} (w : World) (h32 : ¬ m = 32) :
  Calls Try.prog 13 #[.slice A (m) (c), .slice B (k) (d), .slice C (p) (f), .slice E (q) (g)] w fun e w' => e = .returned (.tuple #[.slice none 0 0, .int .i64 ((1 : Nat) : Int)]) ∧ Below w.heap.size w w' := by
 refine x_enter 46 Try.func13 rfl rfl (fun a hs hd ha0 => ?_)
 have t0 : a.eval (.tmp 0) = .slice A (m) (c) := ha0 0 _ rfl
 clear ha0
 refine w2_sr (fun K_1 hK_1 => ?_)
 refine q_as (.slice none (0) (0)) rfl ?_
 refine q_as (.int .i64 ((0 : Nat) : Int)) rfl ?_
 refine x_nil (hK_1 _ _ ?_)
 refine w2_seq (fun K_2 hK_2 => ?_)
 refine w2_sr (fun K_3 hK_3 => ?_)
 refine q_mv ((pm rfl).trans t0) ?_
 refine q_v 12 (.int .i64 ((m : Nat) : Int)) (o_len rfl (pe hs rfl rfl)) ?_
 refine q_v 13 (.bool (true)) (o_eq (o_neq (m := m) (n := 32) rfl (pe hs rfl rfl) rfl) (by rw [decide_eq_false h32]; rfl)) ?_
 refine q_mv (pe hs rfl rfl) ?_
 refine op_left (e := 14) rfl rfl (by kernel_rfl) (pe hs rfl rfl) rfl ?_
 refine op_left (e := 14) rfl rfl (by kernel_rfl) (pe hs rfl rfl) rfl ?_
 refine op_left (e := 14) rfl rfl (by kernel_rfl) (pe hs rfl rfl) rfl ?_
 refine q_v 18 (.bool (true)) (o_pickT rfl (pe hs rfl rfl) rfl) ?_
 refine x_nil (hK_3 _ _ ?_)
 refine w2_condT (pe hs rfl rfl) ?_
 refine w2_sr (fun K_4 hK_4 => ?_)
 refine q_as (.slice none (0) (0)) rfl ?_
 refine q_as (.int .i64 ((1 : Nat) : Int)) rfl ?_
 refine x_nil (hK_4 _ _ ?_)
 refine w2_ret ?_
 refine thn_ret ?_
 refine ret2 rfl hd (pe hs rfl rfl) (pe hs rfl rfl) ?_
 exact ⟨rfl, Below.refl _ _⟩
theorem OpenW_no2 {A B C E : Option Addr} {c d f g m k p q : Nat} (w : World) (h32 : m = 32) (h12 : ¬ k = 12) :
  Calls Try.prog 13 #[.slice A (m) (c), .slice B (k) (d), .slice C (p) (f), .slice E (q) (g)] w fun e w' => e = .returned (.tuple #[.slice none 0 0, .int .i64 ((1 : Nat) : Int)]) ∧ Below w.heap.size w w' := by
 refine x_enter 46 Try.func13 rfl rfl (fun a hs hd ha0 => ?_)
 have t0 : a.eval (.tmp 0) = .slice A (m) (c) := ha0 0 _ rfl
 have t1 : a.eval (.tmp 1) = .slice B (k) (d) := ha0 1 _ rfl
 clear ha0
 refine w2_sr (fun K_1 hK_1 => ?_)
 refine q_as (.slice none (0) (0)) rfl ?_
 refine q_as (.int .i64 ((0 : Nat) : Int)) rfl ?_
 refine x_nil (hK_1 _ _ ?_)
 refine w2_seq (fun K_2 hK_2 => ?_)
 refine w2_sr (fun K_3 hK_3 => ?_)
 refine q_mv ((pm rfl).trans t0) ?_
 refine q_v 12 (.int .i64 ((m : Nat) : Int)) (o_len rfl (pe hs rfl rfl)) ?_
 refine q_v 13 (.bool (false)) (o_eq (o_neq (m := m) (n := 32) rfl (pe hs rfl rfl) rfl) (by rw [decide_eq_true h32]; rfl)) ?_
 refine q_mv (pe hs rfl rfl) ?_
 refine op_valG (e := 14) (d := 15) (v := .slice B (k) (d)) rfl rfl (by kernel_rfl) (pe hs rfl rfl) (o_move rfl ((pm rfl).trans t1)) ?_
 refine op_valG (e := 14) (d := 16) (v := .int .i64 ((k : Nat) : Int)) rfl rfl (by kernel_rfl) (pe hs rfl rfl) (o_len rfl (pe hs rfl rfl)) ?_
 refine op_valG (e := 14) (d := 17) (v := .bool (true)) rfl rfl (by kernel_rfl) (pe hs rfl rfl) (o_eq (o_neq (m := k) (n := 12) rfl (pe hs rfl rfl) rfl) (by rw [decide_eq_false h12]; rfl)) ?_
 refine q_v 18 (.bool (true)) (o_pickF rfl (pe hs rfl rfl) (pe hs rfl rfl)) ?_
 refine x_nil (hK_3 _ _ ?_)
 refine w2_condT (pe hs rfl rfl) ?_
 refine w2_sr (fun K_4 hK_4 => ?_)
 refine q_as (.slice none (0) (0)) rfl ?_
 refine q_as (.int .i64 ((1 : Nat) : Int)) rfl ?_
 refine x_nil (hK_4 _ _ ?_)
 refine w2_ret ?_
 refine thn_ret ?_
 refine ret2 rfl hd (pe hs rfl rfl) (pe hs rfl rfl) ?_
 exact ⟨rfl, Below.refl _ _⟩
theorem OpenW_no {A B C E : Option Addr} {c d f g m k p q : Nat} (w : World) (hbad : ¬ (m = 32 ∧ k = 12)) :
  Calls Try.prog 13 #[.slice A (m) (c), .slice B (k) (d), .slice C (p) (f), .slice E (q) (g)] w fun e w' => e = .returned (.tuple #[.slice none 0 0, .int .i64 ((1 : Nat) : Int)]) ∧ Below w.heap.size w w' := by
 by_cases h : m = 32
 ·exact OpenW_no2 w h (fun h2 => hbad ⟨h, h2⟩)
 ·exact OpenW_no1 w h
/-- Bytes, sealed by any key; what went wrong. -/
def sealR (ks ns ad bs : List Nat) : List Nat × Nat := if ks.length = 32 ∧ ns.length = 12 then (sealL ks ns ad bs, 0) else ([], 1)
def openR (ks ns ad bs : List Nat) : List Nat × Nat := if ks.length = 32 ∧ ns.length = 12 then openL ks ns ad bs else ([], 1)
theorem SealR_any {A B C E : Option Addr} {c d f g m k p q : Nat} {ks ns zs bs : List Nat} (w : World) (ha : Bs w A c ks) (hb : Bs w B d ns) (hc : Bs w C f zs) (he : Bs w E g bs) (hm : ks.length = m) (hk : ns.length = k) (hp : zs.length = p) (hq : bs.length = q) (hpl : p ≤ 17592186044416) (hql : q ≤ 17592186044416) :
  Calls Try.prog 7 #[.slice A (m) (c), .slice B (k) (d), .slice C (p) (f), .slice E (q) (g)] w fun e w' => ∃ A c, e = .returned (.tuple #[.slice A (sealR ks ns zs bs).1.length c, .int .i64 (((sealR ks ns zs bs).2 : Nat) : Int)]) ∧ Own w' w.heap.size A c (sealR ks ns zs bs).1 ∧ Below w.heap.size w w' := by
 by_cases h : m = 32 ∧ k = 12
 ·have e : sealR ks ns zs bs = (sealL ks ns zs bs, 0) := if_pos (by rw [hm, hk]; exact h)
  have h9 := Seal_full w ha hb hc he hm hk hp hq h.1 h.2 hpl hql
  rw [e]
  dsimp only; rw [sealL_length, hq]; exact h9
 ·have e : sealR ks ns zs bs = ([], 1) := if_neg (by rw [hm, hk]; exact h)
  rw [e]
  exact Calls.mono (Seal_no w h) (fun e w' ⟨he, hb⟩ => ⟨none, 0, he, Own.nil _ _, hb⟩)
theorem SealWR_any {A B C E : Option Addr} {c d f g m k p q : Nat} {ks ns zs bs : List Nat} (w : World) (ha : Bs w A c ks) (hb : Bs w B d ns) (hc : Bs w C f zs) (he : Bs w E g bs) (hm : ks.length = m) (hk : ns.length = k) (hp : zs.length = p) (hq : bs.length = q) (hpl : p ≤ 17592186044416) (hql : q ≤ 17592186044416) :
  Calls Try.prog 8 #[.slice A (m) (c), .slice B (k) (d), .slice C (p) (f), .slice E (q) (g)] w fun e w' => ∃ A c, e = .returned (.tuple #[.slice A (sealR ks ns zs bs).1.length c, .int .i64 (((sealR ks ns zs bs).2 : Nat) : Int)]) ∧ Own w' w.heap.size A c (sealR ks ns zs bs).1 ∧ Below w.heap.size w w' := by
 by_cases h : m = 32 ∧ k = 12
 ·have e : sealR ks ns zs bs = (sealL ks ns zs bs, 0) := if_pos (by rw [hm, hk]; exact h)
  have h9 := SealW_ok w ha hb hc he hm hk hp hq h.1 h.2 hpl hql
  rw [e]
  dsimp only; rw [sealL_length, hq]; exact h9
 ·have e : sealR ks ns zs bs = ([], 1) := if_neg (by rw [hm, hk]; exact h)
  rw [e]
  exact Calls.mono (SealW_no w ha hb hc he hm hk hp hq h) (fun e w' ⟨he, hb⟩ => ⟨none, 0, he, Own.nil _ _, hb⟩)
theorem OpenR_any {A B C E : Option Addr} {c d f g m k p q : Nat} {ks ns zs bs : List Nat} (w : World) (ha : Bs w A c ks) (hb : Bs w B d ns) (hc : Bs w C f zs) (he : Bs w E g bs) (hm : ks.length = m) (hk : ns.length = k) (hp : zs.length = p) (hq : bs.length = q) (hpl : p ≤ 17592186044416) (hql : q ≤ 17592186044416) :
  Calls Try.prog 12 #[.slice A (m) (c), .slice B (k) (d), .slice C (p) (f), .slice E (q) (g)] w fun e w' => ∃ A c, e = .returned (.tuple #[.slice A (openR ks ns zs bs).1.length c, .int .i64 (((openR ks ns zs bs).2 : Nat) : Int)]) ∧ Own w' w.heap.size A c (openR ks ns zs bs).1 ∧ Below w.heap.size w w' := by
 by_cases h : m = 32 ∧ k = 12
 ·have e : openR ks ns zs bs = openL ks ns zs bs := if_pos (by rw [hm, hk]; exact h)
  have h9 := Open_full w ha hb hc he hm hk hp hq h.1 h.2 hpl hql
  rw [e]
  exact h9
 ·have e : openR ks ns zs bs = ([], 1) := if_neg (by rw [hm, hk]; exact h)
  rw [e]
  exact Calls.mono (Open_no w he hq h hql) (fun e w' ⟨he, hb⟩ => ⟨none, 0, he, Own.nil _ _, hb⟩)
theorem OpenWR_any {A B C E : Option Addr} {c d f g m k p q : Nat} {ks ns zs bs : List Nat} (w : World) (ha : Bs w A c ks) (hb : Bs w B d ns) (hc : Bs w C f zs) (he : Bs w E g bs) (hm : ks.length = m) (hk : ns.length = k) (hp : zs.length = p) (hq : bs.length = q) (hpl : p ≤ 17592186044416) (hql : q ≤ 17592186044416) :
  Calls Try.prog 13 #[.slice A (m) (c), .slice B (k) (d), .slice C (p) (f), .slice E (q) (g)] w fun e w' => ∃ A c, e = .returned (.tuple #[.slice A (openR ks ns zs bs).1.length c, .int .i64 (((openR ks ns zs bs).2 : Nat) : Int)]) ∧ Own w' w.heap.size A c (openR ks ns zs bs).1 ∧ Below w.heap.size w w' := by
 by_cases h : m = 32 ∧ k = 12
 ·have e : openR ks ns zs bs = openL ks ns zs bs := if_pos (by rw [hm, hk]; exact h)
  have h9 := OpenW_ok w ha hb hc he hm hk hp hq h.1 h.2 hpl hql
  rw [e]
  exact h9
 ·have e : openR ks ns zs bs = ([], 1) := if_neg (by rw [hm, hk]; exact h)
  rw [e]
  exact Calls.mono (OpenW_no w h) (fun e w' ⟨he, hb⟩ => ⟨none, 0, he, Own.nil _ _, hb⟩)
end Go.Proofs.Ytggalcdkfielkaa
