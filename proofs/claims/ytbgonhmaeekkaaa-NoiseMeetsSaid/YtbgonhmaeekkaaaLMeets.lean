/-
 WALKS: sapperlaw10.NoiseMeets.
-/
import Derived.Test.YtbgonhmaeekkaaaAwake10
namespace Go.Proofs.Ytbgonhmaeekkaaa
open Go.RowKit
set_option linter.unusedVariables false
set_option linter.unusedSimpArgs false
set_option maxRecDepth 100000
attribute [local irreducible] wpList wpListIn putsR

theorem and16 (z : Int) : ∃ t : Nat, t < 65536 ∧ bits .and .i64 z 65535 = ((t : Nat) : Int) := by
 refine ⟨(BitVec.ofInt 64 z &&& BitVec.ofInt 64 65535).toNat, ?_, ?_⟩
 ·rw [BitVec.toNat_and]
  exact Nat.lt_of_le_of_lt Nat.and_le_right (by decide)
 ·have h : (BitVec.ofInt 64 z &&& BitVec.ofInt 64 65535).toNat ≤ 65535 := by rw [BitVec.toNat_and]; exact Nat.le_trans Nat.and_le_right (by decide)
  have e : bits .and .i64 z 65535 = IntKind.i64.wrap ((BitVec.ofInt 64 z &&& BitVec.ofInt 64 65535).toNat : Int) := rfl
  rw [e]
  exact IntWalk.i64_in _ (by omega)
theorem o_andM {o : Oper} {ev : Operand → Value} {w : World} {x y : Operand} {T U : TypeId} {z : Int} {t : Nat} (ho : o.op = .binOp .and T x y U) (hx : ev x = .int .i64 z) (hy : ev y = .int .i64 65535) (hw : bits .and .i64 z 65535 = ((t : Nat) : Int)) :
  (execOp ev o).run Try.prog w = .ok (.value (.int .i64 ((t : Nat) : Int))) w := by simp [execOp, ho, hx, hy, go_sem, hw]
theorem Meets0 {A1 A2 A3 A4 A5 : Option Addr} {c1 c2 c3 c4 c5 n1 n2 n3 n4 n5 : Nat} {ps sv sk ee ff : List Nat} (z : Int) {A6 A7 A8 A9 : Option Addr} {c6 c7 c8 c9 n6 n7 n8 n9 : Nat} {xa xb xx xy : List Nat} (w : World) (h1 : Bs w A1 c1 ps) (l1 : ps.length = n1) (h2 : Bs w A2 c2 sv) (l2 : sv.length = n2) (h3 : Bs w A3 c3 sk) (l3 : sk.length = n3) (h4 : Bs w A4 c4 ee) (l4 : ee.length = n4) (h5 : Bs w A5 c5 ff) (l5 : ff.length = n5) (h6 : Bs w A6 c6 xa) (l6 : xa.length = n6) (h7 : Bs w A7 c7 xb) (l7 : xb.length = n7) (h8 : Bs w A8 c8 xx) (l8 : xx.length = n8) (h9 : Bs w A9 c9 xy) (l9 : xy.length = n9) (hbig : 300 < n6) :
  Calls Try.prog 6 #[.agg #[.int .i64 (z), .slice A1 (n1) (c1), .slice A2 (n2) (c2), .slice A3 (n3) (c3), .slice A4 (n4) (c4), .slice A5 (n5) (c5)], .slice A6 (n6) (c6), .slice A7 (n7) (c7), .slice A8 (n8) (c8), .slice A9 (n9) (c9)] w fun e w' => e = .returned (.bool true) ∧ Below w.heap.size w w' := by
 refine x_enter 277 Try.func6 rfl rfl (fun a hs hd ha0 => ?_)
 have t0 : a.eval (.tmp 0) = .agg #[.int .i64 (z), .slice A1 (n1) (c1), .slice A2 (n2) (c2), .slice A3 (n3) (c3), .slice A4 (n4) (c4), .slice A5 (n5) (c5)] := ha0 0 _ rfl
 have t1 : a.eval (.tmp 1) = .slice A6 (n6) (c6) := ha0 1 _ rfl
 clear ha0
 refine w2_sr (fun K_1 hK_1 => ?_)
 refine op_ex (d := 5) rfl rfl (o_boxL (cs := #[.int .i64 (z), .slice A1 (n1) (c1), .slice A2 (n2) (c2), .slice A3 (n3) (c3), .slice A4 (n4) (c4), .slice A5 (n5) (c5)]) rfl ((pm rfl).trans t0)) (fun v_1 w_1 hR_1 => ?_)
 obtain ⟨g_1, rfl, hle_1, hB_1, hb_1⟩ := hR_1
 refine q_as (.bool (false)) rfl ?_
 refine x_nil (hK_1 _ _ ?_)
 refine w2_seq (fun K_2 hK_2 => ?_)
 refine w2_sr (fun K_3 hK_3 => ?_)
 refine q_mv ((pm rfl).trans t1) ?_
 refine q_v 41 (.int .i64 ((n6 : Nat) : Int)) (o_len rfl (pe hs rfl rfl)) ?_
 refine q_v 42 (.bool (true)) (o_eq (o_gtr (m := n6) (n := 300) rfl (pe hs rfl rfl) rfl) (by rw [decide_eq_true hbig])) ?_
 refine q_mv (pe hs rfl rfl) ?_
 refine op_left (e := 43) rfl rfl (by kernel_rfl) (pe hs rfl rfl) rfl ?_
 refine op_left (e := 43) rfl rfl (by kernel_rfl) (pe hs rfl rfl) rfl ?_
 refine op_left (e := 43) rfl rfl (by kernel_rfl) (pe hs rfl rfl) rfl ?_
 refine q_v 47 (.bool (true)) (o_pickT rfl (pe hs rfl rfl) rfl) ?_
 refine q_mv (pe hs rfl rfl) ?_
 refine op_left (e := 48) rfl rfl (by kernel_rfl) (pe hs rfl rfl) rfl ?_
 refine op_left (e := 48) rfl rfl (by kernel_rfl) (pe hs rfl rfl) rfl ?_
 refine op_left (e := 48) rfl rfl (by kernel_rfl) (pe hs rfl rfl) rfl ?_
 refine q_v 52 (.bool (true)) (o_pickT rfl (pe hs rfl rfl) rfl) ?_
 refine q_mv (pe hs rfl rfl) ?_
 refine op_left (e := 53) rfl rfl (by kernel_rfl) (pe hs rfl rfl) rfl ?_
 refine op_left (e := 53) rfl rfl (by kernel_rfl) (pe hs rfl rfl) rfl ?_
 refine op_left (e := 53) rfl rfl (by kernel_rfl) (pe hs rfl rfl) rfl ?_
 refine q_v 57 (.bool (true)) (o_pickT rfl (pe hs rfl rfl) rfl) ?_
 refine x_nil (hK_3 _ _ ?_)
 refine w2_condT (pe hs rfl rfl) ?_
 refine w2_sr (fun K_4 hK_4 => ?_)
 refine q_ca (vs := #[]) Try.func10 (args0) (awake10_any _) (fun e_1 w_2 hR_2 => ?_)
 obtain ⟨rfl, hb_3⟩ := hR_2
 have HB_1 := below_from hb_1 hb_3
 refine ⟨_, rfl, ?_⟩
 refine q_at (pe hs rfl rfl) ?_
 refine x_nil (hK_4 _ _ ?_)
 refine w2_ret ?_
 refine thn_ret ?_
 refine ret1 rfl hd (pe hs rfl rfl) ?_
 exact ⟨rfl, HB_1⟩
theorem Meets1 {A1 A2 A3 A4 A5 : Option Addr} {c1 c2 c3 c4 c5 n1 n2 n3 n4 n5 : Nat} {ps sv sk ee ff : List Nat} (z : Int) {A6 A7 A8 A9 : Option Addr} {c6 c7 c8 c9 n6 n7 n8 n9 : Nat} {xa xb xx xy : List Nat} (w : World) (h1 : Bs w A1 c1 ps) (l1 : ps.length = n1) (h2 : Bs w A2 c2 sv) (l2 : sv.length = n2) (h3 : Bs w A3 c3 sk) (l3 : sk.length = n3) (h4 : Bs w A4 c4 ee) (l4 : ee.length = n4) (h5 : Bs w A5 c5 ff) (l5 : ff.length = n5) (h6 : Bs w A6 c6 xa) (l6 : xa.length = n6) (h7 : Bs w A7 c7 xb) (l7 : xb.length = n7) (h8 : Bs w A8 c8 xx) (l8 : xx.length = n8) (h9 : Bs w A9 c9 xy) (l9 : xy.length = n9) (p6 : n6 ≤ 300) (hbig : 300 < n7) :
  Calls Try.prog 6 #[.agg #[.int .i64 (z), .slice A1 (n1) (c1), .slice A2 (n2) (c2), .slice A3 (n3) (c3), .slice A4 (n4) (c4), .slice A5 (n5) (c5)], .slice A6 (n6) (c6), .slice A7 (n7) (c7), .slice A8 (n8) (c8), .slice A9 (n9) (c9)] w fun e w' => e = .returned (.bool true) ∧ Below w.heap.size w w' := by
 refine x_enter 277 Try.func6 rfl rfl (fun a hs hd ha0 => ?_)
 have t0 : a.eval (.tmp 0) = .agg #[.int .i64 (z), .slice A1 (n1) (c1), .slice A2 (n2) (c2), .slice A3 (n3) (c3), .slice A4 (n4) (c4), .slice A5 (n5) (c5)] := ha0 0 _ rfl
 have t1 : a.eval (.tmp 1) = .slice A6 (n6) (c6) := ha0 1 _ rfl
 have t2 : a.eval (.tmp 2) = .slice A7 (n7) (c7) := ha0 2 _ rfl
 clear ha0
 refine w2_sr (fun K_1 hK_1 => ?_)
 refine op_ex (d := 5) rfl rfl (o_boxL (cs := #[.int .i64 (z), .slice A1 (n1) (c1), .slice A2 (n2) (c2), .slice A3 (n3) (c3), .slice A4 (n4) (c4), .slice A5 (n5) (c5)]) rfl ((pm rfl).trans t0)) (fun v_1 w_1 hR_1 => ?_)
 obtain ⟨g_1, rfl, hle_1, hB_1, hb_1⟩ := hR_1
 refine q_as (.bool (false)) rfl ?_
 refine x_nil (hK_1 _ _ ?_)
 refine w2_seq (fun K_2 hK_2 => ?_)
 refine w2_sr (fun K_3 hK_3 => ?_)
 refine q_mv ((pm rfl).trans t1) ?_
 refine q_v 41 (.int .i64 ((n6 : Nat) : Int)) (o_len rfl (pe hs rfl rfl)) ?_
 refine q_v 42 (.bool (false)) (o_eq (o_gtr (m := n6) (n := 300) rfl (pe hs rfl rfl) rfl) (by rw [decide_eq_false (by omega)])) ?_
 refine q_mv (pe hs rfl rfl) ?_
 refine op_valG (e := 43) (d := 44) (v := .slice A7 (n7) (c7)) rfl rfl (by kernel_rfl) (pe hs rfl rfl) (o_move rfl ((pm rfl).trans t2)) ?_
 refine op_valG (e := 43) (d := 45) (v := .int .i64 ((n7 : Nat) : Int)) rfl rfl (by kernel_rfl) (pe hs rfl rfl) (o_len rfl (pe hs rfl rfl)) ?_
 refine op_valG (e := 43) (d := 46) (v := .bool (true)) rfl rfl (by kernel_rfl) (pe hs rfl rfl) (o_eq (o_gtr (m := n7) (n := 300) rfl (pe hs rfl rfl) rfl) (by rw [decide_eq_true hbig])) ?_
 refine q_v 47 (.bool (true)) (o_pickF rfl (pe hs rfl rfl) (pe hs rfl rfl)) ?_
 refine q_mv (pe hs rfl rfl) ?_
 refine op_left (e := 48) rfl rfl (by kernel_rfl) (pe hs rfl rfl) rfl ?_
 refine op_left (e := 48) rfl rfl (by kernel_rfl) (pe hs rfl rfl) rfl ?_
 refine op_left (e := 48) rfl rfl (by kernel_rfl) (pe hs rfl rfl) rfl ?_
 refine q_v 52 (.bool (true)) (o_pickT rfl (pe hs rfl rfl) rfl) ?_
 refine q_mv (pe hs rfl rfl) ?_
 refine op_left (e := 53) rfl rfl (by kernel_rfl) (pe hs rfl rfl) rfl ?_
 refine op_left (e := 53) rfl rfl (by kernel_rfl) (pe hs rfl rfl) rfl ?_
 refine op_left (e := 53) rfl rfl (by kernel_rfl) (pe hs rfl rfl) rfl ?_
 refine q_v 57 (.bool (true)) (o_pickT rfl (pe hs rfl rfl) rfl) ?_
 refine x_nil (hK_3 _ _ ?_)
 refine w2_condT (pe hs rfl rfl) ?_
 refine w2_sr (fun K_4 hK_4 => ?_)
 refine q_ca (vs := #[]) Try.func10 (args0) (awake10_any _) (fun e_1 w_2 hR_2 => ?_)
 obtain ⟨rfl, hb_3⟩ := hR_2
 have HB_1 := below_from hb_1 hb_3
 refine ⟨_, rfl, ?_⟩
 refine q_at (pe hs rfl rfl) ?_
 refine x_nil (hK_4 _ _ ?_)
 refine w2_ret ?_
 refine thn_ret ?_
 refine ret1 rfl hd (pe hs rfl rfl) ?_
 exact ⟨rfl, HB_1⟩
theorem Meets2 {A1 A2 A3 A4 A5 : Option Addr} {c1 c2 c3 c4 c5 n1 n2 n3 n4 n5 : Nat} {ps sv sk ee ff : List Nat} (z : Int) {A6 A7 A8 A9 : Option Addr} {c6 c7 c8 c9 n6 n7 n8 n9 : Nat} {xa xb xx xy : List Nat} (w : World) (h1 : Bs w A1 c1 ps) (l1 : ps.length = n1) (h2 : Bs w A2 c2 sv) (l2 : sv.length = n2) (h3 : Bs w A3 c3 sk) (l3 : sk.length = n3) (h4 : Bs w A4 c4 ee) (l4 : ee.length = n4) (h5 : Bs w A5 c5 ff) (l5 : ff.length = n5) (h6 : Bs w A6 c6 xa) (l6 : xa.length = n6) (h7 : Bs w A7 c7 xb) (l7 : xb.length = n7) (h8 : Bs w A8 c8 xx) (l8 : xx.length = n8) (h9 : Bs w A9 c9 xy) (l9 : xy.length = n9) (p6 : n6 ≤ 300) (p7 : n7 ≤ 300) (hbig : 300 < n8) :
  Calls Try.prog 6 #[.agg #[.int .i64 (z), .slice A1 (n1) (c1), .slice A2 (n2) (c2), .slice A3 (n3) (c3), .slice A4 (n4) (c4), .slice A5 (n5) (c5)], .slice A6 (n6) (c6), .slice A7 (n7) (c7), .slice A8 (n8) (c8), .slice A9 (n9) (c9)] w fun e w' => e = .returned (.bool true) ∧ Below w.heap.size w w' := by
 refine x_enter 277 Try.func6 rfl rfl (fun a hs hd ha0 => ?_)
 have t0 : a.eval (.tmp 0) = .agg #[.int .i64 (z), .slice A1 (n1) (c1), .slice A2 (n2) (c2), .slice A3 (n3) (c3), .slice A4 (n4) (c4), .slice A5 (n5) (c5)] := ha0 0 _ rfl
 have t1 : a.eval (.tmp 1) = .slice A6 (n6) (c6) := ha0 1 _ rfl
 have t2 : a.eval (.tmp 2) = .slice A7 (n7) (c7) := ha0 2 _ rfl
 have t3 : a.eval (.tmp 3) = .slice A8 (n8) (c8) := ha0 3 _ rfl
 clear ha0
 refine w2_sr (fun K_1 hK_1 => ?_)
 refine op_ex (d := 5) rfl rfl (o_boxL (cs := #[.int .i64 (z), .slice A1 (n1) (c1), .slice A2 (n2) (c2), .slice A3 (n3) (c3), .slice A4 (n4) (c4), .slice A5 (n5) (c5)]) rfl ((pm rfl).trans t0)) (fun v_1 w_1 hR_1 => ?_)
 obtain ⟨g_1, rfl, hle_1, hB_1, hb_1⟩ := hR_1
 refine q_as (.bool (false)) rfl ?_
 refine x_nil (hK_1 _ _ ?_)
 refine w2_seq (fun K_2 hK_2 => ?_)
 refine w2_sr (fun K_3 hK_3 => ?_)
 refine q_mv ((pm rfl).trans t1) ?_
 refine q_v 41 (.int .i64 ((n6 : Nat) : Int)) (o_len rfl (pe hs rfl rfl)) ?_
 refine q_v 42 (.bool (false)) (o_eq (o_gtr (m := n6) (n := 300) rfl (pe hs rfl rfl) rfl) (by rw [decide_eq_false (by omega)])) ?_
 refine q_mv (pe hs rfl rfl) ?_
 refine op_valG (e := 43) (d := 44) (v := .slice A7 (n7) (c7)) rfl rfl (by kernel_rfl) (pe hs rfl rfl) (o_move rfl ((pm rfl).trans t2)) ?_
 refine op_valG (e := 43) (d := 45) (v := .int .i64 ((n7 : Nat) : Int)) rfl rfl (by kernel_rfl) (pe hs rfl rfl) (o_len rfl (pe hs rfl rfl)) ?_
 refine op_valG (e := 43) (d := 46) (v := .bool (false)) rfl rfl (by kernel_rfl) (pe hs rfl rfl) (o_eq (o_gtr (m := n7) (n := 300) rfl (pe hs rfl rfl) rfl) (by rw [decide_eq_false (by omega)])) ?_
 refine q_v 47 (.bool (false)) (o_pickF rfl (pe hs rfl rfl) (pe hs rfl rfl)) ?_
 refine q_mv (pe hs rfl rfl) ?_
 refine op_valG (e := 48) (d := 49) (v := .slice A8 (n8) (c8)) rfl rfl (by kernel_rfl) (pe hs rfl rfl) (o_move rfl ((pm rfl).trans t3)) ?_
 refine op_valG (e := 48) (d := 50) (v := .int .i64 ((n8 : Nat) : Int)) rfl rfl (by kernel_rfl) (pe hs rfl rfl) (o_len rfl (pe hs rfl rfl)) ?_
 refine op_valG (e := 48) (d := 51) (v := .bool (true)) rfl rfl (by kernel_rfl) (pe hs rfl rfl) (o_eq (o_gtr (m := n8) (n := 300) rfl (pe hs rfl rfl) rfl) (by rw [decide_eq_true hbig])) ?_
 refine q_v 52 (.bool (true)) (o_pickF rfl (pe hs rfl rfl) (pe hs rfl rfl)) ?_
 refine q_mv (pe hs rfl rfl) ?_
 refine op_left (e := 53) rfl rfl (by kernel_rfl) (pe hs rfl rfl) rfl ?_
 refine op_left (e := 53) rfl rfl (by kernel_rfl) (pe hs rfl rfl) rfl ?_
 refine op_left (e := 53) rfl rfl (by kernel_rfl) (pe hs rfl rfl) rfl ?_
 refine q_v 57 (.bool (true)) (o_pickT rfl (pe hs rfl rfl) rfl) ?_
 refine x_nil (hK_3 _ _ ?_)
 refine w2_condT (pe hs rfl rfl) ?_
 refine w2_sr (fun K_4 hK_4 => ?_)
 refine q_ca (vs := #[]) Try.func10 (args0) (awake10_any _) (fun e_1 w_2 hR_2 => ?_)
 obtain ⟨rfl, hb_3⟩ := hR_2
 have HB_1 := below_from hb_1 hb_3
 refine ⟨_, rfl, ?_⟩
 refine q_at (pe hs rfl rfl) ?_
 refine x_nil (hK_4 _ _ ?_)
 refine w2_ret ?_
 refine thn_ret ?_
 refine ret1 rfl hd (pe hs rfl rfl) ?_
 exact ⟨rfl, HB_1⟩
theorem Meets3 {A1 A2 A3 A4 A5 : Option Addr} {c1 c2 c3 c4 c5 n1 n2 n3 n4 n5 : Nat} {ps sv sk ee ff : List Nat} (z : Int) {A6 A7 A8 A9 : Option Addr} {c6 c7 c8 c9 n6 n7 n8 n9 : Nat} {xa xb xx xy : List Nat} (w : World) (h1 : Bs w A1 c1 ps) (l1 : ps.length = n1) (h2 : Bs w A2 c2 sv) (l2 : sv.length = n2) (h3 : Bs w A3 c3 sk) (l3 : sk.length = n3) (h4 : Bs w A4 c4 ee) (l4 : ee.length = n4) (h5 : Bs w A5 c5 ff) (l5 : ff.length = n5) (h6 : Bs w A6 c6 xa) (l6 : xa.length = n6) (h7 : Bs w A7 c7 xb) (l7 : xb.length = n7) (h8 : Bs w A8 c8 xx) (l8 : xx.length = n8) (h9 : Bs w A9 c9 xy) (l9 : xy.length = n9) (p6 : n6 ≤ 300) (p7 : n7 ≤ 300) (p8 : n8 ≤ 300) (hbig : 300 < n9) :
  Calls Try.prog 6 #[.agg #[.int .i64 (z), .slice A1 (n1) (c1), .slice A2 (n2) (c2), .slice A3 (n3) (c3), .slice A4 (n4) (c4), .slice A5 (n5) (c5)], .slice A6 (n6) (c6), .slice A7 (n7) (c7), .slice A8 (n8) (c8), .slice A9 (n9) (c9)] w fun e w' => e = .returned (.bool true) ∧ Below w.heap.size w w' := by
 refine x_enter 277 Try.func6 rfl rfl (fun a hs hd ha0 => ?_)
 have t0 : a.eval (.tmp 0) = .agg #[.int .i64 (z), .slice A1 (n1) (c1), .slice A2 (n2) (c2), .slice A3 (n3) (c3), .slice A4 (n4) (c4), .slice A5 (n5) (c5)] := ha0 0 _ rfl
 have t1 : a.eval (.tmp 1) = .slice A6 (n6) (c6) := ha0 1 _ rfl
 have t2 : a.eval (.tmp 2) = .slice A7 (n7) (c7) := ha0 2 _ rfl
 have t3 : a.eval (.tmp 3) = .slice A8 (n8) (c8) := ha0 3 _ rfl
 have t4 : a.eval (.tmp 4) = .slice A9 (n9) (c9) := ha0 4 _ rfl
 clear ha0
 refine w2_sr (fun K_1 hK_1 => ?_)
 refine op_ex (d := 5) rfl rfl (o_boxL (cs := #[.int .i64 (z), .slice A1 (n1) (c1), .slice A2 (n2) (c2), .slice A3 (n3) (c3), .slice A4 (n4) (c4), .slice A5 (n5) (c5)]) rfl ((pm rfl).trans t0)) (fun v_1 w_1 hR_1 => ?_)
 obtain ⟨g_1, rfl, hle_1, hB_1, hb_1⟩ := hR_1
 refine q_as (.bool (false)) rfl ?_
 refine x_nil (hK_1 _ _ ?_)
 refine w2_seq (fun K_2 hK_2 => ?_)
 refine w2_sr (fun K_3 hK_3 => ?_)
 refine q_mv ((pm rfl).trans t1) ?_
 refine q_v 41 (.int .i64 ((n6 : Nat) : Int)) (o_len rfl (pe hs rfl rfl)) ?_
 refine q_v 42 (.bool (false)) (o_eq (o_gtr (m := n6) (n := 300) rfl (pe hs rfl rfl) rfl) (by rw [decide_eq_false (by omega)])) ?_
 refine q_mv (pe hs rfl rfl) ?_
 refine op_valG (e := 43) (d := 44) (v := .slice A7 (n7) (c7)) rfl rfl (by kernel_rfl) (pe hs rfl rfl) (o_move rfl ((pm rfl).trans t2)) ?_
 refine op_valG (e := 43) (d := 45) (v := .int .i64 ((n7 : Nat) : Int)) rfl rfl (by kernel_rfl) (pe hs rfl rfl) (o_len rfl (pe hs rfl rfl)) ?_
 refine op_valG (e := 43) (d := 46) (v := .bool (false)) rfl rfl (by kernel_rfl) (pe hs rfl rfl) (o_eq (o_gtr (m := n7) (n := 300) rfl (pe hs rfl rfl) rfl) (by rw [decide_eq_false (by omega)])) ?_
 refine q_v 47 (.bool (false)) (o_pickF rfl (pe hs rfl rfl) (pe hs rfl rfl)) ?_
 refine q_mv (pe hs rfl rfl) ?_
 refine op_valG (e := 48) (d := 49) (v := .slice A8 (n8) (c8)) rfl rfl (by kernel_rfl) (pe hs rfl rfl) (o_move rfl ((pm rfl).trans t3)) ?_
 refine op_valG (e := 48) (d := 50) (v := .int .i64 ((n8 : Nat) : Int)) rfl rfl (by kernel_rfl) (pe hs rfl rfl) (o_len rfl (pe hs rfl rfl)) ?_
 refine op_valG (e := 48) (d := 51) (v := .bool (false)) rfl rfl (by kernel_rfl) (pe hs rfl rfl) (o_eq (o_gtr (m := n8) (n := 300) rfl (pe hs rfl rfl) rfl) (by rw [decide_eq_false (by omega)])) ?_
 refine q_v 52 (.bool (false)) (o_pickF rfl (pe hs rfl rfl) (pe hs rfl rfl)) ?_
 refine q_mv (pe hs rfl rfl) ?_
 refine op_valG (e := 53) (d := 54) (v := .slice A9 (n9) (c9)) rfl rfl (by kernel_rfl) (pe hs rfl rfl) (o_move rfl ((pm rfl).trans t4)) ?_
 refine op_valG (e := 53) (d := 55) (v := .int .i64 ((n9 : Nat) : Int)) rfl rfl (by kernel_rfl) (pe hs rfl rfl) (o_len rfl (pe hs rfl rfl)) ?_
 refine op_valG (e := 53) (d := 56) (v := .bool (true)) rfl rfl (by kernel_rfl) (pe hs rfl rfl) (o_eq (o_gtr (m := n9) (n := 300) rfl (pe hs rfl rfl) rfl) (by rw [decide_eq_true hbig])) ?_
 refine q_v 57 (.bool (true)) (o_pickF rfl (pe hs rfl rfl) (pe hs rfl rfl)) ?_
 refine x_nil (hK_3 _ _ ?_)
 refine w2_condT (pe hs rfl rfl) ?_
 refine w2_sr (fun K_4 hK_4 => ?_)
 refine q_ca (vs := #[]) Try.func10 (args0) (awake10_any _) (fun e_1 w_2 hR_2 => ?_)
 obtain ⟨rfl, hb_3⟩ := hR_2
 have HB_1 := below_from hb_1 hb_3
 refine ⟨_, rfl, ?_⟩
 refine q_at (pe hs rfl rfl) ?_
 refine x_nil (hK_4 _ _ ?_)
 refine w2_ret ?_
 refine thn_ret ?_
 refine ret1 rfl hd (pe hs rfl rfl) ?_
 exact ⟨rfl, HB_1⟩
set_option maxHeartbeats 1000000 in
theorem MeetsM {A1 A2 A3 A4 A5 : Option Addr} {c1 c2 c3 c4 c5 n1 n2 n3 n4 n5 : Nat} {ps sv sk ee ff : List Nat} (z : Int) {A6 A7 A8 A9 : Option Addr} {c6 c7 c8 c9 n6 n7 n8 n9 : Nat} {xa xb xx xy : List Nat} (w : World) (h1 : Bs w A1 c1 ps) (l1 : ps.length = n1) (h2 : Bs w A2 c2 sv) (l2 : sv.length = n2) (h3 : Bs w A3 c3 sk) (l3 : sk.length = n3) (h4 : Bs w A4 c4 ee) (l4 : ee.length = n4) (h5 : Bs w A5 c5 ff) (l5 : ff.length = n5) (h6 : Bs w A6 c6 xa) (l6 : xa.length = n6) (h7 : Bs w A7 c7 xb) (l7 : xb.length = n7) (h8 : Bs w A8 c8 xx) (l8 : xx.length = n8) (h9 : Bs w A9 c9 xy) (l9 : xy.length = n9) (p6 : n6 ≤ 300) (p7 : n7 ≤ 300) (p8 : n8 ≤ 300) (p9 : n9 ≤ 300) :
  Calls Try.prog 6 #[.agg #[.int .i64 (z), .slice A1 (n1) (c1), .slice A2 (n2) (c2), .slice A3 (n3) (c3), .slice A4 (n4) (c4), .slice A5 (n5) (c5)], .slice A6 (n6) (c6), .slice A7 (n7) (c7), .slice A8 (n8) (c8), .slice A9 (n9) (c9)] w fun e w' => e = .returned (.bool true) ∧ Below w.heap.size w w' := by
 obtain ⟨t, ht, hand⟩ := and16 z
 refine x_enter 277 Try.func6 rfl rfl (fun a hs hd ha0 => ?_)
 have t0 : a.eval (.tmp 0) = .agg #[.int .i64 (z), .slice A1 (n1) (c1), .slice A2 (n2) (c2), .slice A3 (n3) (c3), .slice A4 (n4) (c4), .slice A5 (n5) (c5)] := ha0 0 _ rfl
 have t1 : a.eval (.tmp 1) = .slice A6 (n6) (c6) := ha0 1 _ rfl
 have t2 : a.eval (.tmp 2) = .slice A7 (n7) (c7) := ha0 2 _ rfl
 have t3 : a.eval (.tmp 3) = .slice A8 (n8) (c8) := ha0 3 _ rfl
 have t4 : a.eval (.tmp 4) = .slice A9 (n9) (c9) := ha0 4 _ rfl
 clear ha0
 refine w2_sr (fun K_1 hK_1 => ?_)
 refine op_ex (d := 5) rfl rfl (o_boxL (cs := #[.int .i64 (z), .slice A1 (n1) (c1), .slice A2 (n2) (c2), .slice A3 (n3) (c3), .slice A4 (n4) (c4), .slice A5 (n5) (c5)]) rfl ((pm rfl).trans t0)) (fun v_1 w_1 hR_1 => ?_)
 obtain ⟨g_1, rfl, hle_1, hB_1, hb_1⟩ := hR_1
 refine q_as (.bool (false)) rfl ?_
 refine x_nil (hK_1 _ _ ?_)
 refine w2_seq (fun K_2 hK_2 => ?_)
 refine w2_sr (fun K_3 hK_3 => ?_)
 refine q_mv ((pm rfl).trans t1) ?_
 refine q_v 41 (.int .i64 ((n6 : Nat) : Int)) (o_len rfl (pe hs rfl rfl)) ?_
 refine q_v 42 (.bool (false)) (o_eq (o_gtr (m := n6) (n := 300) rfl (pe hs rfl rfl) rfl) (by rw [decide_eq_false (by omega)])) ?_
 refine q_mv (pe hs rfl rfl) ?_
 refine op_valG (e := 43) (d := 44) (v := .slice A7 (n7) (c7)) rfl rfl (by kernel_rfl) (pe hs rfl rfl) (o_move rfl ((pm rfl).trans t2)) ?_
 refine op_valG (e := 43) (d := 45) (v := .int .i64 ((n7 : Nat) : Int)) rfl rfl (by kernel_rfl) (pe hs rfl rfl) (o_len rfl (pe hs rfl rfl)) ?_
 refine op_valG (e := 43) (d := 46) (v := .bool (false)) rfl rfl (by kernel_rfl) (pe hs rfl rfl) (o_eq (o_gtr (m := n7) (n := 300) rfl (pe hs rfl rfl) rfl) (by rw [decide_eq_false (by omega)])) ?_
 refine q_v 47 (.bool (false)) (o_pickF rfl (pe hs rfl rfl) (pe hs rfl rfl)) ?_
 refine q_mv (pe hs rfl rfl) ?_
 refine op_valG (e := 48) (d := 49) (v := .slice A8 (n8) (c8)) rfl rfl (by kernel_rfl) (pe hs rfl rfl) (o_move rfl ((pm rfl).trans t3)) ?_
 refine op_valG (e := 48) (d := 50) (v := .int .i64 ((n8 : Nat) : Int)) rfl rfl (by kernel_rfl) (pe hs rfl rfl) (o_len rfl (pe hs rfl rfl)) ?_
 refine op_valG (e := 48) (d := 51) (v := .bool (false)) rfl rfl (by kernel_rfl) (pe hs rfl rfl) (o_eq (o_gtr (m := n8) (n := 300) rfl (pe hs rfl rfl) rfl) (by rw [decide_eq_false (by omega)])) ?_
 refine q_v 52 (.bool (false)) (o_pickF rfl (pe hs rfl rfl) (pe hs rfl rfl)) ?_
 refine q_mv (pe hs rfl rfl) ?_
 refine op_valG (e := 53) (d := 54) (v := .slice A9 (n9) (c9)) rfl rfl (by kernel_rfl) (pe hs rfl rfl) (o_move rfl ((pm rfl).trans t4)) ?_
 refine op_valG (e := 53) (d := 55) (v := .int .i64 ((n9 : Nat) : Int)) rfl rfl (by kernel_rfl) (pe hs rfl rfl) (o_len rfl (pe hs rfl rfl)) ?_
 refine op_valG (e := 53) (d := 56) (v := .bool (false)) rfl rfl (by kernel_rfl) (pe hs rfl rfl) (o_eq (o_gtr (m := n9) (n := 300) rfl (pe hs rfl rfl) rfl) (by rw [decide_eq_false (by omega)])) ?_
 refine q_v 57 (.bool (false)) (o_pickF rfl (pe hs rfl rfl) (pe hs rfl rfl)) ?_
 refine x_nil (hK_3 _ _ ?_)
 refine w2_condF (pe hs rfl rfl) ?_
 refine w2_skip ?_
 refine hK_2 _ _ ?_
 refine w2_sr (fun K_4 hK_4 => ?_)
 refine q_fa 3 (pe hs rfl rfl) ?_
 refine q_ld (v := .slice A3 (n3) (c3)) (pe hs rfl rfl) hB_1 rfl ?_
 refine q_ca (vs := #[.slice A3 (n3) (c3)]) Try.func12 (args1 (pe hs rfl rfl)) (Key_any _ (h3.below hb_1) (by simp only [l3])) (fun e_1 w_2 hR_2 => ?_)
 obtain ⟨A_1, c_1, rfl, ho_1, hb_2⟩ := hR_2
 replace ho_1 := ho_1.mono hb_1.size
 replace hB_1 := hB_1.nx hb_2
 have HB_1 := below_from hb_1 hb_2
 refine ⟨_, rfl, ?_⟩
 refine q_ca (vs := #[.slice A_1 (32) (c_1)]) Try.func17 (args1 (pe hs rfl rfl)) (Base_own _ (ho_1).bs (by simp only [padTo_length])) (fun e_2 w_3 hR_3 => ?_)
 obtain ⟨A_2, c_2, rfl, ho_2, hb_3⟩ := hR_3
 replace ho_2 := ho_2.mono HB_1.size
 replace hB_1 := hB_1.nx hb_3
 have HB_2 := below_from HB_1 hb_3
 refine ⟨_, rfl, ?_⟩
 refine q_mv (pe hs rfl rfl) ?_
 refine q_ex (v := .slice A_2 (32) (c_2)) (pe hs rfl rfl) rfl ?_
 refine q_ex (v := .int .i64 ((0 : Nat) : Int)) (pe hs rfl rfl) rfl ?_
 refine q_at (pe hs rfl rfl) ?_
 refine q_at (v := .int .i64 ((0 : Nat) : Int)) (pe hs rfl rfl) ?_
 refine x_nil (hK_4 _ _ ?_)
 refine w2_sr (fun K_5 hK_5 => ?_)
 refine q_fa 0 (pe hs rfl rfl) ?_
 refine q_ld (v := .int .i64 (z)) (pe hs rfl rfl) hB_1 rfl ?_
 refine q_v 68 (.int .i64 ((t : Nat) : Int)) (o_andM rfl (pe hs rfl rfl) rfl hand) ?_
 refine q_at (pe hs rfl rfl) ?_
 refine x_nil (hK_5 _ _ ?_)
 refine w2_seq (fun K_6 hK_6 => ?_)
 refine x_drawn2 13 [fun _ v => v = .int .i64 ((t : Nat) : Int), fun _ v => v = .pointer (some ⟨g_1, 1, none⟩), fun _ v => v = .slice A1 (n1) (c1), fun ww vv => OwnN w_3.heap.size (32) (padTo 32 ps) ww vv, fun _ v => v = .slice A_2 (32) (c_2), fun _ v => v = .pointer (some ⟨g_1, 4, none⟩), fun _ v => v = .slice A4 (n4) (c4), fun ww vv => OwnN w_3.heap.size (32) (padTo 32 ee) ww vv, fun ww vv => TupH w_3 ⟨shaL nameS, shaL (shaL (shaL nameS ++ [t / 256 % 256, t % 256]) ++ (pubL (padTo 32 sk))), padTo 32 ps, padTo 32 ee, pubL (padTo 32 ee), pubL (padTo 32 sk), [], true, false, 0⟩ ww vv, fun ww vv => TupH w_3 ⟨shaL nameS, shaL (shaL (shaL nameS ++ [t / 256 % 256, t % 256]) ++ (pubL (padTo 32 sk))), padTo 32 ps, padTo 32 ee, pubL (padTo 32 ee), pubL (padTo 32 sk), [], true, false, 0⟩ ww vv, fun ww vv => PtrH w_3 ⟨shaL nameS, shaL (shaL (shaL nameS ++ [t / 256 % 256, t % 256]) ++ (pubL (padTo 32 sk))), padTo 32 ps, padTo 32 ee, pubL (padTo 32 ee), pubL (padTo 32 sk), [], true, false, 0⟩ ww vv, fun _ v => v = .int .i64 ((0 : Nat) : Int), fun ww vv => PtrH w_3 ⟨shaL nameS, shaL (shaL (shaL nameS ++ [t / 256 % 256, t % 256]) ++ (pubL (padTo 32 sk))), padTo 32 ps, padTo 32 ee, pubL (padTo 32 ee), pubL (padTo 32 sk), [], true, false, 0⟩ ww vv] [70, 71, 72, 73, 74, 75, 76, 77, 78, 69, 79, 80, 14] hs hd (by kernel_rfl) (by kernel_rfl) (by kernel_rfl) (by kernel_rfl) (by kernel_rfl) ⟨stLit, stLit, stLit, stOwn, stLit, stLit, stLit, stOwn, stTupH, stTupH, stPtrH, stLit, stPtrH, trivial⟩ ⟨(step_ok rfl (fun a' w' hb' hO hD => by
   have d_1 : a'.eval (.tmp 13) = .int .i64 ((t : Nat) : Int) := (hO 13 (by decide)).trans (pe hs rfl rfl)
   exact .inl ⟨_, _, (o_move rfl d_1), rfl, Below.refl _ _⟩)),
(step_ok rfl (fun a' w' hb' hO hD => by
   have d_2 : a'.eval (.tmp 5) = .pointer (some ⟨g_1, 0, none⟩) := (hO 5 (by decide)).trans (pe hs rfl rfl)
   exact .inl ⟨_, _, (o_field (k' := 1) rfl d_2 (fun _ => by kernel_rfl)), rfl, Below.refl _ _⟩)),
(step_ok rfl (fun a' w' hb' hO hD => by
   have d_3 : a'.eval (.tmp 71) = .pointer (some ⟨g_1, 1, none⟩) := hD 1 71 (by kernel_rfl) rfl
   exact .inl ⟨_, _, (o_load1 rfl d_3 (hB_1.nx hb') rfl ⟨by kernel_rfl, by kernel_rfl⟩), rfl, Below.refl _ _⟩)),
(step_ok rfl (fun a' w' hb' hO hD => by
   have d_4 : a'.eval (.tmp 72) = .slice A1 (n1) (c1) := hD 2 72 (by kernel_rfl) rfl
   exact .inr ⟨_, #[.slice A1 (n1) (c1)], (exec_call Try.func12 (by kernel_rfl) (by kernel_rfl) _ rfl _ _ (args1 d_4)), Calls.mono (Key_any _ (h1.below (below_from HB_2 hb')) (by simp only [l1])) (fun e w'' hR => by obtain ⟨A_3, c_3, rfl, ho_3, hb_4⟩ := hR; exact ⟨_, rfl, ⟨_, _, rfl, ho_3.mono hb'.size⟩, hb_4⟩)⟩)),
(step_ok rfl (fun a' w' hb' hO hD => by
   have d_5 : a'.eval (.tmp 11) = .slice A_2 (32) (c_2) := (hO 11 (by decide)).trans (pe hs rfl rfl)
   exact .inl ⟨_, _, (o_move rfl d_5), rfl, Below.refl _ _⟩)),
(step_ok rfl (fun a' w' hb' hO hD => by
   have d_6 : a'.eval (.tmp 5) = .pointer (some ⟨g_1, 0, none⟩) := (hO 5 (by decide)).trans (pe hs rfl rfl)
   exact .inl ⟨_, _, (o_field (k' := 4) rfl d_6 (fun _ => by kernel_rfl)), rfl, Below.refl _ _⟩)),
(step_ok rfl (fun a' w' hb' hO hD => by
   have d_7 : a'.eval (.tmp 75) = .pointer (some ⟨g_1, 4, none⟩) := hD 5 75 (by kernel_rfl) rfl
   exact .inl ⟨_, _, (o_load1 rfl d_7 (hB_1.nx hb') rfl ⟨by kernel_rfl, by kernel_rfl⟩), rfl, Below.refl _ _⟩)),
(step_ok rfl (fun a' w' hb' hO hD => by
   have d_8 : a'.eval (.tmp 76) = .slice A4 (n4) (c4) := hD 6 76 (by kernel_rfl) rfl
   exact .inr ⟨_, #[.slice A4 (n4) (c4)], (exec_call Try.func12 (by kernel_rfl) (by kernel_rfl) _ rfl _ _ (args1 d_8)), Calls.mono (Key_any _ (h4.below (below_from HB_2 hb')) (by simp only [l4])) (fun e w'' hR => by obtain ⟨A_4, c_4, rfl, ho_4, hb_5⟩ := hR; exact ⟨_, rfl, ⟨_, _, rfl, ho_4.mono hb'.size⟩, hb_5⟩)⟩)),
(step_ok rfl (fun a' w' hb' hO hD => by
   have d_9 : a'.eval (.tmp 70) = .int .i64 ((t : Nat) : Int) := hD 0 70 (by kernel_rfl) rfl
   have d_10 := hD 3 73 (by kernel_rfl) rfl
   obtain ⟨A_5, c_5, hv_1, hO_1⟩ := d_10
   have d_11 : a'.eval (.tmp 74) = .slice A_2 (32) (c_2) := hD 4 74 (by kernel_rfl) rfl
   have d_12 := hD 7 77 (by kernel_rfl) rfl
   obtain ⟨A_6, c_6, hv_2, hO_2⟩ := d_12
   exact .inr ⟨_, #[.int .i64 ((t : Nat) : Int), .slice A_5 (32) (c_5), .slice A_2 (32) (c_2), .slice A_6 (32) (c_6)], (exec_call Try.func18 (by kernel_rfl) (by kernel_rfl) _ rfl _ _ (args4 d_9 hv_1 d_11 hv_2)), Calls.mono (Ask_any t _ (hO_1).bs (by simp only [padTo_length]) ((ho_2.nx hb')).bs (pubL_length _) (hO_2).bs (by simp only [padTo_length]) (by omega)) (fun e w'' hR => by obtain ⟨M9, g9, rfl, hH9, hge9, hb9⟩ := hR; exact ⟨_, rfl, ⟨M9, g9, rfl, hH9, hge9.down hb'.size⟩, hb9⟩)⟩)),
(step_ok rfl (fun a' w' hb' hO hD => by
   have d_13 := hD 8 78 (by kernel_rfl) rfl
   obtain ⟨M_1, g_2, hv_3, hH_1, hge_1⟩ := d_13
   exact .inl ⟨_, _, (o_move rfl hv_3), ⟨_, _, rfl, hH_1, hge_1⟩, Below.refl _ _⟩)),
(step_ok rfl (fun a' w' hb' hO hD => by
   have d_14 := hD 9 69 (by kernel_rfl) rfl
   obtain ⟨M_2, g_3, hv_4, hH_2, hge_2⟩ := d_14
   exact .inl ⟨_, _, (o_extract rfl hv_4 rfl), ⟨_, _, rfl, hH_2, hge_2⟩, Below.refl _ _⟩)),
(step_ok rfl (fun a' w' hb' hO hD => by
   have d_15 := hD 9 69 (by kernel_rfl) rfl
   obtain ⟨M_3, g_4, hv_5, hH_3, hge_3⟩ := d_15
   exact .inl ⟨_, _, (o_extract rfl hv_5 rfl), rfl, Below.refl _ _⟩)),
(step_ok rfl (fun a' w' hb' hO hD => by
   have d_16 := hD 10 79 (by kernel_rfl) rfl
   obtain ⟨M_4, g_5, hv_6, hH_4, hge_4⟩ := d_16
   exact .inl ⟨_, _, (o_assign rfl hv_6), ⟨_, _, rfl, hH_4, hge_4⟩, Below.refl _ _⟩)), trivial⟩ (fun a_1 w_4 hs_1 hd_1 hb_6 hO_3 hV_1 => ?_)
 have ta_1_0 := (hO_3 0 (by decide)).trans ((pm rfl).trans t0)
 have ta_1_1 := (hO_3 1 (by decide)).trans ((pm rfl).trans t1)
 have ta_1_2 := (hO_3 2 (by decide)).trans ((pm rfl).trans t2)
 have ta_1_3 := (hO_3 3 (by decide)).trans ((pm rfl).trans t3)
 have ta_1_4 := (hO_3 4 (by decide)).trans ((pm rfl).trans t4)
 have ta_1_5 : a_1.eval (.tmp 5) = .pointer (some ⟨g_1, 0, none⟩) := (hO_3 5 (by decide)).trans (pe hs rfl rfl)
 have ta_1_10 : a_1.eval (.tmp 10) = .bool (false) := (hO_3 10 (by decide)).trans (pe hs rfl rfl)
 have ta_1_40 : a_1.eval (.tmp 40) = .slice A6 (n6) (c6) := (hO_3 40 (by decide)).trans (pe hs rfl rfl)
 have ta_1_41 : a_1.eval (.tmp 41) = .int .i64 ((n6 : Nat) : Int) := (hO_3 41 (by decide)).trans (pe hs rfl rfl)
 have ta_1_42 : a_1.eval (.tmp 42) = .bool (false) := (hO_3 42 (by decide)).trans (pe hs rfl rfl)
 have ta_1_43 : a_1.eval (.tmp 43) = .bool (false) := (hO_3 43 (by decide)).trans (pe hs rfl rfl)
 have ta_1_44 : a_1.eval (.tmp 44) = .slice A7 (n7) (c7) := (hO_3 44 (by decide)).trans (pe hs rfl rfl)
 have ta_1_45 : a_1.eval (.tmp 45) = .int .i64 ((n7 : Nat) : Int) := (hO_3 45 (by decide)).trans (pe hs rfl rfl)
 have ta_1_46 : a_1.eval (.tmp 46) = .bool (false) := (hO_3 46 (by decide)).trans (pe hs rfl rfl)
 have ta_1_47 : a_1.eval (.tmp 47) = .bool (false) := (hO_3 47 (by decide)).trans (pe hs rfl rfl)
 have ta_1_48 : a_1.eval (.tmp 48) = .bool (false) := (hO_3 48 (by decide)).trans (pe hs rfl rfl)
 have ta_1_49 : a_1.eval (.tmp 49) = .slice A8 (n8) (c8) := (hO_3 49 (by decide)).trans (pe hs rfl rfl)
 have ta_1_50 : a_1.eval (.tmp 50) = .int .i64 ((n8 : Nat) : Int) := (hO_3 50 (by decide)).trans (pe hs rfl rfl)
 have ta_1_51 : a_1.eval (.tmp 51) = .bool (false) := (hO_3 51 (by decide)).trans (pe hs rfl rfl)
 have ta_1_52 : a_1.eval (.tmp 52) = .bool (false) := (hO_3 52 (by decide)).trans (pe hs rfl rfl)
 have ta_1_53 : a_1.eval (.tmp 53) = .bool (false) := (hO_3 53 (by decide)).trans (pe hs rfl rfl)
 have ta_1_54 : a_1.eval (.tmp 54) = .slice A9 (n9) (c9) := (hO_3 54 (by decide)).trans (pe hs rfl rfl)
 have ta_1_55 : a_1.eval (.tmp 55) = .int .i64 ((n9 : Nat) : Int) := (hO_3 55 (by decide)).trans (pe hs rfl rfl)
 have ta_1_56 : a_1.eval (.tmp 56) = .bool (false) := (hO_3 56 (by decide)).trans (pe hs rfl rfl)
 have ta_1_57 : a_1.eval (.tmp 57) = .bool (false) := (hO_3 57 (by decide)).trans (pe hs rfl rfl)
 have ta_1_60 : a_1.eval (.tmp 60) = .pointer (some ⟨g_1, 3, none⟩) := (hO_3 60 (by decide)).trans (pe hs rfl rfl)
 have ta_1_61 : a_1.eval (.tmp 61) = .slice A3 (n3) (c3) := (hO_3 61 (by decide)).trans (pe hs rfl rfl)
 have ta_1_62 : a_1.eval (.tmp 62) = .slice A_1 (32) (c_1) := (hO_3 62 (by decide)).trans (pe hs rfl rfl)
 have ta_1_63 : a_1.eval (.tmp 63) = .tuple #[.slice A_2 (32) (c_2), .int .i64 ((0 : Nat) : Int)] := (hO_3 63 (by decide)).trans (pe hs rfl rfl)
 have ta_1_59 : a_1.eval (.tmp 59) = .tuple #[.slice A_2 (32) (c_2), .int .i64 ((0 : Nat) : Int)] := (hO_3 59 (by decide)).trans (pe hs rfl rfl)
 have ta_1_64 : a_1.eval (.tmp 64) = .slice A_2 (32) (c_2) := (hO_3 64 (by decide)).trans (pe hs rfl rfl)
 have ta_1_65 : a_1.eval (.tmp 65) = .int .i64 ((0 : Nat) : Int) := (hO_3 65 (by decide)).trans (pe hs rfl rfl)
 have ta_1_11 : a_1.eval (.tmp 11) = .slice A_2 (32) (c_2) := (hO_3 11 (by decide)).trans (pe hs rfl rfl)
 have ta_1_12 : a_1.eval (.tmp 12) = .int .i64 ((0 : Nat) : Int) := (hO_3 12 (by decide)).trans (pe hs rfl rfl)
 have ta_1_66 : a_1.eval (.tmp 66) = .pointer (some ⟨g_1, 0, none⟩) := (hO_3 66 (by decide)).trans (pe hs rfl rfl)
 have ta_1_67 : a_1.eval (.tmp 67) = .int .i64 (z) := (hO_3 67 (by decide)).trans (pe hs rfl rfl)
 have ta_1_68 : a_1.eval (.tmp 68) = .int .i64 ((t : Nat) : Int) := (hO_3 68 (by decide)).trans (pe hs rfl rfl)
 have ta_1_13 : a_1.eval (.tmp 13) = .int .i64 ((t : Nat) : Int) := (hO_3 13 (by decide)).trans (pe hs rfl rfl)
 clear t0 t1 t2 t3 t4 hd
 replace hB_1 := hB_1.nx hb_6
 have HB_3 := below_from HB_2 hb_6
 have ta_1_70 : a_1.eval (.tmp 70) = .int .i64 ((t : Nat) : Int) := hV_1 0 70 rfl rfl
 have ta_1_71 : a_1.eval (.tmp 71) = .pointer (some ⟨g_1, 1, none⟩) := hV_1 1 71 rfl rfl
 have ta_1_72 : a_1.eval (.tmp 72) = .slice A1 (n1) (c1) := hV_1 2 72 rfl rfl
 have x_1 := hV_1 3 73 rfl rfl
 obtain ⟨A_7, c_7, hv_7, hO_4⟩ := x_1
 replace hO_4 := hO_4.mono HB_2.size
 have ta_1_74 : a_1.eval (.tmp 74) = .slice A_2 (32) (c_2) := hV_1 4 74 rfl rfl
 have ta_1_75 : a_1.eval (.tmp 75) = .pointer (some ⟨g_1, 4, none⟩) := hV_1 5 75 rfl rfl
 have ta_1_76 : a_1.eval (.tmp 76) = .slice A4 (n4) (c4) := hV_1 6 76 rfl rfl
 have x_2 := hV_1 7 77 rfl rfl
 obtain ⟨A_8, c_8, hv_8, hO_5⟩ := x_2
 replace hO_5 := hO_5.mono HB_2.size
 have x_3 := hV_1 8 78 rfl rfl
 obtain ⟨M_5, g_6, hv_9, hH_5, hge_5⟩ := x_3
 have x_4 := hV_1 9 69 rfl rfl
 obtain ⟨M_6, g_7, hv_10, hH_6, hge_6⟩ := x_4
 have x_5 := hV_1 10 79 rfl rfl
 obtain ⟨M_7, g_8, hv_11, hH_7, hge_7⟩ := x_5
 have ta_1_80 : a_1.eval (.tmp 80) = .int .i64 ((0 : Nat) : Int) := hV_1 11 80 rfl rfl
 have x_6 := hV_1 12 14 rfl rfl
 obtain ⟨M_8, g_9, hv_12, hH_8, hge_8⟩ := x_6
 clear hV_1 hO_3
 simp only [List.drop_succ_cons, List.drop_zero]
 refine q_at (v := .int .i64 ((0 : Nat) : Int)) ((pm rfl).trans ta_1_80) ?_
 refine x_nil ?_
 have gg_1 := hge_8.down HB_2.size
 refine hK_6 _ _ ?_
 refine w2_seq (fun K_7 hK_7 => ?_)
 have lt_8 := hH_8.lt
 refine x_drawn2 15 [fun _ v => v = .int .i64 ((t : Nat) : Int), fun _ v => v = .pointer (some ⟨g_1, 1, none⟩), fun _ v => v = .slice A1 (n1) (c1), fun ww vv => OwnN w_4.heap.size (32) (padTo 32 ps) ww vv, fun _ v => v = .pointer (some ⟨g_1, 3, none⟩), fun _ v => v = .slice A3 (n3) (c3), fun ww vv => OwnN w_4.heap.size (32) (padTo 32 sk) ww vv, fun _ v => v = .pointer (some ⟨g_1, 5, none⟩), fun _ v => v = .slice A5 (n5) (c5), fun ww vv => OwnN w_4.heap.size (32) (padTo 32 ff) ww vv, fun ww vv => TupH w_4 ⟨shaL nameS, shaL (shaL (shaL nameS ++ [t / 256 % 256, t % 256]) ++ pubL (padTo 32 sk)), padTo 32 ps, padTo 32 ff, pubL (padTo 32 ff), padTo 32 sk, [], false, false, 1⟩ ww vv, fun ww vv => TupH w_4 ⟨shaL nameS, shaL (shaL (shaL nameS ++ [t / 256 % 256, t % 256]) ++ pubL (padTo 32 sk)), padTo 32 ps, padTo 32 ff, pubL (padTo 32 ff), padTo 32 sk, [], false, false, 1⟩ ww vv, fun ww vv => PtrH w_4 ⟨shaL nameS, shaL (shaL (shaL nameS ++ [t / 256 % 256, t % 256]) ++ pubL (padTo 32 sk)), padTo 32 ps, padTo 32 ff, pubL (padTo 32 ff), padTo 32 sk, [], false, false, 1⟩ ww vv, fun _ v => v = .int .i64 ((0 : Nat) : Int), fun ww vv => PtrH w_4 ⟨shaL nameS, shaL (shaL (shaL nameS ++ [t / 256 % 256, t % 256]) ++ pubL (padTo 32 sk)), padTo 32 ps, padTo 32 ff, pubL (padTo 32 ff), padTo 32 sk, [], false, false, 1⟩ ww vv] [82, 83, 84, 85, 86, 87, 88, 89, 90, 91, 92, 81, 93, 94, 16] hs_1 hd_1 (by kernel_rfl) (by kernel_rfl) (by kernel_rfl) (by kernel_rfl) (by kernel_rfl) ⟨stLit, stLit, stLit, stOwn, stLit, stLit, stOwn, stLit, stLit, stOwn, stTupH, stTupH, stPtrH, stLit, stPtrH, trivial⟩ ⟨(step_ok rfl (fun a' w' hb' hO hD => by
   have d_17 := (hO 13 (by decide)).trans ((pm rfl).trans ta_1_13)
   exact .inl ⟨_, _, (o_move rfl d_17), rfl, Below.refl _ _⟩)),
(step_ok rfl (fun a' w' hb' hO hD => by
   have d_18 := (hO 5 (by decide)).trans ((pm rfl).trans ta_1_5)
   exact .inl ⟨_, _, (o_field (k' := 1) rfl d_18 (fun _ => by kernel_rfl)), rfl, Below.refl _ _⟩)),
(step_ok rfl (fun a' w' hb' hO hD => by
   have d_19 : a'.eval (.tmp 83) = .pointer (some ⟨g_1, 1, none⟩) := hD 1 83 (by kernel_rfl) rfl
   exact .inl ⟨_, _, (o_load1 rfl d_19 (hB_1.nx hb') rfl ⟨by kernel_rfl, by kernel_rfl⟩), rfl, Below.refl _ _⟩)),
(step_ok rfl (fun a' w' hb' hO hD => by
   have d_20 : a'.eval (.tmp 84) = .slice A1 (n1) (c1) := hD 2 84 (by kernel_rfl) rfl
   exact .inr ⟨_, #[.slice A1 (n1) (c1)], (exec_call Try.func12 (by kernel_rfl) (by kernel_rfl) _ rfl _ _ (args1 d_20)), Calls.mono (Key_any _ (h1.below (below_from HB_3 hb')) (by simp only [l1])) (fun e w'' hR => by obtain ⟨A_9, c_9, rfl, ho_5, hb_7⟩ := hR; exact ⟨_, rfl, ⟨_, _, rfl, ho_5.mono hb'.size⟩, hb_7⟩)⟩)),
(step_ok rfl (fun a' w' hb' hO hD => by
   have d_21 := (hO 5 (by decide)).trans ((pm rfl).trans ta_1_5)
   exact .inl ⟨_, _, (o_field (k' := 3) rfl d_21 (fun _ => by kernel_rfl)), rfl, Below.refl _ _⟩)),
(step_ok rfl (fun a' w' hb' hO hD => by
   have d_22 : a'.eval (.tmp 86) = .pointer (some ⟨g_1, 3, none⟩) := hD 4 86 (by kernel_rfl) rfl
   exact .inl ⟨_, _, (o_load1 rfl d_22 (hB_1.nx hb') rfl ⟨by kernel_rfl, by kernel_rfl⟩), rfl, Below.refl _ _⟩)),
(step_ok rfl (fun a' w' hb' hO hD => by
   have d_23 : a'.eval (.tmp 87) = .slice A3 (n3) (c3) := hD 5 87 (by kernel_rfl) rfl
   exact .inr ⟨_, #[.slice A3 (n3) (c3)], (exec_call Try.func12 (by kernel_rfl) (by kernel_rfl) _ rfl _ _ (args1 d_23)), Calls.mono (Key_any _ (h3.below (below_from HB_3 hb')) (by simp only [l3])) (fun e w'' hR => by obtain ⟨A_10, c_10, rfl, ho_6, hb_8⟩ := hR; exact ⟨_, rfl, ⟨_, _, rfl, ho_6.mono hb'.size⟩, hb_8⟩)⟩)),
(step_ok rfl (fun a' w' hb' hO hD => by
   have d_24 := (hO 5 (by decide)).trans ((pm rfl).trans ta_1_5)
   exact .inl ⟨_, _, (o_field (k' := 5) rfl d_24 (fun _ => by kernel_rfl)), rfl, Below.refl _ _⟩)),
(step_ok rfl (fun a' w' hb' hO hD => by
   have d_25 : a'.eval (.tmp 89) = .pointer (some ⟨g_1, 5, none⟩) := hD 7 89 (by kernel_rfl) rfl
   exact .inl ⟨_, _, (o_load1 rfl d_25 (hB_1.nx hb') rfl ⟨by kernel_rfl, by kernel_rfl⟩), rfl, Below.refl _ _⟩)),
(step_ok rfl (fun a' w' hb' hO hD => by
   have d_26 : a'.eval (.tmp 90) = .slice A5 (n5) (c5) := hD 8 90 (by kernel_rfl) rfl
   exact .inr ⟨_, #[.slice A5 (n5) (c5)], (exec_call Try.func12 (by kernel_rfl) (by kernel_rfl) _ rfl _ _ (args1 d_26)), Calls.mono (Key_any _ (h5.below (below_from HB_3 hb')) (by simp only [l5])) (fun e w'' hR => by obtain ⟨A_11, c_11, rfl, ho_7, hb_9⟩ := hR; exact ⟨_, rfl, ⟨_, _, rfl, ho_7.mono hb'.size⟩, hb_9⟩)⟩)),
(step_ok rfl (fun a' w' hb' hO hD => by
   have d_27 : a'.eval (.tmp 82) = .int .i64 ((t : Nat) : Int) := hD 0 82 (by kernel_rfl) rfl
   have d_28 := hD 3 85 (by kernel_rfl) rfl
   obtain ⟨A_12, c_12, hv_13, hO_6⟩ := d_28
   have d_29 := hD 6 88 (by kernel_rfl) rfl
   obtain ⟨A_13, c_13, hv_14, hO_7⟩ := d_29
   have d_30 := hD 9 91 (by kernel_rfl) rfl
   obtain ⟨A_14, c_14, hv_15, hO_8⟩ := d_30
   exact .inr ⟨_, #[.int .i64 ((t : Nat) : Int), .slice A_12 (32) (c_12), .slice A_13 (32) (c_13), .slice A_14 (32) (c_14)], (exec_call Try.func19 (by kernel_rfl) (by kernel_rfl) _ rfl _ _ (args4 d_27 hv_13 hv_14 hv_15)), Calls.mono (Answer_any t _ (hO_6).bs (by simp only [padTo_length]) (hO_7).bs (by simp only [padTo_length]) (hO_8).bs (by simp only [padTo_length]) (by omega)) (fun e w'' hR => by obtain ⟨M9, g9, rfl, hH9, hge9, hb9⟩ := hR; exact ⟨_, rfl, ⟨M9, g9, rfl, hH9, hge9.down hb'.size⟩, hb9⟩)⟩)),
(step_ok rfl (fun a' w' hb' hO hD => by
   have d_31 := hD 10 92 (by kernel_rfl) rfl
   obtain ⟨M_9, g_10, hv_16, hH_9, hge_9⟩ := d_31
   exact .inl ⟨_, _, (o_move rfl hv_16), ⟨_, _, rfl, hH_9, hge_9⟩, Below.refl _ _⟩)),
(step_ok rfl (fun a' w' hb' hO hD => by
   have d_32 := hD 11 81 (by kernel_rfl) rfl
   obtain ⟨M_10, g_11, hv_17, hH_10, hge_10⟩ := d_32
   exact .inl ⟨_, _, (o_extract rfl hv_17 rfl), ⟨_, _, rfl, hH_10, hge_10⟩, Below.refl _ _⟩)),
(step_ok rfl (fun a' w' hb' hO hD => by
   have d_33 := hD 11 81 (by kernel_rfl) rfl
   obtain ⟨M_11, g_12, hv_18, hH_11, hge_11⟩ := d_33
   exact .inl ⟨_, _, (o_extract rfl hv_18 rfl), rfl, Below.refl _ _⟩)),
(step_ok rfl (fun a' w' hb' hO hD => by
   have d_34 := hD 12 93 (by kernel_rfl) rfl
   obtain ⟨M_12, g_13, hv_19, hH_12, hge_12⟩ := d_34
   exact .inl ⟨_, _, (o_assign rfl hv_19), ⟨_, _, rfl, hH_12, hge_12⟩, Below.refl _ _⟩)), trivial⟩ (fun a_2 w_5 hs_2 hd_2 hb_10 hO_9 hV_2 => ?_)
 have ta_2_0 := (hO_9 0 (by decide)).trans ((pm rfl).trans ta_1_0)
 have ta_2_1 := (hO_9 1 (by decide)).trans ((pm rfl).trans ta_1_1)
 have ta_2_2 := (hO_9 2 (by decide)).trans ((pm rfl).trans ta_1_2)
 have ta_2_3 := (hO_9 3 (by decide)).trans ((pm rfl).trans ta_1_3)
 have ta_2_4 := (hO_9 4 (by decide)).trans ((pm rfl).trans ta_1_4)
 have ta_2_5 := (hO_9 5 (by decide)).trans ((pm rfl).trans ta_1_5)
 have ta_2_10 := (hO_9 10 (by decide)).trans ((pm rfl).trans ta_1_10)
 have ta_2_40 := (hO_9 40 (by decide)).trans ((pm rfl).trans ta_1_40)
 have ta_2_41 := (hO_9 41 (by decide)).trans ((pm rfl).trans ta_1_41)
 have ta_2_42 := (hO_9 42 (by decide)).trans ((pm rfl).trans ta_1_42)
 have ta_2_43 := (hO_9 43 (by decide)).trans ((pm rfl).trans ta_1_43)
 have ta_2_44 := (hO_9 44 (by decide)).trans ((pm rfl).trans ta_1_44)
 have ta_2_45 := (hO_9 45 (by decide)).trans ((pm rfl).trans ta_1_45)
 have ta_2_46 := (hO_9 46 (by decide)).trans ((pm rfl).trans ta_1_46)
 have ta_2_47 := (hO_9 47 (by decide)).trans ((pm rfl).trans ta_1_47)
 have ta_2_48 := (hO_9 48 (by decide)).trans ((pm rfl).trans ta_1_48)
 have ta_2_49 := (hO_9 49 (by decide)).trans ((pm rfl).trans ta_1_49)
 have ta_2_50 := (hO_9 50 (by decide)).trans ((pm rfl).trans ta_1_50)
 have ta_2_51 := (hO_9 51 (by decide)).trans ((pm rfl).trans ta_1_51)
 have ta_2_52 := (hO_9 52 (by decide)).trans ((pm rfl).trans ta_1_52)
 have ta_2_53 := (hO_9 53 (by decide)).trans ((pm rfl).trans ta_1_53)
 have ta_2_54 := (hO_9 54 (by decide)).trans ((pm rfl).trans ta_1_54)
 have ta_2_55 := (hO_9 55 (by decide)).trans ((pm rfl).trans ta_1_55)
 have ta_2_56 := (hO_9 56 (by decide)).trans ((pm rfl).trans ta_1_56)
 have ta_2_57 := (hO_9 57 (by decide)).trans ((pm rfl).trans ta_1_57)
 have ta_2_60 := (hO_9 60 (by decide)).trans ((pm rfl).trans ta_1_60)
 have ta_2_61 := (hO_9 61 (by decide)).trans ((pm rfl).trans ta_1_61)
 have ta_2_62 := (hO_9 62 (by decide)).trans ((pm rfl).trans ta_1_62)
 have ta_2_63 := (hO_9 63 (by decide)).trans ((pm rfl).trans ta_1_63)
 have ta_2_59 := (hO_9 59 (by decide)).trans ((pm rfl).trans ta_1_59)
 have ta_2_64 := (hO_9 64 (by decide)).trans ((pm rfl).trans ta_1_64)
 have ta_2_65 := (hO_9 65 (by decide)).trans ((pm rfl).trans ta_1_65)
 have ta_2_11 := (hO_9 11 (by decide)).trans ((pm rfl).trans ta_1_11)
 have ta_2_12 := (hO_9 12 (by decide)).trans ((pm rfl).trans ta_1_12)
 have ta_2_66 := (hO_9 66 (by decide)).trans ((pm rfl).trans ta_1_66)
 have ta_2_67 := (hO_9 67 (by decide)).trans ((pm rfl).trans ta_1_67)
 have ta_2_68 := (hO_9 68 (by decide)).trans ((pm rfl).trans ta_1_68)
 have ta_2_13 := (hO_9 13 (by decide)).trans ((pm rfl).trans ta_1_13)
 have ta_2_70 := (hO_9 70 (by decide)).trans ((pm rfl).trans ta_1_70)
 have ta_2_71 := (hO_9 71 (by decide)).trans ((pm rfl).trans ta_1_71)
 have ta_2_72 := (hO_9 72 (by decide)).trans ((pm rfl).trans ta_1_72)
 have ta_2_73 := (hO_9 73 (by decide)).trans ((pm rfl).trans hv_7)
 have ta_2_74 := (hO_9 74 (by decide)).trans ((pm rfl).trans ta_1_74)
 have ta_2_75 := (hO_9 75 (by decide)).trans ((pm rfl).trans ta_1_75)
 have ta_2_76 := (hO_9 76 (by decide)).trans ((pm rfl).trans ta_1_76)
 have ta_2_77 := (hO_9 77 (by decide)).trans ((pm rfl).trans hv_8)
 have ta_2_78 := (hO_9 78 (by decide)).trans ((pm rfl).trans hv_9)
 have ta_2_69 := (hO_9 69 (by decide)).trans ((pm rfl).trans hv_10)
 have ta_2_79 := (hO_9 79 (by decide)).trans ((pm rfl).trans hv_11)
 have ta_2_80 := (hO_9 80 (by decide)).trans ((pm rfl).trans ta_1_80)
 have ta_2_14 := (hO_9 14 (by decide)).trans ((pm rfl).trans hv_12)
 have ta_2_15 : a_2.eval (.tmp 15) = .int .i64 ((0 : Nat) : Int) := (hO_9 15 (by decide)).trans (pe hs_1 rfl rfl)
 clear ta_1_0 ta_1_1 ta_1_2 ta_1_3 ta_1_4 ta_1_5 ta_1_10 ta_1_40 ta_1_41 ta_1_42 ta_1_43 ta_1_44 ta_1_45 ta_1_46 ta_1_47 ta_1_48 ta_1_49 ta_1_50 ta_1_51 ta_1_52 ta_1_53 ta_1_54 ta_1_55 ta_1_56 ta_1_57 ta_1_60 ta_1_61 ta_1_62 ta_1_63 ta_1_59 ta_1_64 ta_1_65 ta_1_11 ta_1_12 ta_1_66 ta_1_67 ta_1_68 ta_1_13 ta_1_70 ta_1_71 ta_1_72 hv_7 ta_1_74 ta_1_75 ta_1_76 hv_8 hv_9 hv_10 hv_11 ta_1_80 hv_12 hd_1
 replace hH_5 := hH_5.nx hb_10
 replace hH_6 := hH_6.nx hb_10
 replace hH_7 := hH_7.nx hb_10
 replace hH_8 := hH_8.nx hb_10
 have HB_4 := below_from HB_3 hb_10
 have ta_2_82 : a_2.eval (.tmp 82) = .int .i64 ((t : Nat) : Int) := hV_2 0 82 rfl rfl
 have ta_2_83 : a_2.eval (.tmp 83) = .pointer (some ⟨g_1, 1, none⟩) := hV_2 1 83 rfl rfl
 have ta_2_84 : a_2.eval (.tmp 84) = .slice A1 (n1) (c1) := hV_2 2 84 rfl rfl
 have x_7 := hV_2 3 85 rfl rfl
 obtain ⟨A_15, c_15, hv_20, hO_10⟩ := x_7
 replace hO_10 := hO_10.mono HB_3.size
 have ta_2_86 : a_2.eval (.tmp 86) = .pointer (some ⟨g_1, 3, none⟩) := hV_2 4 86 rfl rfl
 have ta_2_87 : a_2.eval (.tmp 87) = .slice A3 (n3) (c3) := hV_2 5 87 rfl rfl
 have x_8 := hV_2 6 88 rfl rfl
 obtain ⟨A_16, c_16, hv_21, hO_11⟩ := x_8
 replace hO_11 := hO_11.mono HB_3.size
 have ta_2_89 : a_2.eval (.tmp 89) = .pointer (some ⟨g_1, 5, none⟩) := hV_2 7 89 rfl rfl
 have ta_2_90 : a_2.eval (.tmp 90) = .slice A5 (n5) (c5) := hV_2 8 90 rfl rfl
 have x_9 := hV_2 9 91 rfl rfl
 obtain ⟨A_17, c_17, hv_22, hO_12⟩ := x_9
 replace hO_12 := hO_12.mono HB_3.size
 have x_10 := hV_2 10 92 rfl rfl
 obtain ⟨M_13, g_14, hv_23, hH_13, hge_13⟩ := x_10
 have x_11 := hV_2 11 81 rfl rfl
 obtain ⟨M_14, g_15, hv_24, hH_14, hge_14⟩ := x_11
 have x_12 := hV_2 12 93 rfl rfl
 obtain ⟨M_15, g_16, hv_25, hH_15, hge_15⟩ := x_12
 have ta_2_94 : a_2.eval (.tmp 94) = .int .i64 ((0 : Nat) : Int) := hV_2 13 94 rfl rfl
 have x_13 := hV_2 14 16 rfl rfl
 obtain ⟨M_16, g_17, hv_26, hH_16, hge_16⟩ := x_13
 clear hV_2 hO_9
 simp only [List.drop_succ_cons, List.drop_zero]
 refine q_at (v := .int .i64 ((0 : Nat) : Int)) ((pm rfl).trans ta_2_94) ?_
 refine x_nil ?_
 have sp_8 : Sep M_8 M_16 := Sep.new lt_8 hge_16
 have gg_2 := hge_16.down HB_3.size
 refine hK_7 _ _ ?_
 refine w2_seq (fun K_8 hK_8 => ?_)
 refine w2_sr (fun K_9 hK_9 => ?_)
 refine q_mv (v := .int .i64 ((0 : Nat) : Int)) ((pm rfl).trans ta_2_12) ?_
 refine q_v 96 (.bool (false)) (o_eq (o_neq (m := 0) (n := 0) rfl (pe hs_2 rfl rfl) rfl) rfl) ?_
 refine q_mv (pe hs_2 rfl rfl) ?_
 refine op_valG (e := 97) (d := 98) (v := .int .i64 ((0 : Nat) : Int)) rfl rfl (by kernel_rfl) (pe hs_2 rfl rfl) (o_move rfl ((pm rfl).trans ta_2_15)) ?_
 refine op_valG (e := 97) (d := 99) (v := .bool (false)) rfl rfl (by kernel_rfl) (pe hs_2 rfl rfl) (o_eq (o_neq (m := 0) (n := 0) rfl (pe hs_2 rfl rfl) rfl) rfl) ?_
 refine q_v 100 (.bool (false)) (o_pickF rfl (pe hs_2 rfl rfl) (pe hs_2 rfl rfl)) ?_
 refine q_mv (pe hs_2 rfl rfl) ?_
 refine op_valG (e := 101) (d := 102) (v := .int .i64 ((0 : Nat) : Int)) rfl rfl (by kernel_rfl) (pe hs_2 rfl rfl) (o_move rfl (pe hs_2 rfl rfl)) ?_
 refine op_valG (e := 101) (d := 103) (v := .bool (false)) rfl rfl (by kernel_rfl) (pe hs_2 rfl rfl) (o_eq (o_neq (m := 0) (n := 0) rfl (pe hs_2 rfl rfl) rfl) rfl) ?_
 refine q_v 104 (.bool (false)) (o_pickF rfl (pe hs_2 rfl rfl) (pe hs_2 rfl rfl)) ?_
 refine q_mv (pe hs_2 rfl rfl) ?_
 refine op_valG (e := 105) (d := 106) (v := .pointer (some ⟨g_9, 0, none⟩)) rfl rfl (by kernel_rfl) (pe hs_2 rfl rfl) (o_move rfl ((pm rfl).trans ta_2_14)) ?_
 refine op_valG (e := 105) (d := 107) (v := .bool (false)) rfl rfl (by kernel_rfl) (pe hs_2 rfl rfl) (o_nil (b := false) rfl (pe hs_2 rfl rfl) rfl rfl ⟨57, fun _ => by kernel_rfl⟩) ?_
 refine q_v 108 (.bool (false)) (o_pickF rfl (pe hs_2 rfl rfl) (pe hs_2 rfl rfl)) ?_
 refine q_mv (pe hs_2 rfl rfl) ?_
 refine op_valG (e := 109) (d := 110) (v := .pointer (some ⟨g_17, 0, none⟩)) rfl rfl (by kernel_rfl) (pe hs_2 rfl rfl) (o_move rfl ((pm rfl).trans hv_26)) ?_
 refine op_valG (e := 109) (d := 111) (v := .bool (false)) rfl rfl (by kernel_rfl) (pe hs_2 rfl rfl) (o_nil (b := false) rfl (pe hs_2 rfl rfl) rfl rfl ⟨57, fun _ => by kernel_rfl⟩) ?_
 refine q_v 112 (.bool (false)) (o_pickF rfl (pe hs_2 rfl rfl) (pe hs_2 rfl rfl)) ?_
 refine x_nil (hK_9 _ _ ?_)
 refine w2_condF (pe hs_2 rfl rfl) ?_
 refine w2_skip ?_
 refine hK_8 _ _ ?_
 refine w2_sr (fun K_10 hK_10 => ?_)
 refine q_mv ((pm rfl).trans ta_2_14) ?_
 refine q_mv ((pm rfl).trans ta_2_1) ?_
 refine q_ca (vs := #[.pointer (some ⟨g_9, 0, none⟩), .slice A6 (n6) (c6)]) Try.func21 (args2 (pe hs_2 rfl rfl) (pe hs_2 rfl rfl)) (Write_first _ hH_8 (h6.below HB_4) (by simp only [l6]) (by omega) (key_good h3.b8) (pubL_num _)) (fun e_3 w_6 hR_4 => ?_)
 obtain ⟨A_18, c_18, rfl, ho_8, ⟨M_17, hH_17, hN_1, hs_3⟩, hX_1⟩ := hR_4
 obtain ⟨S1, hS1⟩ : ∃ q : Sy, q = (firstS (shaL nameS) (shaL (shaL (shaL nameS ++ [t / 256 % 256, t % 256]) ++ (pubL (padTo 32 sk)))) (padTo 32 ps) (pubL (padTo 32 ee)) (dhL (padTo 32 ee) ((secN (padTo 32 sk))))) := ⟨_, rfl⟩
 rw [← hS1] at ho_8 hH_17
 have hl_1 : (pubL (padTo 32 ee) ++ outS S1 xa).length = 32 + (n6 + 16) := by rw [List.length_append, outS_length, pubL_length]; have h9 : (xa : List Nat).length = n6 := (by simp only [l6]); omega
 have sp_13 : Sep M_16 M_17 := hN_1.sep (sp_8.symm) hH_16.lt
 replace hH_16 := hH_16.keepM hX_1 (sp_8.symm)
 have gg_3 := hN_1.ge gg_1 HB_4.size
 replace ho_8 := ho_8.mono HB_4.size
 have HB_5 := hX_1.below HB_4 HB_4.size gg_1
 refine ⟨_, rfl, ?_⟩
 refine q_mv (pe hs_2 rfl rfl) ?_
 refine q_ex (v := .slice A_18 (32 + (n6 + 16)) (c_18)) (pe hs_2 rfl rfl) rfl ?_
 refine q_ex (v := .int .i64 ((0 : Nat) : Int)) (pe hs_2 rfl rfl) rfl ?_
 refine q_at (pe hs_2 rfl rfl) ?_
 refine q_at (v := .int .i64 ((0 : Nat) : Int)) (pe hs_2 rfl rfl) ?_
 refine x_nil (hK_10 _ _ ?_)
 refine w2_sr (fun K_11 hK_11 => ?_)
 refine q_mv ((pm rfl).trans hv_26) ?_
 refine q_mv (pe hs_2 rfl rfl) ?_
 refine q_ca (vs := #[.pointer (some ⟨g_17, 0, none⟩), .slice A_18 (32 + (n6 + 16)) (c_18)]) Try.func20 (args2 (pe hs_2 rfl rfl) (pe hs_2 rfl rfl)) (Read_first _ hH_16 (ho_8).bs hl_1 (by omega) (by omega) (pubL_length _) (key_good h4.b8) (pubL_num _) (by rw [dhL_comm (padTo 32 sk) (padTo 32 ee), ← hS1]; exact openL_outS S1 _)) (fun e_4 w_7 hR_5 => ?_)
 obtain ⟨A_19, c_19, rfl, ho_9, ⟨M_18, hH_18, hN_2, hs_4⟩, hX_2⟩ := hR_5
 rw [dhL_comm (padTo 32 sk) (padTo 32 ee), ← hS1] at hH_18
 have sp_19 : Sep M_17 M_18 := hN_2.sep (sp_13.symm) hH_17.lt
 have sp_20 : Sep (blkA A_19) M_17 := (Sep.new hH_17.lt ho_9.ge').symm
 replace hH_17 := hH_17.keepM hX_2 (sp_13.symm)
 have gg_4 := hN_2.ge gg_2 HB_5.size
 replace ho_9 := ho_9.mono HB_5.size
 have HB_6 := hX_2.below HB_5 HB_5.size gg_2
 refine ⟨_, rfl, ?_⟩
 refine q_mv (pe hs_2 rfl rfl) ?_
 refine q_ex (v := .slice A_19 ((xa).length) (c_19)) (pe hs_2 rfl rfl) rfl ?_
 refine q_ex (v := .int .i64 ((0 : Nat) : Int)) (pe hs_2 rfl rfl) rfl ?_
 refine q_at (pe hs_2 rfl rfl) ?_
 refine q_at (v := .int .i64 ((0 : Nat) : Int)) (pe hs_2 rfl rfl) ?_
 refine x_nil (hK_11 _ _ ?_)
 refine w2_sr (fun K_12 hK_12 => ?_)
 refine q_mv ((pm rfl).trans hv_26) ?_
 refine q_mv ((pm rfl).trans ta_2_2) ?_
 refine q_ca (vs := #[.pointer (some ⟨g_17, 0, none⟩), .slice A7 (n7) (c7)]) Try.func21 (args2 (pe hs_2 rfl rfl) (pe hs_2 rfl rfl)) (Write_second _ hH_18 (h7.below HB_6) (by simp only [l7]) (by omega) (key_good h4.b8) (pubL_num _) (by first | rfl | exact pubL_length _)) (fun e_5 w_8 hR_6 => ?_)
 obtain ⟨A_20, c_20, rfl, ho_10, ⟨M_19, hH_19, hN_3, hs_5⟩, hX_3⟩ := hR_6
 obtain ⟨S2, hS2⟩ : ∃ q : Sy, q = (secondS S1.ck (shaL (S1.h ++ (outS S1 xa))) (pubL (padTo 32 ff)) (dhL (padTo 32 ff) ((secN (padTo 32 ee))))) := ⟨_, rfl⟩
 rw [← hS2] at ho_10 hH_19
 have hl_2 : (pubL (padTo 32 ff) ++ outS S2 xb).length = 32 + (n7 + 16) := by rw [List.length_append, outS_length, pubL_length]; have h9 : (xb : List Nat).length = n7 := (by simp only [l7]); omega
 have sp_27 : Sep M_17 M_19 := hN_3.sep (sp_19) hH_17.lt
 replace hH_17 := hH_17.keepM hX_3 (sp_19)
 replace ho_9 := ho_9.keepM hX_3 (hs_4)
 replace ho_10 := ho_10.mono HB_6.size
 have HB_7 := hX_3.below HB_6 HB_6.size gg_4
 refine ⟨_, rfl, ?_⟩
 refine q_mv (pe hs_2 rfl rfl) ?_
 refine q_ex (v := .slice A_20 (32 + (n7 + 16)) (c_20)) (pe hs_2 rfl rfl) rfl ?_
 refine q_ex (v := .int .i64 ((0 : Nat) : Int)) (pe hs_2 rfl rfl) rfl ?_
 refine q_at (pe hs_2 rfl rfl) ?_
 refine q_at (v := .int .i64 ((0 : Nat) : Int)) (pe hs_2 rfl rfl) ?_
 refine x_nil (hK_12 _ _ ?_)
 refine w2_sr (fun K_13 hK_13 => ?_)
 refine q_mv ((pm rfl).trans ta_2_14) ?_
 refine q_mv (pe hs_2 rfl rfl) ?_
 refine q_ca (vs := #[.pointer (some ⟨g_9, 0, none⟩), .slice A_20 (32 + (n7 + 16)) (c_20)]) Try.func20 (args2 (pe hs_2 rfl rfl) (pe hs_2 rfl rfl)) (Read_second _ hH_17 (ho_10).bs hl_2 (by omega) (by omega) (pubL_length _) (key_good h5.b8) (pubL_num _) (by rw [dhL_comm (padTo 32 ee) (padTo 32 ff), ← hS2]; exact openL_outS S2 _)) (fun e_6 w_9 hR_7 => ?_)
 obtain ⟨A_21, c_21, rfl, ho_11, ⟨M_20, hH_20, hN_4, hs_6⟩, hX_4⟩ := hR_7
 rw [dhL_comm (padTo 32 ee) (padTo 32 ff), ← hS2] at hH_20
 replace ho_9 := ho_9.keepM hX_4 (sp_20)
 replace hH_19 := hH_19.keepM hX_4 (sp_27.symm)
 replace ho_11 := ho_11.mono HB_7.size
 have HB_8 := hX_4.below HB_7 HB_7.size gg_3
 refine ⟨_, rfl, ?_⟩
 refine q_mv (pe hs_2 rfl rfl) ?_
 refine q_ex (v := .slice A_21 ((xb).length) (c_21)) (pe hs_2 rfl rfl) rfl ?_
 refine q_ex (v := .int .i64 ((0 : Nat) : Int)) (pe hs_2 rfl rfl) rfl ?_
 refine q_at (pe hs_2 rfl rfl) ?_
 refine q_at (v := .int .i64 ((0 : Nat) : Int)) (pe hs_2 rfl rfl) ?_
 refine x_nil (hK_13 _ _ ?_)
 refine w2_seq (fun K_14 hK_14 => ?_)
 refine w2_seq (fun K_15 hK_15 => ?_)
 refine x_drawn 57 ((fun _ v => v = .int .i64 ((0 : Nat) : Int)) :: (fun _ v => v = .bool (false)) :: (fun _ v => v = .bool (false)) :: (fun _ v => v = .int .i64 ((0 : Nat) : Int)) :: (fun _ v => v = .bool (false)) :: (fun _ v => v = .bool (false)) :: (fun _ v => v = .bool (false)) :: (fun _ v => v = .int .i64 ((0 : Nat) : Int)) :: (fun _ v => v = .bool (false)) :: (fun _ v => v = .bool (false)) :: (fun _ v => v = .bool (false)) :: (fun _ v => v = .int .i64 ((0 : Nat) : Int)) :: (fun _ v => v = .bool (false)) :: (fun _ v => v = .bool (false)) :: (fun _ v => v = .bool (false)) :: (fun _ v => v = .slice A_19 ((xa).length) (c_19)) :: (fun _ v => v = .string (strB xa)) :: (fun _ v => v = .slice A6 (n6) (c6)) :: (fun _ v => v = .string (strB xa)) :: (fun _ v => v = .bool (false)) :: (fun _ v => v = .bool (false)) :: (fun _ v => v = .bool (false)) :: (fun _ v => v = .slice A_21 ((xb).length) (c_21)) :: (fun _ v => v = .string (strB xb)) :: (fun _ v => v = .slice A7 (n7) (c7)) :: (fun _ v => v = .string (strB xb)) :: (fun _ v => v = .bool (false)) :: (fun _ v => v = .bool (false)) :: (fun _ v => v = .bool (false)) :: (fun _ v => v = .slice A_18 (32 + (n6 + 16)) (c_18)) :: (fun _ v => v = .int .i64 ((32 + (n6 + 16) : Nat) : Int)) :: (fun _ v => v = .slice A6 (n6) (c6)) :: (fun _ v => v = .int .i64 ((n6 : Nat) : Int)) :: (fun _ v => v = .int .i64 ((n6 + 48 : Nat) : Int)) :: (fun _ v => v = .bool (false)) :: (fun _ v => v = .bool (false)) :: (fun _ v => v = .bool (false)) :: (fun _ v => v = .slice A_20 (32 + (n7 + 16)) (c_20)) :: (fun _ v => v = .int .i64 ((32 + (n7 + 16) : Nat) : Int)) :: (fun _ v => v = .slice A7 (n7) (c7)) :: (fun _ v => v = .int .i64 ((n7 : Nat) : Int)) :: (fun _ v => v = .int .i64 ((n7 + 48 : Nat) : Int)) :: (fun _ v => v = .bool (false)) :: (fun _ v => v = .bool (false)) :: (fun _ v => v = .bool (false)) :: (fun _ v => v = .pointer (some ⟨g_9, 0, none⟩)) :: (fun ww vv => OwnN w_9.heap.size (32) (shaL (S2.h ++ (outS S2 xb))) ww vv) :: (fun _ v => v = .int .i64 ((32 : Nat) : Int)) :: (fun _ v => v = .bool (false)) :: (fun _ v => v = .bool (false)) :: (fun _ v => v = .bool (false)) :: (fun _ v => v = .pointer (some ⟨g_9, 0, none⟩)) :: (fun ww vv => OwnN w_9.heap.size (32) (shaL (S2.h ++ (outS S2 xb))) ww vv) :: (fun _ v => v = .string (strB (shaL (S2.h ++ (outS S2 xb))))) :: (fun _ v => v = .pointer (some ⟨g_17, 0, none⟩)) :: (fun ww vv => OwnN w_9.heap.size (32) (shaL (S2.h ++ outS S2 xb)) ww vv) :: (fun _ v => v = .string (strB (shaL (S2.h ++ outS S2 xb)))) :: []) [137, 138, 139, 140, 141, 142, 143, 144, 145, 146, 147, 148, 149, 150, 151, 152, 153, 154, 155, 156, 157, 158, 159, 160, 161, 162, 163, 164, 165, 166, 167, 168, 169, 170, 171, 172, 173, 174, 175, 176, 177, 178, 179, 180, 181, 182, 183, 184, 185, 186, 187, 188, 189, 190, 191, 192, 193] hs_2 hd_2 (by kernel_rfl) (by kernel_rfl) (by kernel_rfl) (by kernel_rfl) (by kernel_rfl) ⟨stLit, stLit, stLit, stLit, stLit, stLit, stLit, stLit, stLit, stLit, stLit, stLit, stLit, stLit, stLit, stLit, stLit, stLit, stLit, stLit, stLit, stLit, stLit, stLit, stLit, stLit, stLit, stLit, stLit, stLit, stLit, stLit, stLit, stLit, stLit, stLit, stLit, stLit, stLit, stLit, stLit, stLit, stLit, stLit, stLit, stLit, stOwn, stLit, stLit, stLit, stLit, stLit, stOwn, stLit, stLit, stOwn, stLit, trivial⟩ ⟨(step_ok rfl (fun a' w' hb' hO hD => by
   have d_35 : a'.eval (.tmp 19) = .int .i64 ((0 : Nat) : Int) := (hO 19 (by decide)).trans (pe hs_2 rfl rfl)
   exact .inl ⟨_, _, (o_move rfl d_35), rfl, Below.refl _ _⟩)),
(step_ok rfl (fun a' w' hb' hO hD => by
   have d_36 : a'.eval (.tmp 137) = .int .i64 ((0 : Nat) : Int) := hD 0 137 (by kernel_rfl) rfl
   exact .inl ⟨_, _, (o_eq (o_neq (m := 0) (n := 0) rfl d_36 rfl) rfl), rfl, Below.refl _ _⟩)),
(step_ok rfl (fun a' w' hb' hO hD => by
   have d_37 : a'.eval (.tmp 138) = .bool (false) := hD 1 138 (by kernel_rfl) rfl
   exact .inl ⟨_, _, (o_move rfl d_37), rfl, Below.refl _ _⟩)),
(step_yes 2 false 139 rfl rfl (by kernel_rfl) (fun _ _ h => h) (fun a' w' hb' hO hD => by
   have d_38 : a'.eval (.tmp 21) = .int .i64 ((0 : Nat) : Int) := (hO 21 (by decide)).trans (pe hs_2 rfl rfl)
   exact .inl ⟨_, _, (o_move rfl d_38), rfl, Below.refl _ _⟩)),
(step_yes 2 false 139 rfl rfl (by kernel_rfl) (fun _ _ h => h) (fun a' w' hb' hO hD => by
   have d_39 : a'.eval (.tmp 140) = .int .i64 ((0 : Nat) : Int) := hD 3 140 (by kernel_rfl) rfl
   exact .inl ⟨_, _, (o_eq (o_neq (m := 0) (n := 0) rfl d_39 rfl) rfl), rfl, Below.refl _ _⟩)),
(step_ok rfl (fun a' w' hb' hO hD => by
   have d_40 : a'.eval (.tmp 139) = .bool (false) := hD 2 139 (by kernel_rfl) rfl
   have d_41 : a'.eval (.tmp 141) = .bool (false) := hD 4 141 (by kernel_rfl) rfl
   exact .inl ⟨_, _, (o_pickF rfl d_40 d_41), rfl, Below.refl _ _⟩)),
(step_ok rfl (fun a' w' hb' hO hD => by
   have d_42 : a'.eval (.tmp 142) = .bool (false) := hD 5 142 (by kernel_rfl) rfl
   exact .inl ⟨_, _, (o_move rfl d_42), rfl, Below.refl _ _⟩)),
(step_yes 6 false 143 rfl rfl (by kernel_rfl) (fun _ _ h => h) (fun a' w' hb' hO hD => by
   have d_43 : a'.eval (.tmp 23) = .int .i64 ((0 : Nat) : Int) := (hO 23 (by decide)).trans (pe hs_2 rfl rfl)
   exact .inl ⟨_, _, (o_move rfl d_43), rfl, Below.refl _ _⟩)),
(step_yes 6 false 143 rfl rfl (by kernel_rfl) (fun _ _ h => h) (fun a' w' hb' hO hD => by
   have d_44 : a'.eval (.tmp 144) = .int .i64 ((0 : Nat) : Int) := hD 7 144 (by kernel_rfl) rfl
   exact .inl ⟨_, _, (o_eq (o_neq (m := 0) (n := 0) rfl d_44 rfl) rfl), rfl, Below.refl _ _⟩)),
(step_ok rfl (fun a' w' hb' hO hD => by
   have d_45 : a'.eval (.tmp 143) = .bool (false) := hD 6 143 (by kernel_rfl) rfl
   have d_46 : a'.eval (.tmp 145) = .bool (false) := hD 8 145 (by kernel_rfl) rfl
   exact .inl ⟨_, _, (o_pickF rfl d_45 d_46), rfl, Below.refl _ _⟩)),
(step_ok rfl (fun a' w' hb' hO hD => by
   have d_47 : a'.eval (.tmp 146) = .bool (false) := hD 9 146 (by kernel_rfl) rfl
   exact .inl ⟨_, _, (o_move rfl d_47), rfl, Below.refl _ _⟩)),
(step_yes 10 false 147 rfl rfl (by kernel_rfl) (fun _ _ h => h) (fun a' w' hb' hO hD => by
   have d_48 : a'.eval (.tmp 25) = .int .i64 ((0 : Nat) : Int) := (hO 25 (by decide)).trans (pe hs_2 rfl rfl)
   exact .inl ⟨_, _, (o_move rfl d_48), rfl, Below.refl _ _⟩)),
(step_yes 10 false 147 rfl rfl (by kernel_rfl) (fun _ _ h => h) (fun a' w' hb' hO hD => by
   have d_49 : a'.eval (.tmp 148) = .int .i64 ((0 : Nat) : Int) := hD 11 148 (by kernel_rfl) rfl
   exact .inl ⟨_, _, (o_eq (o_neq (m := 0) (n := 0) rfl d_49 rfl) rfl), rfl, Below.refl _ _⟩)),
(step_ok rfl (fun a' w' hb' hO hD => by
   have d_50 : a'.eval (.tmp 147) = .bool (false) := hD 10 147 (by kernel_rfl) rfl
   have d_51 : a'.eval (.tmp 149) = .bool (false) := hD 12 149 (by kernel_rfl) rfl
   exact .inl ⟨_, _, (o_pickF rfl d_50 d_51), rfl, Below.refl _ _⟩)),
(step_ok rfl (fun a' w' hb' hO hD => by
   have d_52 : a'.eval (.tmp 150) = .bool (false) := hD 13 150 (by kernel_rfl) rfl
   exact .inl ⟨_, _, (o_move rfl d_52), rfl, Below.refl _ _⟩)),
(step_yes 14 false 151 rfl rfl (by kernel_rfl) (fun _ _ h => h) (fun a' w' hb' hO hD => by
   have d_53 : a'.eval (.tmp 20) = .slice A_19 ((xa).length) (c_19) := (hO 20 (by decide)).trans (pe hs_2 rfl rfl)
   exact .inl ⟨_, _, (o_move rfl d_53), rfl, Below.refl _ _⟩)),
(step_yes 14 false 151 rfl rfl (by kernel_rfl) (fun _ _ h => h) (fun a' w' hb' hO hD => by
   have d_54 : a'.eval (.tmp 152) = .slice A_19 ((xa).length) (c_19) := hD 15 152 (by kernel_rfl) rfl
   exact .inl ⟨_, _, (o_str rfl d_54 ((ho_9.nx hb')).bs rfl), rfl, Below.refl _ _⟩)),
(step_yes 14 false 151 rfl rfl (by kernel_rfl) (fun _ _ h => h) (fun a' w' hb' hO hD => by
   have d_55 := (hO 1 (by decide)).trans ((pm rfl).trans ta_2_1)
   exact .inl ⟨_, _, (o_move rfl d_55), rfl, Below.refl _ _⟩)),
(step_yes 14 false 151 rfl rfl (by kernel_rfl) (fun _ _ h => h) (fun a' w' hb' hO hD => by
   have d_56 : a'.eval (.tmp 154) = .slice A6 (n6) (c6) := hD 17 154 (by kernel_rfl) rfl
   exact .inl ⟨_, _, (o_str rfl d_56 (h6.below (below_from HB_8 hb')) (by simp only [l6])), rfl, Below.refl _ _⟩)),
(step_yes 14 false 151 rfl rfl (by kernel_rfl) (fun _ _ h => h) (fun a' w' hb' hO hD => by
   have d_57 : a'.eval (.tmp 153) = .string (strB xa) := hD 16 153 (by kernel_rfl) rfl
   have d_58 : a'.eval (.tmp 155) = .string (strB xa) := hD 18 155 (by kernel_rfl) rfl
   exact .inl ⟨_, _, (o_neS rfl d_57 d_58 rfl), rfl, Below.refl _ _⟩)),
(step_ok rfl (fun a' w' hb' hO hD => by
   have d_59 : a'.eval (.tmp 151) = .bool (false) := hD 14 151 (by kernel_rfl) rfl
   have d_60 : a'.eval (.tmp 156) = .bool (false) := hD 19 156 (by kernel_rfl) rfl
   exact .inl ⟨_, _, (o_pickF rfl d_59 d_60), rfl, Below.refl _ _⟩)),
(step_ok rfl (fun a' w' hb' hO hD => by
   have d_61 : a'.eval (.tmp 157) = .bool (false) := hD 20 157 (by kernel_rfl) rfl
   exact .inl ⟨_, _, (o_move rfl d_61), rfl, Below.refl _ _⟩)),
(step_yes 21 false 158 rfl rfl (by kernel_rfl) (fun _ _ h => h) (fun a' w' hb' hO hD => by
   have d_62 : a'.eval (.tmp 24) = .slice A_21 ((xb).length) (c_21) := (hO 24 (by decide)).trans (pe hs_2 rfl rfl)
   exact .inl ⟨_, _, (o_move rfl d_62), rfl, Below.refl _ _⟩)),
(step_yes 21 false 158 rfl rfl (by kernel_rfl) (fun _ _ h => h) (fun a' w' hb' hO hD => by
   have d_63 : a'.eval (.tmp 159) = .slice A_21 ((xb).length) (c_21) := hD 22 159 (by kernel_rfl) rfl
   exact .inl ⟨_, _, (o_str rfl d_63 ((ho_11.nx hb')).bs rfl), rfl, Below.refl _ _⟩)),
(step_yes 21 false 158 rfl rfl (by kernel_rfl) (fun _ _ h => h) (fun a' w' hb' hO hD => by
   have d_64 := (hO 2 (by decide)).trans ((pm rfl).trans ta_2_2)
   exact .inl ⟨_, _, (o_move rfl d_64), rfl, Below.refl _ _⟩)),
(step_yes 21 false 158 rfl rfl (by kernel_rfl) (fun _ _ h => h) (fun a' w' hb' hO hD => by
   have d_65 : a'.eval (.tmp 161) = .slice A7 (n7) (c7) := hD 24 161 (by kernel_rfl) rfl
   exact .inl ⟨_, _, (o_str rfl d_65 (h7.below (below_from HB_8 hb')) (by simp only [l7])), rfl, Below.refl _ _⟩)),
(step_yes 21 false 158 rfl rfl (by kernel_rfl) (fun _ _ h => h) (fun a' w' hb' hO hD => by
   have d_66 : a'.eval (.tmp 160) = .string (strB xb) := hD 23 160 (by kernel_rfl) rfl
   have d_67 : a'.eval (.tmp 162) = .string (strB xb) := hD 25 162 (by kernel_rfl) rfl
   exact .inl ⟨_, _, (o_neS rfl d_66 d_67 rfl), rfl, Below.refl _ _⟩)),
(step_ok rfl (fun a' w' hb' hO hD => by
   have d_68 : a'.eval (.tmp 158) = .bool (false) := hD 21 158 (by kernel_rfl) rfl
   have d_69 : a'.eval (.tmp 163) = .bool (false) := hD 26 163 (by kernel_rfl) rfl
   exact .inl ⟨_, _, (o_pickF rfl d_68 d_69), rfl, Below.refl _ _⟩)),
(step_ok rfl (fun a' w' hb' hO hD => by
   have d_70 : a'.eval (.tmp 164) = .bool (false) := hD 27 164 (by kernel_rfl) rfl
   exact .inl ⟨_, _, (o_move rfl d_70), rfl, Below.refl _ _⟩)),
(step_yes 28 false 165 rfl rfl (by kernel_rfl) (fun _ _ h => h) (fun a' w' hb' hO hD => by
   have d_71 : a'.eval (.tmp 18) = .slice A_18 (32 + (n6 + 16)) (c_18) := (hO 18 (by decide)).trans (pe hs_2 rfl rfl)
   exact .inl ⟨_, _, (o_move rfl d_71), rfl, Below.refl _ _⟩)),
(step_yes 28 false 165 rfl rfl (by kernel_rfl) (fun _ _ h => h) (fun a' w' hb' hO hD => by
   have d_72 : a'.eval (.tmp 166) = .slice A_18 (32 + (n6 + 16)) (c_18) := hD 29 166 (by kernel_rfl) rfl
   exact .inl ⟨_, _, (o_len rfl d_72), rfl, Below.refl _ _⟩)),
(step_yes 28 false 165 rfl rfl (by kernel_rfl) (fun _ _ h => h) (fun a' w' hb' hO hD => by
   have d_73 := (hO 1 (by decide)).trans ((pm rfl).trans ta_2_1)
   exact .inl ⟨_, _, (o_move rfl d_73), rfl, Below.refl _ _⟩)),
(step_yes 28 false 165 rfl rfl (by kernel_rfl) (fun _ _ h => h) (fun a' w' hb' hO hD => by
   have d_74 : a'.eval (.tmp 168) = .slice A6 (n6) (c6) := hD 31 168 (by kernel_rfl) rfl
   exact .inl ⟨_, _, (o_len rfl d_74), rfl, Below.refl _ _⟩)),
(step_yes 28 false 165 rfl rfl (by kernel_rfl) (fun _ _ h => h) (fun a' w' hb' hO hD => by
   have d_75 : a'.eval (.tmp 169) = .int .i64 ((n6 : Nat) : Int) := hD 32 169 (by kernel_rfl) rfl
   exact .inl ⟨_, _, (o_add64 (m := n6) (n := 48) rfl d_75 rfl (by omega)), rfl, Below.refl _ _⟩)),
(step_yes 28 false 165 rfl rfl (by kernel_rfl) (fun _ _ h => h) (fun a' w' hb' hO hD => by
   have d_76 : a'.eval (.tmp 167) = .int .i64 ((32 + (n6 + 16) : Nat) : Int) := hD 30 167 (by kernel_rfl) rfl
   have d_77 : a'.eval (.tmp 170) = .int .i64 ((n6 + 48 : Nat) : Int) := hD 33 170 (by kernel_rfl) rfl
   have e0 : (.bool (!decide ((32 + (n6 + 16)) = (n6 + 48))) : Value) = .bool (false) := (by rw [decide_eq_true (by omega)]; rfl)
   exact .inl ⟨_, _, (o_neq (m := (32 + (n6 + 16))) (n := (n6 + 48)) rfl d_76 d_77), e0, Below.refl _ _⟩)),
(step_ok rfl (fun a' w' hb' hO hD => by
   have d_78 : a'.eval (.tmp 165) = .bool (false) := hD 28 165 (by kernel_rfl) rfl
   have d_79 : a'.eval (.tmp 171) = .bool (false) := hD 34 171 (by kernel_rfl) rfl
   exact .inl ⟨_, _, (o_pickF rfl d_78 d_79), rfl, Below.refl _ _⟩)),
(step_ok rfl (fun a' w' hb' hO hD => by
   have d_80 : a'.eval (.tmp 172) = .bool (false) := hD 35 172 (by kernel_rfl) rfl
   exact .inl ⟨_, _, (o_move rfl d_80), rfl, Below.refl _ _⟩)),
(step_yes 36 false 173 rfl rfl (by kernel_rfl) (fun _ _ h => h) (fun a' w' hb' hO hD => by
   have d_81 : a'.eval (.tmp 22) = .slice A_20 (32 + (n7 + 16)) (c_20) := (hO 22 (by decide)).trans (pe hs_2 rfl rfl)
   exact .inl ⟨_, _, (o_move rfl d_81), rfl, Below.refl _ _⟩)),
(step_yes 36 false 173 rfl rfl (by kernel_rfl) (fun _ _ h => h) (fun a' w' hb' hO hD => by
   have d_82 : a'.eval (.tmp 174) = .slice A_20 (32 + (n7 + 16)) (c_20) := hD 37 174 (by kernel_rfl) rfl
   exact .inl ⟨_, _, (o_len rfl d_82), rfl, Below.refl _ _⟩)),
(step_yes 36 false 173 rfl rfl (by kernel_rfl) (fun _ _ h => h) (fun a' w' hb' hO hD => by
   have d_83 := (hO 2 (by decide)).trans ((pm rfl).trans ta_2_2)
   exact .inl ⟨_, _, (o_move rfl d_83), rfl, Below.refl _ _⟩)),
(step_yes 36 false 173 rfl rfl (by kernel_rfl) (fun _ _ h => h) (fun a' w' hb' hO hD => by
   have d_84 : a'.eval (.tmp 176) = .slice A7 (n7) (c7) := hD 39 176 (by kernel_rfl) rfl
   exact .inl ⟨_, _, (o_len rfl d_84), rfl, Below.refl _ _⟩)),
(step_yes 36 false 173 rfl rfl (by kernel_rfl) (fun _ _ h => h) (fun a' w' hb' hO hD => by
   have d_85 : a'.eval (.tmp 177) = .int .i64 ((n7 : Nat) : Int) := hD 40 177 (by kernel_rfl) rfl
   exact .inl ⟨_, _, (o_add64 (m := n7) (n := 48) rfl d_85 rfl (by omega)), rfl, Below.refl _ _⟩)),
(step_yes 36 false 173 rfl rfl (by kernel_rfl) (fun _ _ h => h) (fun a' w' hb' hO hD => by
   have d_86 : a'.eval (.tmp 175) = .int .i64 ((32 + (n7 + 16) : Nat) : Int) := hD 38 175 (by kernel_rfl) rfl
   have d_87 : a'.eval (.tmp 178) = .int .i64 ((n7 + 48 : Nat) : Int) := hD 41 178 (by kernel_rfl) rfl
   have e0 : (.bool (!decide ((32 + (n7 + 16)) = (n7 + 48))) : Value) = .bool (false) := (by rw [decide_eq_true (by omega)]; rfl)
   exact .inl ⟨_, _, (o_neq (m := (32 + (n7 + 16))) (n := (n7 + 48)) rfl d_86 d_87), e0, Below.refl _ _⟩)),
(step_ok rfl (fun a' w' hb' hO hD => by
   have d_88 : a'.eval (.tmp 173) = .bool (false) := hD 36 173 (by kernel_rfl) rfl
   have d_89 : a'.eval (.tmp 179) = .bool (false) := hD 42 179 (by kernel_rfl) rfl
   exact .inl ⟨_, _, (o_pickF rfl d_88 d_89), rfl, Below.refl _ _⟩)),
(step_ok rfl (fun a' w' hb' hO hD => by
   have d_90 : a'.eval (.tmp 180) = .bool (false) := hD 43 180 (by kernel_rfl) rfl
   exact .inl ⟨_, _, (o_move rfl d_90), rfl, Below.refl _ _⟩)),
(step_yes 44 false 181 rfl rfl (by kernel_rfl) (fun _ _ h => h) (fun a' w' hb' hO hD => by
   have d_91 := (hO 14 (by decide)).trans ((pm rfl).trans ta_2_14)
   exact .inl ⟨_, _, (o_move rfl d_91), rfl, Below.refl _ _⟩)),
(step_yes 44 false 181 rfl rfl (by kernel_rfl) (fun _ _ h => h) (fun a' w' hb' hO hD => by
   have d_92 : a'.eval (.tmp 182) = .pointer (some ⟨g_9, 0, none⟩) := hD 45 182 (by kernel_rfl) rfl
   exact .inr ⟨_, #[.pointer (some ⟨g_9, 0, none⟩)], (exec_call Try.func25 (by kernel_rfl) (by kernel_rfl) _ rfl _ _ (args1 d_92)), Calls.mono (Hash_any _ (hH_20.nx hb') (by dsimp only; omega)) (fun e w'' hR => by obtain ⟨A_22, c_22, rfl, ho_12, hb_11⟩ := hR; exact ⟨_, rfl, ⟨_, _, rfl, ho_12.mono hb'.size⟩, hb_11⟩)⟩)),
(step_yes 44 false 181 rfl rfl (by kernel_rfl) (fun _ _ h => h) (fun a' w' hb' hO hD => by
   have d_93 := hD 46 183 (by kernel_rfl) rfl
   obtain ⟨A_23, c_23, hv_27, hO_13⟩ := d_93
   exact .inl ⟨_, _, (o_len rfl hv_27), rfl, Below.refl _ _⟩)),
(step_yes 44 false 181 rfl rfl (by kernel_rfl) (fun _ _ h => h) (fun a' w' hb' hO hD => by
   have d_94 : a'.eval (.tmp 184) = .int .i64 ((32 : Nat) : Int) := hD 47 184 (by kernel_rfl) rfl
   exact .inl ⟨_, _, (o_eq (o_neq (m := 32) (n := 32) rfl d_94 rfl) rfl), rfl, Below.refl _ _⟩)),
(step_ok rfl (fun a' w' hb' hO hD => by
   have d_95 : a'.eval (.tmp 181) = .bool (false) := hD 44 181 (by kernel_rfl) rfl
   have d_96 : a'.eval (.tmp 185) = .bool (false) := hD 48 185 (by kernel_rfl) rfl
   exact .inl ⟨_, _, (o_pickF rfl d_95 d_96), rfl, Below.refl _ _⟩)),
(step_ok rfl (fun a' w' hb' hO hD => by
   have d_97 : a'.eval (.tmp 186) = .bool (false) := hD 49 186 (by kernel_rfl) rfl
   exact .inl ⟨_, _, (o_move rfl d_97), rfl, Below.refl _ _⟩)),
(step_yes 50 false 187 rfl rfl (by kernel_rfl) (fun _ _ h => h) (fun a' w' hb' hO hD => by
   have d_98 := (hO 14 (by decide)).trans ((pm rfl).trans ta_2_14)
   exact .inl ⟨_, _, (o_move rfl d_98), rfl, Below.refl _ _⟩)),
(step_yes 50 false 187 rfl rfl (by kernel_rfl) (fun _ _ h => h) (fun a' w' hb' hO hD => by
   have d_99 : a'.eval (.tmp 188) = .pointer (some ⟨g_9, 0, none⟩) := hD 51 188 (by kernel_rfl) rfl
   exact .inr ⟨_, #[.pointer (some ⟨g_9, 0, none⟩)], (exec_call Try.func25 (by kernel_rfl) (by kernel_rfl) _ rfl _ _ (args1 d_99)), Calls.mono (Hash_any _ (hH_20.nx hb') (by dsimp only; omega)) (fun e w'' hR => by obtain ⟨A_24, c_24, rfl, ho_13, hb_12⟩ := hR; exact ⟨_, rfl, ⟨_, _, rfl, ho_13.mono hb'.size⟩, hb_12⟩)⟩)),
(step_yes 50 false 187 rfl rfl (by kernel_rfl) (fun _ _ h => h) (fun a' w' hb' hO hD => by
   have d_100 := hD 52 189 (by kernel_rfl) rfl
   obtain ⟨A_25, c_25, hv_28, hO_14⟩ := d_100
   exact .inl ⟨_, _, (o_str rfl hv_28 (hO_14).bs (shaL_length _)), rfl, Below.refl _ _⟩)),
(step_yes 50 false 187 rfl rfl (by kernel_rfl) (fun _ _ h => h) (fun a' w' hb' hO hD => by
   have d_101 := (hO 16 (by decide)).trans ((pm rfl).trans hv_26)
   exact .inl ⟨_, _, (o_move rfl d_101), rfl, Below.refl _ _⟩)),
(step_yes 50 false 187 rfl rfl (by kernel_rfl) (fun _ _ h => h) (fun a' w' hb' hO hD => by
   have d_102 : a'.eval (.tmp 191) = .pointer (some ⟨g_17, 0, none⟩) := hD 54 191 (by kernel_rfl) rfl
   exact .inr ⟨_, #[.pointer (some ⟨g_17, 0, none⟩)], (exec_call Try.func25 (by kernel_rfl) (by kernel_rfl) _ rfl _ _ (args1 d_102)), Calls.mono (Hash_any _ (hH_19.nx hb') (by dsimp only; omega)) (fun e w'' hR => by obtain ⟨A_26, c_26, rfl, ho_14, hb_13⟩ := hR; exact ⟨_, rfl, ⟨_, _, rfl, ho_14.mono hb'.size⟩, hb_13⟩)⟩)),
(step_yes 50 false 187 rfl rfl (by kernel_rfl) (fun _ _ h => h) (fun a' w' hb' hO hD => by
   have d_103 := hD 55 192 (by kernel_rfl) rfl
   obtain ⟨A_27, c_27, hv_29, hO_15⟩ := d_103
   exact .inl ⟨_, _, (o_str rfl hv_29 (hO_15).bs (shaL_length _)), rfl, Below.refl _ _⟩)), trivial⟩ (fun a_3 w_10 hs_7 hd_3 hb_14 hO_16 hV_3 => ?_)
 have ta_3_3 := (hO_16 3 (by decide)).trans ((pm rfl).trans ta_2_3)
 have ta_3_4 := (hO_16 4 (by decide)).trans ((pm rfl).trans ta_2_4)
 have ta_3_14 := (hO_16 14 (by decide)).trans ((pm rfl).trans ta_2_14)
 have ta_3_16 := (hO_16 16 (by decide)).trans ((pm rfl).trans hv_26)
 clear ta_2_0 ta_2_1 ta_2_2 ta_2_3 ta_2_4 ta_2_5 ta_2_10 ta_2_40 ta_2_41 ta_2_42 ta_2_43 ta_2_44 ta_2_45 ta_2_46 ta_2_47 ta_2_48 ta_2_49 ta_2_50 ta_2_51 ta_2_52 ta_2_53 ta_2_54 ta_2_55 ta_2_56 ta_2_57 ta_2_60 ta_2_61 ta_2_62 ta_2_63 ta_2_59 ta_2_64 ta_2_65 ta_2_11 ta_2_12 ta_2_66 ta_2_67 ta_2_68 ta_2_13 ta_2_70 ta_2_71 ta_2_72 ta_2_73 ta_2_74 ta_2_75 ta_2_76 ta_2_77 ta_2_78 ta_2_69 ta_2_79 ta_2_80 ta_2_14 ta_2_15 ta_2_82 ta_2_83 ta_2_84 hv_20 ta_2_86 ta_2_87 hv_21 ta_2_89 ta_2_90 hv_22 hv_23 hv_24 hv_25 ta_2_94 hv_26 hd_2
 replace hH_19 := hH_19.nx hb_14
 replace hH_20 := hH_20.nx hb_14
 have HB_9 := below_from HB_8 hb_14
 have x_14 := hV_3 46 183 rfl rfl
 obtain ⟨A_28, c_28, hv_30, hO_17⟩ := x_14
 replace hO_17 := hO_17.mono HB_8.size
 have ta_3_187 : a_3.eval (.tmp 187) = .bool (false) := hV_3 50 187 rfl rfl
 have x_15 := hV_3 52 189 rfl rfl
 obtain ⟨A_29, c_29, hv_31, hO_18⟩ := x_15
 replace hO_18 := hO_18.mono HB_8.size
 have ta_3_190 : a_3.eval (.tmp 190) = .string (strB (shaL (S2.h ++ (outS S2 xb)))) := hV_3 53 190 rfl rfl
 have x_16 := hV_3 55 192 rfl rfl
 obtain ⟨A_30, c_30, hv_32, hO_19⟩ := x_16
 replace hO_19 := hO_19.mono HB_8.size
 have ta_3_193 : a_3.eval (.tmp 193) = .string (strB (shaL (S2.h ++ outS S2 xb))) := hV_3 56 193 rfl rfl
 clear hV_3 hO_16
 simp only [List.drop_succ_cons, List.drop_zero]
 refine op_valG (e := 187) (d := 194) (v := .bool (false)) rfl rfl (by kernel_rfl) ((pm rfl).trans ta_3_187) (o_neS rfl ((pm rfl).trans ta_3_190) ((pm rfl).trans ta_3_193) rfl) ?_
 refine q_v 195 (.bool (false)) (o_pickF rfl ((pm rfl).trans ta_3_187) (pe hs_7 rfl rfl)) ?_
 refine x_nil (hK_15 _ _ ?_)
 refine w2_condF (pe hs_7 rfl rfl) ?_
 refine w2_skip ?_
 refine hK_14 _ _ ?_
 refine w2_sr (fun K_16 hK_16 => ?_)
 refine q_mv ((pm rfl).trans ta_3_14) ?_
 refine q_ca (vs := #[.pointer (some ⟨g_9, 0, none⟩)]) Try.func22 (args1 (pe hs_7 rfl rfl)) (Split_asks _ hH_20) (fun e_7 w_11 hR_8 => ?_)
 obtain ⟨N_1, gc_1, N_2, gc_2, rfl, hC_1, hC_2, hge_17, hge_18, sp_45, hb_15⟩ := hR_8
 have sp_54 : Sep M_19 N_1 := Sep.new hH_19.lt hge_17
 have sp_55 : Sep M_19 N_2 := Sep.new hH_19.lt hge_18
 have sp_58 : Sep M_20 N_1 := Sep.new hH_20.lt hge_17
 have sp_59 : Sep M_20 N_2 := Sep.new hH_20.lt hge_18
 have sp_62 : Sep (blkA A_28) N_1 := Sep.new hO_17.lt hge_17
 have sp_63 : Sep (blkA A_28) N_2 := Sep.new hO_17.lt hge_18
 have sp_64 : Sep (blkA A_29) N_1 := Sep.new hO_18.lt hge_17
 have sp_65 : Sep (blkA A_29) N_2 := Sep.new hO_18.lt hge_18
 have sp_66 : Sep (blkA A_30) N_1 := Sep.new hO_19.lt hge_17
 have sp_67 : Sep (blkA A_30) N_2 := Sep.new hO_19.lt hge_18
 have gg_7 := hge_17.down HB_9.size
 have gg_8 := hge_18.down HB_9.size
 replace hH_19 := hH_19.nx hb_15
 replace hH_20 := hH_20.nx hb_15
 replace hO_17 := hO_17.nx hb_15
 replace hO_18 := hO_18.nx hb_15
 replace hO_19 := hO_19.nx hb_15
 have HB_10 := below_from HB_9 hb_15
 refine ⟨_, rfl, ?_⟩
 refine q_mv (pe hs_7 rfl rfl) ?_
 refine q_ex (v := .pointer (some ⟨gc_1, 0, none⟩)) (pe hs_7 rfl rfl) rfl ?_
 refine q_ex (v := .pointer (some ⟨gc_2, 0, none⟩)) (pe hs_7 rfl rfl) rfl ?_
 refine q_ex (v := .int .i64 ((0 : Nat) : Int)) (pe hs_7 rfl rfl) rfl ?_
 refine q_at (pe hs_7 rfl rfl) ?_
 refine q_at (pe hs_7 rfl rfl) ?_
 refine q_at (v := .int .i64 ((0 : Nat) : Int)) (pe hs_7 rfl rfl) ?_
 refine x_nil (hK_16 _ _ ?_)
 refine w2_sr (fun K_17 hK_17 => ?_)
 refine q_mv ((pm rfl).trans ta_3_16) ?_
 refine q_ca (vs := #[.pointer (some ⟨g_17, 0, none⟩)]) Try.func22 (args1 (pe hs_7 rfl rfl)) (Split_answers _ hH_19) (fun e_8 w_12 hR_9 => ?_)
 obtain ⟨N_3, gc_3, N_4, gc_4, rfl, hC_3, hC_4, hge_19, hge_20, sp_68, hb_16⟩ := hR_9
 have sp_77 : Sep M_19 N_3 := Sep.new hH_19.lt hge_19
 have sp_78 : Sep M_19 N_4 := Sep.new hH_19.lt hge_20
 have sp_81 : Sep M_20 N_3 := Sep.new hH_20.lt hge_19
 have sp_82 : Sep M_20 N_4 := Sep.new hH_20.lt hge_20
 have sp_85 : Sep (blkA A_28) N_3 := Sep.new hO_17.lt hge_19
 have sp_86 : Sep (blkA A_28) N_4 := Sep.new hO_17.lt hge_20
 have sp_87 : Sep (blkA A_29) N_3 := Sep.new hO_18.lt hge_19
 have sp_88 : Sep (blkA A_29) N_4 := Sep.new hO_18.lt hge_20
 have sp_89 : Sep (blkA A_30) N_3 := Sep.new hO_19.lt hge_19
 have sp_90 : Sep (blkA A_30) N_4 := Sep.new hO_19.lt hge_20
 have sp_91 : Sep N_1 N_3 := Sep.new hC_1.lt hge_19
 have sp_92 : Sep N_1 N_4 := Sep.new hC_1.lt hge_20
 have sp_93 : Sep N_2 N_3 := Sep.new hC_2.lt hge_19
 have sp_94 : Sep N_2 N_4 := Sep.new hC_2.lt hge_20
 have gg_9 := hge_19.down HB_10.size
 have gg_10 := hge_20.down HB_10.size
 replace hH_19 := hH_19.nx hb_16
 replace hH_20 := hH_20.nx hb_16
 replace hO_17 := hO_17.nx hb_16
 replace hO_18 := hO_18.nx hb_16
 replace hO_19 := hO_19.nx hb_16
 replace hC_1 := hC_1.nx hb_16
 replace hC_2 := hC_2.nx hb_16
 have HB_11 := below_from HB_10 hb_16
 refine ⟨_, rfl, ?_⟩
 refine q_mv (pe hs_7 rfl rfl) ?_
 refine q_ex (v := .pointer (some ⟨gc_3, 0, none⟩)) (pe hs_7 rfl rfl) rfl ?_
 refine q_ex (v := .pointer (some ⟨gc_4, 0, none⟩)) (pe hs_7 rfl rfl) rfl ?_
 refine q_ex (v := .int .i64 ((0 : Nat) : Int)) (pe hs_7 rfl rfl) rfl ?_
 refine q_at (pe hs_7 rfl rfl) ?_
 refine q_at (pe hs_7 rfl rfl) ?_
 refine q_at (v := .int .i64 ((0 : Nat) : Int)) (pe hs_7 rfl rfl) ?_
 refine x_nil (hK_17 _ _ ?_)
 refine w2_seq (fun K_18 hK_18 => ?_)
 refine w2_sr (fun K_19 hK_19 => ?_)
 refine q_mv (v := .int .i64 ((0 : Nat) : Int)) (pe hs_7 rfl rfl) ?_
 refine q_v 209 (.bool (false)) (o_eq (o_neq (m := 0) (n := 0) rfl (pe hs_7 rfl rfl) rfl) rfl) ?_
 refine q_mv (pe hs_7 rfl rfl) ?_
 refine op_valG (e := 210) (d := 211) (v := .int .i64 ((0 : Nat) : Int)) rfl rfl (by kernel_rfl) (pe hs_7 rfl rfl) (o_move rfl (pe hs_7 rfl rfl)) ?_
 refine op_valG (e := 210) (d := 212) (v := .bool (false)) rfl rfl (by kernel_rfl) (pe hs_7 rfl rfl) (o_eq (o_neq (m := 0) (n := 0) rfl (pe hs_7 rfl rfl) rfl) rfl) ?_
 refine q_v 213 (.bool (false)) (o_pickF rfl (pe hs_7 rfl rfl) (pe hs_7 rfl rfl)) ?_
 refine q_mv (pe hs_7 rfl rfl) ?_
 refine op_valG (e := 214) (d := 215) (v := .pointer (some ⟨gc_1, 0, none⟩)) rfl rfl (by kernel_rfl) (pe hs_7 rfl rfl) (o_move rfl (pe hs_7 rfl rfl)) ?_
 refine op_valG (e := 214) (d := 216) (v := .bool (false)) rfl rfl (by kernel_rfl) (pe hs_7 rfl rfl) (o_nil (b := false) rfl (pe hs_7 rfl rfl) rfl rfl ⟨52, fun _ => by kernel_rfl⟩) ?_
 refine q_v 217 (.bool (false)) (o_pickF rfl (pe hs_7 rfl rfl) (pe hs_7 rfl rfl)) ?_
 refine q_mv (pe hs_7 rfl rfl) ?_
 refine op_valG (e := 218) (d := 219) (v := .pointer (some ⟨gc_2, 0, none⟩)) rfl rfl (by kernel_rfl) (pe hs_7 rfl rfl) (o_move rfl (pe hs_7 rfl rfl)) ?_
 refine op_valG (e := 218) (d := 220) (v := .bool (false)) rfl rfl (by kernel_rfl) (pe hs_7 rfl rfl) (o_nil (b := false) rfl (pe hs_7 rfl rfl) rfl rfl ⟨52, fun _ => by kernel_rfl⟩) ?_
 refine q_v 221 (.bool (false)) (o_pickF rfl (pe hs_7 rfl rfl) (pe hs_7 rfl rfl)) ?_
 refine q_mv (pe hs_7 rfl rfl) ?_
 refine op_valG (e := 222) (d := 223) (v := .pointer (some ⟨gc_3, 0, none⟩)) rfl rfl (by kernel_rfl) (pe hs_7 rfl rfl) (o_move rfl (pe hs_7 rfl rfl)) ?_
 refine op_valG (e := 222) (d := 224) (v := .bool (false)) rfl rfl (by kernel_rfl) (pe hs_7 rfl rfl) (o_nil (b := false) rfl (pe hs_7 rfl rfl) rfl rfl ⟨52, fun _ => by kernel_rfl⟩) ?_
 refine q_v 225 (.bool (false)) (o_pickF rfl (pe hs_7 rfl rfl) (pe hs_7 rfl rfl)) ?_
 refine q_mv (pe hs_7 rfl rfl) ?_
 refine op_valG (e := 226) (d := 227) (v := .pointer (some ⟨gc_4, 0, none⟩)) rfl rfl (by kernel_rfl) (pe hs_7 rfl rfl) (o_move rfl (pe hs_7 rfl rfl)) ?_
 refine op_valG (e := 226) (d := 228) (v := .bool (false)) rfl rfl (by kernel_rfl) (pe hs_7 rfl rfl) (o_nil (b := false) rfl (pe hs_7 rfl rfl) rfl rfl ⟨52, fun _ => by kernel_rfl⟩) ?_
 refine q_v 229 (.bool (false)) (o_pickF rfl (pe hs_7 rfl rfl) (pe hs_7 rfl rfl)) ?_
 refine x_nil (hK_19 _ _ ?_)
 refine w2_condF (pe hs_7 rfl rfl) ?_
 refine w2_skip ?_
 refine hK_18 _ _ ?_
 refine w2_sr (fun K_20 hK_20 => ?_)
 refine q_mv (pe hs_7 rfl rfl) ?_
 refine q_mv ((pm rfl).trans ta_3_3) ?_
 refine q_ca (vs := #[.pointer (some ⟨gc_1, 0, none⟩), .slice none (0) (0), .slice A8 (n8) (c8)]) Try.func16 (args3 (pe hs_7 rfl rfl) rfl (pe hs_7 rfl rfl)) (CSealM_any (num := 0) _ hC_1 (Bs.nil _) (h8.below HB_11) (by simp only [List.length_nil]) (by simp only [l8]) (by omega) (by omega) (by omega)) (fun e_9 w_13 hR_10 => ?_)
 obtain ⟨A_31, c_31, rfl, ho_15, hC_5, hX_5⟩ := hR_10
 have hl_3 : (sealL (chT (hmacL S2.ck []) 1) (nonceL 0) ([]) xx).length = n8 + 16 := by rw [sealL_length]; have h9 : (xx : List Nat).length = n8 := (by simp only [l8]); omega
 have hs_8 : Sep (blkA A_31) N_1 := (Sep.new hC_1.lt ho_15.ge').symm
 have hX_6 : BelowX N_1 _ _ := hX_5.mono (fun j _ hj => hj ▸ hC_1.mem)
 replace hH_19 := hH_19.keepM hX_6 (sp_54)
 replace hH_20 := hH_20.keepM hX_6 (sp_58)
 replace hO_17 := hO_17.keepM hX_6 (sp_62)
 replace hO_18 := hO_18.keepM hX_6 (sp_64)
 replace hO_19 := hO_19.keepM hX_6 (sp_66)
 replace hC_2 := hC_2.keepM hX_6 (sp_45.symm)
 replace hC_3 := hC_3.keepM hX_6 (sp_91.symm)
 replace hC_4 := hC_4.keepM hX_6 (sp_92.symm)
 replace ho_15 := ho_15.mono HB_11.size
 have HB_12 := hX_6.below HB_11 HB_11.size gg_7
 refine ⟨_, rfl, ?_⟩
 refine q_mv (pe hs_7 rfl rfl) ?_
 refine q_ex (v := .slice A_31 (n8 + 16) (c_31)) (pe hs_7 rfl rfl) rfl ?_
 refine q_ex (v := .int .i64 ((0 : Nat) : Int)) (pe hs_7 rfl rfl) rfl ?_
 refine q_at (pe hs_7 rfl rfl) ?_
 refine q_at (v := .int .i64 ((0 : Nat) : Int)) (pe hs_7 rfl rfl) ?_
 refine x_nil (hK_20 _ _ ?_)
 refine w2_sr (fun K_21 hK_21 => ?_)
 refine q_mv (pe hs_7 rfl rfl) ?_
 refine q_mv (pe hs_7 rfl rfl) ?_
 refine q_ca (vs := #[.pointer (some ⟨gc_4, 0, none⟩), .slice none (0) (0), .slice A_31 (n8 + 16) (c_31)]) Try.func24 (args3 (pe hs_7 rfl rfl) rfl (pe hs_7 rfl rfl)) (COpenM_any (num := 0) (r := 0) _ hC_4 (Bs.nil _) (ho_15).bs (by simp only [List.length_nil]) hl_3 (by omega) (by omega) (by omega) (openL_sealL _ _ _ _)) (fun e_10 w_14 hR_11 => ?_)
 obtain ⟨A_32, c_32, rfl, ho_16, hC_6, hX_7⟩ := hR_11
 rw [if_pos (by decide)] at hC_6
 have hs_9 : Sep (blkA A_32) N_4 := (Sep.new hC_4.lt ho_16.ge').symm
 have hX_8 : BelowX N_4 _ _ := hX_7.mono (fun j _ hj => hj ▸ hC_4.mem)
 have sp_146 : Sep (blkA A_32) N_2 := (Sep.new hC_2.lt ho_16.ge').symm
 have sp_148 : Sep (blkA A_32) N_3 := (Sep.new hC_3.lt ho_16.ge').symm
 replace hH_19 := hH_19.keepM hX_8 (sp_78)
 replace hH_20 := hH_20.keepM hX_8 (sp_82)
 replace hO_17 := hO_17.keepM hX_8 (sp_86)
 replace hO_18 := hO_18.keepM hX_8 (sp_88)
 replace hO_19 := hO_19.keepM hX_8 (sp_90)
 replace hC_2 := hC_2.keepM hX_8 (sp_94)
 replace hC_3 := hC_3.keepM hX_8 (sp_68)
 replace ho_16 := ho_16.mono HB_12.size
 have HB_13 := hX_8.below HB_12 HB_12.size gg_10
 refine ⟨_, rfl, ?_⟩
 refine q_mv (pe hs_7 rfl rfl) ?_
 refine q_ex (v := .slice A_32 ((xx).length) (c_32)) (pe hs_7 rfl rfl) rfl ?_
 refine q_ex (v := .int .i64 ((0 : Nat) : Int)) (pe hs_7 rfl rfl) rfl ?_
 refine q_at (pe hs_7 rfl rfl) ?_
 refine q_at (v := .int .i64 ((0 : Nat) : Int)) (pe hs_7 rfl rfl) ?_
 refine x_nil (hK_21 _ _ ?_)
 refine w2_sr (fun K_22 hK_22 => ?_)
 refine q_mv (pe hs_7 rfl rfl) ?_
 refine q_mv ((pm rfl).trans ta_3_4) ?_
 refine q_ca (vs := #[.pointer (some ⟨gc_3, 0, none⟩), .slice none (0) (0), .slice A9 (n9) (c9)]) Try.func16 (args3 (pe hs_7 rfl rfl) rfl (pe hs_7 rfl rfl)) (CSealM_any (num := 0) _ hC_3 (Bs.nil _) (h9.below HB_13) (by simp only [List.length_nil]) (by simp only [l9]) (by omega) (by omega) (by omega)) (fun e_11 w_15 hR_12 => ?_)
 obtain ⟨A_33, c_33, rfl, ho_17, hC_7, hX_9⟩ := hR_12
 have hl_4 : (sealL (chT (hmacL S2.ck []) 2) (nonceL 0) ([]) xy).length = n9 + 16 := by rw [sealL_length]; have h9 : (xy : List Nat).length = n9 := (by simp only [l9]); omega
 have hs_10 : Sep (blkA A_33) N_3 := (Sep.new hC_3.lt ho_17.ge').symm
 have hX_10 : BelowX N_3 _ _ := hX_9.mono (fun j _ hj => hj ▸ hC_3.mem)
 replace hH_19 := hH_19.keepM hX_10 (sp_77)
 replace hH_20 := hH_20.keepM hX_10 (sp_81)
 replace hO_17 := hO_17.keepM hX_10 (sp_85)
 replace hO_18 := hO_18.keepM hX_10 (sp_87)
 replace hO_19 := hO_19.keepM hX_10 (sp_89)
 replace hC_2 := hC_2.keepM hX_10 (sp_93)
 replace ho_16 := ho_16.keepM hX_10 (sp_148)
 replace ho_17 := ho_17.mono HB_13.size
 have HB_14 := hX_10.below HB_13 HB_13.size gg_9
 refine ⟨_, rfl, ?_⟩
 refine q_mv (pe hs_7 rfl rfl) ?_
 refine q_ex (v := .slice A_33 (n9 + 16) (c_33)) (pe hs_7 rfl rfl) rfl ?_
 refine q_ex (v := .int .i64 ((0 : Nat) : Int)) (pe hs_7 rfl rfl) rfl ?_
 refine q_at (pe hs_7 rfl rfl) ?_
 refine q_at (v := .int .i64 ((0 : Nat) : Int)) (pe hs_7 rfl rfl) ?_
 refine x_nil (hK_22 _ _ ?_)
 refine w2_sr (fun K_23 hK_23 => ?_)
 refine q_mv (pe hs_7 rfl rfl) ?_
 refine q_mv (pe hs_7 rfl rfl) ?_
 refine q_ca (vs := #[.pointer (some ⟨gc_2, 0, none⟩), .slice none (0) (0), .slice A_33 (n9 + 16) (c_33)]) Try.func24 (args3 (pe hs_7 rfl rfl) rfl (pe hs_7 rfl rfl)) (COpenM_any (num := 0) (r := 0) _ hC_2 (Bs.nil _) (ho_17).bs (by simp only [List.length_nil]) hl_4 (by omega) (by omega) (by omega) (openL_sealL _ _ _ _)) (fun e_12 w_16 hR_13 => ?_)
 obtain ⟨A_34, c_34, rfl, ho_18, hC_8, hX_11⟩ := hR_13
 rw [if_pos (by decide)] at hC_8
 have hs_11 : Sep (blkA A_34) N_2 := (Sep.new hC_2.lt ho_18.ge').symm
 have hX_12 : BelowX N_2 _ _ := hX_11.mono (fun j _ hj => hj ▸ hC_2.mem)
 replace hH_19 := hH_19.keepM hX_12 (sp_55)
 replace hH_20 := hH_20.keepM hX_12 (sp_59)
 replace hO_17 := hO_17.keepM hX_12 (sp_63)
 replace hO_18 := hO_18.keepM hX_12 (sp_65)
 replace hO_19 := hO_19.keepM hX_12 (sp_67)
 replace ho_16 := ho_16.keepM hX_12 (sp_146)
 replace ho_18 := ho_18.mono HB_14.size
 have HB_15 := hX_12.below HB_14 HB_14.size gg_8
 refine ⟨_, rfl, ?_⟩
 refine q_mv (pe hs_7 rfl rfl) ?_
 refine q_ex (v := .slice A_34 ((xy).length) (c_34)) (pe hs_7 rfl rfl) rfl ?_
 refine q_ex (v := .int .i64 ((0 : Nat) : Int)) (pe hs_7 rfl rfl) rfl ?_
 refine q_at (pe hs_7 rfl rfl) ?_
 refine q_at (v := .int .i64 ((0 : Nat) : Int)) (pe hs_7 rfl rfl) ?_
 refine x_nil (hK_23 _ _ ?_)
 refine w2_sr (fun K_24 hK_24 => ?_)
 refine q_mv (v := .int .i64 ((0 : Nat) : Int)) (pe hs_7 rfl rfl) ?_
 refine q_v 255 (.bool (true)) (o_eq (o_eql (m := 0) (n := 0) rfl (pe hs_7 rfl rfl) rfl) rfl) ?_
 refine q_mv (pe hs_7 rfl rfl) ?_
 refine op_valG (e := 256) (d := 257) (v := .int .i64 ((0 : Nat) : Int)) rfl rfl (by kernel_rfl) (pe hs_7 rfl rfl) (o_move rfl (pe hs_7 rfl rfl)) ?_
 refine op_valG (e := 256) (d := 258) (v := .bool (true)) rfl rfl (by kernel_rfl) (pe hs_7 rfl rfl) (o_eq (o_eql (m := 0) (n := 0) rfl (pe hs_7 rfl rfl) rfl) rfl) ?_
 refine q_v 259 (.bool (true)) (o_pickT rfl (pe hs_7 rfl rfl) (pe hs_7 rfl rfl)) ?_
 refine q_mv (pe hs_7 rfl rfl) ?_
 refine op_valG (e := 260) (d := 261) (v := .slice A_32 ((xx).length) (c_32)) rfl rfl (by kernel_rfl) (pe hs_7 rfl rfl) (o_move rfl (pe hs_7 rfl rfl)) ?_
 refine op_valG (e := 260) (d := 262) (v := .string (strB xx)) rfl rfl (by kernel_rfl) (pe hs_7 rfl rfl) (o_str rfl (pe hs_7 rfl rfl) (ho_16).bs rfl) ?_
 refine op_valG (e := 260) (d := 263) (v := .slice A8 (n8) (c8)) rfl rfl (by kernel_rfl) (pe hs_7 rfl rfl) (o_move rfl ((pm rfl).trans ta_3_3)) ?_
 refine op_valG (e := 260) (d := 264) (v := .string (strB xx)) rfl rfl (by kernel_rfl) (pe hs_7 rfl rfl) (o_str rfl (pe hs_7 rfl rfl) (h8.below HB_15) (by simp only [l8])) ?_
 refine op_valG (e := 260) (d := 265) (v := .bool (true)) rfl rfl (by kernel_rfl) (pe hs_7 rfl rfl) (o_eqS rfl (pe hs_7 rfl rfl) (pe hs_7 rfl rfl) rfl) ?_
 refine q_v 266 (.bool (true)) (o_pickT rfl (pe hs_7 rfl rfl) (pe hs_7 rfl rfl)) ?_
 refine q_mv (pe hs_7 rfl rfl) ?_
 refine op_valG (e := 267) (d := 268) (v := .slice A_34 ((xy).length) (c_34)) rfl rfl (by kernel_rfl) (pe hs_7 rfl rfl) (o_move rfl (pe hs_7 rfl rfl)) ?_
 refine op_valG (e := 267) (d := 269) (v := .string (strB xy)) rfl rfl (by kernel_rfl) (pe hs_7 rfl rfl) (o_str rfl (pe hs_7 rfl rfl) (ho_18).bs rfl) ?_
 refine op_valG (e := 267) (d := 270) (v := .slice A9 (n9) (c9)) rfl rfl (by kernel_rfl) (pe hs_7 rfl rfl) (o_move rfl ((pm rfl).trans ta_3_4)) ?_
 refine op_valG (e := 267) (d := 271) (v := .string (strB xy)) rfl rfl (by kernel_rfl) (pe hs_7 rfl rfl) (o_str rfl (pe hs_7 rfl rfl) (h9.below HB_15) (by simp only [l9])) ?_
 refine op_valG (e := 267) (d := 272) (v := .bool (true)) rfl rfl (by kernel_rfl) (pe hs_7 rfl rfl) (o_eqS rfl (pe hs_7 rfl rfl) (pe hs_7 rfl rfl) rfl) ?_
 refine q_v 273 (.bool (true)) (o_pickT rfl (pe hs_7 rfl rfl) (pe hs_7 rfl rfl)) ?_
 refine q_mv (pe hs_7 rfl rfl) ?_
 refine op_callG (e := 274) (vs := #[]) rfl rfl (by kernel_rfl) (pe hs_7 rfl rfl) (exec_call Try.func10 (by kernel_rfl) (by kernel_rfl) _ rfl _ _ (args0)) (awake10_any _) (fun e_13 w_17 hR_14 => ?_)
 obtain ⟨rfl, hb_18⟩ := hR_14
 replace hH_19 := hH_19.nx hb_18
 replace hH_20 := hH_20.nx hb_18
 replace hO_17 := hO_17.nx hb_18
 replace hO_18 := hO_18.nx hb_18
 replace hO_19 := hO_19.nx hb_18
 have HB_16 := below_from HB_15 hb_18
 refine ⟨_, rfl, ?_⟩
 refine q_v 276 (.bool (true)) (o_pickT rfl (pe hs_7 rfl rfl) (pe hs_7 rfl rfl)) ?_
 refine q_at (pe hs_7 rfl rfl) ?_
 refine x_nil (hK_24 _ _ ?_)
 refine w2_ret ?_
 refine ret1 rfl hd_3 (pe hs_7 rfl rfl) ?_
 exact ⟨rfl, HB_16⟩
end Go.Proofs.Ytbgonhmaeekkaaa
