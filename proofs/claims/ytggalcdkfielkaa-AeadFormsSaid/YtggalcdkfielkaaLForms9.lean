/-
 WALKS: sapperlaw9.AeadForms.
-/
import Derived.Test.YtggalcdkfielkaaChg9
namespace Go.Proofs.Ytggalcdkfielkaa
open Go.RowKit
set_option linter.unusedVariables false
set_option linter.unusedSimpArgs false
set_option maxRecDepth 100000
attribute [local irreducible] wpList wpListIn putsR

theorem sealR_le (ks ns ad bs : List Nat) : (sealR ks ns ad bs).1.length ≤ bs.length + 16 := by
 unfold sealR
 split
 ·rw [sealL_length]; exact Nat.le_refl _
 ·exact Nat.zero_le _
def pick2 {α : Type} (k : Nat) (x y : α) : α := if k = 0 then x else y
theorem pick2_slice (k : Nat) (A B : Option Addr) (n m c d : Nat) : (if k = 0 then Value.slice A n c else .slice B m d) = .slice (pick2 k A B) (pick2 k n m) (pick2 k c d) := by
 unfold pick2; by_cases h : k = 0 <;> simp [h]
theorem Bs.pick {w : World} {A B : Option Addr} {c d : Nat} {xs ys : List Nat} (k : Nat) (h1 : Bs w A c xs) (h2 : Bs w B d ys) : Bs w (pick2 k A B) (pick2 k c d) (pick2 k xs ys) := by
 unfold pick2; by_cases h : k = 0
 ·rw [if_pos h, if_pos h, if_pos h]; exact h1
 ·rw [if_neg h, if_neg h, if_neg h]; exact h2
theorem pick_len {xs ys : List Nat} {n m : Nat} (k : Nat) (h1 : xs.length = n) (h2 : ys.length = m) : (pick2 k xs ys).length = pick2 k n m := by
 unfold pick2; by_cases h : k = 0 <;> simp [h, h1, h2]
theorem pick_le {n m b : Nat} (k : Nat) (h1 : n ≤ b) (h2 : m ≤ b) : pick2 k n m ≤ b := by
 unfold pick2; by_cases h : k = 0 <;> simp [h, h1, h2]
section
variable {ev : Operand → Value} {o : Oper} {T : TypeId} {x y : Operand} {w : World}
/-- A cell of an array of two slices. -/
theorem o_idx2 {A B : Option Addr} {n m c d k : Nat} {e : TypeId} (ho : o.op = .index T x y) (hx : ev x = .agg #[.slice A n c, .slice B m d]) (hy : ev y = .int .i64 (k : Int)) (hk : k < 2) (hT : ∀ w : World, (underlying T).run Try.prog w = .ok (.array 2 e) w) (he : IsOne e) :
  (execOp ev o).run Try.prog w = .ok (.value (.slice (pick2 k A B) (pick2 k n m) (pick2 k c d))) w := by
 have h1 : (k : Int) < (2 : Int) := by omega
 have h2 := one_runs he
 rcases (by omega : k = 0 ∨ k = 1) with rfl | rfl <;>
 simp [execOp, ho, hx, hy, Instr.index, asIntOf, hT, part, h2, pick2, Sem.run_bind, Sem.run_pure]
end
theorem AForms0 {A0 A1 A2 A3 : Option Addr} {c0 c1 c2 c3 m k p q : Nat} {ks ns zs bs : List Nat} (num : Nat) (hnn : num < 18446744073709551616) (z : Int) (x : Nat) (hx : x < 256) (fu : Bool) (w : World) (h0 : Bs w A0 c0 ks) (h1 : Bs w A1 c1 ns) (h2 : Bs w A2 c2 zs) (h3 : Bs w A3 c3 bs) (hm : ks.length = m) (hk : ns.length = k) (hp : zs.length = p) (hq : bs.length = q) (g0 : 40 < m) :
  Calls Try.prog 3 #[.slice A0 (m) (c0), .slice A1 (k) (c1), .slice A2 (p) (c2), .slice A3 (q) (c3), .int .u64 ((num : Nat) : Int), .bool (fu), .int .i64 (z), .int .u8 ((x : Nat) : Int)] w fun e w' => e = .returned (.bool true) ∧ Below w.heap.size w w' := by
 refine x_enter 123 Try.func3 rfl rfl (fun a hs hd ha0 => ?_)
 have t0 : a.eval (.tmp 0) = .slice A0 (m) (c0) := ha0 0 _ rfl
 clear ha0
 refine w2_sr (fun K_1 hK_1 => ?_)
 refine q_as (.bool (false)) rfl ?_
 refine x_nil (hK_1 _ _ ?_)
 refine w2_seq (fun K_2 hK_2 => ?_)
 refine w2_sr (fun K_3 hK_3 => ?_)
 refine q_mv ((pm rfl).trans t0) ?_
 refine q_v 28 (.int .i64 ((m : Nat) : Int)) (o_len rfl (pe hs rfl rfl)) ?_
 refine q_v 29 (.bool (true)) (o_eq (o_gtr (m := m) (n := 40) rfl (pe hs rfl rfl) rfl) (by rw [decide_eq_true g0])) ?_
 refine q_mv (pe hs rfl rfl) ?_
 refine op_left (e := 30) rfl rfl (by kernel_rfl) (pe hs rfl rfl) rfl ?_
 refine op_left (e := 30) rfl rfl (by kernel_rfl) (pe hs rfl rfl) rfl ?_
 refine op_left (e := 30) rfl rfl (by kernel_rfl) (pe hs rfl rfl) rfl ?_
 refine q_v 34 (.bool (true)) (o_pickT rfl (pe hs rfl rfl) rfl) ?_
 refine q_mv (pe hs rfl rfl) ?_
 refine op_left (e := 35) rfl rfl (by kernel_rfl) (pe hs rfl rfl) rfl ?_
 refine op_left (e := 35) rfl rfl (by kernel_rfl) (pe hs rfl rfl) rfl ?_
 refine op_left (e := 35) rfl rfl (by kernel_rfl) (pe hs rfl rfl) rfl ?_
 refine q_v 39 (.bool (true)) (o_pickT rfl (pe hs rfl rfl) rfl) ?_
 refine q_mv (pe hs rfl rfl) ?_
 refine op_left (e := 40) rfl rfl (by kernel_rfl) (pe hs rfl rfl) rfl ?_
 refine op_left (e := 40) rfl rfl (by kernel_rfl) (pe hs rfl rfl) rfl ?_
 refine op_left (e := 40) rfl rfl (by kernel_rfl) (pe hs rfl rfl) rfl ?_
 refine q_v 44 (.bool (true)) (o_pickT rfl (pe hs rfl rfl) rfl) ?_
 refine x_nil (hK_3 _ _ ?_)
 refine w2_condT (pe hs rfl rfl) ?_
 refine w2_sr (fun K_4 hK_4 => ?_)
 refine q_ca (vs := #[]) Try.func5 (args0) (awake_any _) (fun e_1 w_1 hR_1 => ?_)
 obtain ⟨rfl, hb_2⟩ := hR_1
 refine ⟨_, rfl, ?_⟩
 refine q_at (pe hs rfl rfl) ?_
 refine x_nil (hK_4 _ _ ?_)
 refine w2_ret ?_
 refine thn_ret ?_
 refine ret1 rfl hd (pe hs rfl rfl) ?_
 exact ⟨rfl, hb_2⟩
theorem AForms1 {A0 A1 A2 A3 : Option Addr} {c0 c1 c2 c3 m k p q : Nat} {ks ns zs bs : List Nat} (num : Nat) (hnn : num < 18446744073709551616) (z : Int) (x : Nat) (hx : x < 256) (fu : Bool) (w : World) (h0 : Bs w A0 c0 ks) (h1 : Bs w A1 c1 ns) (h2 : Bs w A2 c2 zs) (h3 : Bs w A3 c3 bs) (hm : ks.length = m) (hk : ns.length = k) (hp : zs.length = p) (hq : bs.length = q) (g0 : m ≤ 40) (g1 : 20 < k) :
  Calls Try.prog 3 #[.slice A0 (m) (c0), .slice A1 (k) (c1), .slice A2 (p) (c2), .slice A3 (q) (c3), .int .u64 ((num : Nat) : Int), .bool (fu), .int .i64 (z), .int .u8 ((x : Nat) : Int)] w fun e w' => e = .returned (.bool true) ∧ Below w.heap.size w w' := by
 refine x_enter 123 Try.func3 rfl rfl (fun a hs hd ha0 => ?_)
 have t0 : a.eval (.tmp 0) = .slice A0 (m) (c0) := ha0 0 _ rfl
 have t1 : a.eval (.tmp 1) = .slice A1 (k) (c1) := ha0 1 _ rfl
 clear ha0
 refine w2_sr (fun K_1 hK_1 => ?_)
 refine q_as (.bool (false)) rfl ?_
 refine x_nil (hK_1 _ _ ?_)
 refine w2_seq (fun K_2 hK_2 => ?_)
 refine w2_sr (fun K_3 hK_3 => ?_)
 refine q_mv ((pm rfl).trans t0) ?_
 refine q_v 28 (.int .i64 ((m : Nat) : Int)) (o_len rfl (pe hs rfl rfl)) ?_
 refine q_v 29 (.bool (false)) (o_eq (o_gtr (m := m) (n := 40) rfl (pe hs rfl rfl) rfl) (by rw [decide_eq_false (by omega)])) ?_
 refine q_mv (pe hs rfl rfl) ?_
 refine op_valG (e := 30) (d := 31) (v := .slice A1 (k) (c1)) rfl rfl (by kernel_rfl) (pe hs rfl rfl) (o_move rfl ((pm rfl).trans t1)) ?_
 refine op_valG (e := 30) (d := 32) (v := .int .i64 ((k : Nat) : Int)) rfl rfl (by kernel_rfl) (pe hs rfl rfl) (o_len rfl (pe hs rfl rfl)) ?_
 refine op_valG (e := 30) (d := 33) (v := .bool (true)) rfl rfl (by kernel_rfl) (pe hs rfl rfl) (o_eq (o_gtr (m := k) (n := 20) rfl (pe hs rfl rfl) rfl) (by rw [decide_eq_true g1])) ?_
 refine q_v 34 (.bool (true)) (o_pickF rfl (pe hs rfl rfl) (pe hs rfl rfl)) ?_
 refine q_mv (pe hs rfl rfl) ?_
 refine op_left (e := 35) rfl rfl (by kernel_rfl) (pe hs rfl rfl) rfl ?_
 refine op_left (e := 35) rfl rfl (by kernel_rfl) (pe hs rfl rfl) rfl ?_
 refine op_left (e := 35) rfl rfl (by kernel_rfl) (pe hs rfl rfl) rfl ?_
 refine q_v 39 (.bool (true)) (o_pickT rfl (pe hs rfl rfl) rfl) ?_
 refine q_mv (pe hs rfl rfl) ?_
 refine op_left (e := 40) rfl rfl (by kernel_rfl) (pe hs rfl rfl) rfl ?_
 refine op_left (e := 40) rfl rfl (by kernel_rfl) (pe hs rfl rfl) rfl ?_
 refine op_left (e := 40) rfl rfl (by kernel_rfl) (pe hs rfl rfl) rfl ?_
 refine q_v 44 (.bool (true)) (o_pickT rfl (pe hs rfl rfl) rfl) ?_
 refine x_nil (hK_3 _ _ ?_)
 refine w2_condT (pe hs rfl rfl) ?_
 refine w2_sr (fun K_4 hK_4 => ?_)
 refine q_ca (vs := #[]) Try.func5 (args0) (awake_any _) (fun e_1 w_1 hR_1 => ?_)
 obtain ⟨rfl, hb_2⟩ := hR_1
 refine ⟨_, rfl, ?_⟩
 refine q_at (pe hs rfl rfl) ?_
 refine x_nil (hK_4 _ _ ?_)
 refine w2_ret ?_
 refine thn_ret ?_
 refine ret1 rfl hd (pe hs rfl rfl) ?_
 exact ⟨rfl, hb_2⟩
theorem AForms2 {A0 A1 A2 A3 : Option Addr} {c0 c1 c2 c3 m k p q : Nat} {ks ns zs bs : List Nat} (num : Nat) (hnn : num < 18446744073709551616) (z : Int) (x : Nat) (hx : x < 256) (fu : Bool) (w : World) (h0 : Bs w A0 c0 ks) (h1 : Bs w A1 c1 ns) (h2 : Bs w A2 c2 zs) (h3 : Bs w A3 c3 bs) (hm : ks.length = m) (hk : ns.length = k) (hp : zs.length = p) (hq : bs.length = q) (g0 : m ≤ 40) (g1 : k ≤ 20) (g2 : 200 < p) :
  Calls Try.prog 3 #[.slice A0 (m) (c0), .slice A1 (k) (c1), .slice A2 (p) (c2), .slice A3 (q) (c3), .int .u64 ((num : Nat) : Int), .bool (fu), .int .i64 (z), .int .u8 ((x : Nat) : Int)] w fun e w' => e = .returned (.bool true) ∧ Below w.heap.size w w' := by
 refine x_enter 123 Try.func3 rfl rfl (fun a hs hd ha0 => ?_)
 have t0 : a.eval (.tmp 0) = .slice A0 (m) (c0) := ha0 0 _ rfl
 have t1 : a.eval (.tmp 1) = .slice A1 (k) (c1) := ha0 1 _ rfl
 have t2 : a.eval (.tmp 2) = .slice A2 (p) (c2) := ha0 2 _ rfl
 clear ha0
 refine w2_sr (fun K_1 hK_1 => ?_)
 refine q_as (.bool (false)) rfl ?_
 refine x_nil (hK_1 _ _ ?_)
 refine w2_seq (fun K_2 hK_2 => ?_)
 refine w2_sr (fun K_3 hK_3 => ?_)
 refine q_mv ((pm rfl).trans t0) ?_
 refine q_v 28 (.int .i64 ((m : Nat) : Int)) (o_len rfl (pe hs rfl rfl)) ?_
 refine q_v 29 (.bool (false)) (o_eq (o_gtr (m := m) (n := 40) rfl (pe hs rfl rfl) rfl) (by rw [decide_eq_false (by omega)])) ?_
 refine q_mv (pe hs rfl rfl) ?_
 refine op_valG (e := 30) (d := 31) (v := .slice A1 (k) (c1)) rfl rfl (by kernel_rfl) (pe hs rfl rfl) (o_move rfl ((pm rfl).trans t1)) ?_
 refine op_valG (e := 30) (d := 32) (v := .int .i64 ((k : Nat) : Int)) rfl rfl (by kernel_rfl) (pe hs rfl rfl) (o_len rfl (pe hs rfl rfl)) ?_
 refine op_valG (e := 30) (d := 33) (v := .bool (false)) rfl rfl (by kernel_rfl) (pe hs rfl rfl) (o_eq (o_gtr (m := k) (n := 20) rfl (pe hs rfl rfl) rfl) (by rw [decide_eq_false (by omega)])) ?_
 refine q_v 34 (.bool (false)) (o_pickF rfl (pe hs rfl rfl) (pe hs rfl rfl)) ?_
 refine q_mv (pe hs rfl rfl) ?_
 refine op_valG (e := 35) (d := 36) (v := .slice A2 (p) (c2)) rfl rfl (by kernel_rfl) (pe hs rfl rfl) (o_move rfl ((pm rfl).trans t2)) ?_
 refine op_valG (e := 35) (d := 37) (v := .int .i64 ((p : Nat) : Int)) rfl rfl (by kernel_rfl) (pe hs rfl rfl) (o_len rfl (pe hs rfl rfl)) ?_
 refine op_valG (e := 35) (d := 38) (v := .bool (true)) rfl rfl (by kernel_rfl) (pe hs rfl rfl) (o_eq (o_gtr (m := p) (n := 200) rfl (pe hs rfl rfl) rfl) (by rw [decide_eq_true g2])) ?_
 refine q_v 39 (.bool (true)) (o_pickF rfl (pe hs rfl rfl) (pe hs rfl rfl)) ?_
 refine q_mv (pe hs rfl rfl) ?_
 refine op_left (e := 40) rfl rfl (by kernel_rfl) (pe hs rfl rfl) rfl ?_
 refine op_left (e := 40) rfl rfl (by kernel_rfl) (pe hs rfl rfl) rfl ?_
 refine op_left (e := 40) rfl rfl (by kernel_rfl) (pe hs rfl rfl) rfl ?_
 refine q_v 44 (.bool (true)) (o_pickT rfl (pe hs rfl rfl) rfl) ?_
 refine x_nil (hK_3 _ _ ?_)
 refine w2_condT (pe hs rfl rfl) ?_
 refine w2_sr (fun K_4 hK_4 => ?_)
 refine q_ca (vs := #[]) Try.func5 (args0) (awake_any _) (fun e_1 w_1 hR_1 => ?_)
 obtain ⟨rfl, hb_2⟩ := hR_1
 refine ⟨_, rfl, ?_⟩
 refine q_at (pe hs rfl rfl) ?_
 refine x_nil (hK_4 _ _ ?_)
 refine w2_ret ?_
 refine thn_ret ?_
 refine ret1 rfl hd (pe hs rfl rfl) ?_
 exact ⟨rfl, hb_2⟩
theorem AForms3 {A0 A1 A2 A3 : Option Addr} {c0 c1 c2 c3 m k p q : Nat} {ks ns zs bs : List Nat} (num : Nat) (hnn : num < 18446744073709551616) (z : Int) (x : Nat) (hx : x < 256) (fu : Bool) (w : World) (h0 : Bs w A0 c0 ks) (h1 : Bs w A1 c1 ns) (h2 : Bs w A2 c2 zs) (h3 : Bs w A3 c3 bs) (hm : ks.length = m) (hk : ns.length = k) (hp : zs.length = p) (hq : bs.length = q) (g0 : m ≤ 40) (g1 : k ≤ 20) (g2 : p ≤ 200) (g3 : 400 < q) :
  Calls Try.prog 3 #[.slice A0 (m) (c0), .slice A1 (k) (c1), .slice A2 (p) (c2), .slice A3 (q) (c3), .int .u64 ((num : Nat) : Int), .bool (fu), .int .i64 (z), .int .u8 ((x : Nat) : Int)] w fun e w' => e = .returned (.bool true) ∧ Below w.heap.size w w' := by
 refine x_enter 123 Try.func3 rfl rfl (fun a hs hd ha0 => ?_)
 have t0 : a.eval (.tmp 0) = .slice A0 (m) (c0) := ha0 0 _ rfl
 have t1 : a.eval (.tmp 1) = .slice A1 (k) (c1) := ha0 1 _ rfl
 have t2 : a.eval (.tmp 2) = .slice A2 (p) (c2) := ha0 2 _ rfl
 have t3 : a.eval (.tmp 3) = .slice A3 (q) (c3) := ha0 3 _ rfl
 clear ha0
 refine w2_sr (fun K_1 hK_1 => ?_)
 refine q_as (.bool (false)) rfl ?_
 refine x_nil (hK_1 _ _ ?_)
 refine w2_seq (fun K_2 hK_2 => ?_)
 refine w2_sr (fun K_3 hK_3 => ?_)
 refine q_mv ((pm rfl).trans t0) ?_
 refine q_v 28 (.int .i64 ((m : Nat) : Int)) (o_len rfl (pe hs rfl rfl)) ?_
 refine q_v 29 (.bool (false)) (o_eq (o_gtr (m := m) (n := 40) rfl (pe hs rfl rfl) rfl) (by rw [decide_eq_false (by omega)])) ?_
 refine q_mv (pe hs rfl rfl) ?_
 refine op_valG (e := 30) (d := 31) (v := .slice A1 (k) (c1)) rfl rfl (by kernel_rfl) (pe hs rfl rfl) (o_move rfl ((pm rfl).trans t1)) ?_
 refine op_valG (e := 30) (d := 32) (v := .int .i64 ((k : Nat) : Int)) rfl rfl (by kernel_rfl) (pe hs rfl rfl) (o_len rfl (pe hs rfl rfl)) ?_
 refine op_valG (e := 30) (d := 33) (v := .bool (false)) rfl rfl (by kernel_rfl) (pe hs rfl rfl) (o_eq (o_gtr (m := k) (n := 20) rfl (pe hs rfl rfl) rfl) (by rw [decide_eq_false (by omega)])) ?_
 refine q_v 34 (.bool (false)) (o_pickF rfl (pe hs rfl rfl) (pe hs rfl rfl)) ?_
 refine q_mv (pe hs rfl rfl) ?_
 refine op_valG (e := 35) (d := 36) (v := .slice A2 (p) (c2)) rfl rfl (by kernel_rfl) (pe hs rfl rfl) (o_move rfl ((pm rfl).trans t2)) ?_
 refine op_valG (e := 35) (d := 37) (v := .int .i64 ((p : Nat) : Int)) rfl rfl (by kernel_rfl) (pe hs rfl rfl) (o_len rfl (pe hs rfl rfl)) ?_
 refine op_valG (e := 35) (d := 38) (v := .bool (false)) rfl rfl (by kernel_rfl) (pe hs rfl rfl) (o_eq (o_gtr (m := p) (n := 200) rfl (pe hs rfl rfl) rfl) (by rw [decide_eq_false (by omega)])) ?_
 refine q_v 39 (.bool (false)) (o_pickF rfl (pe hs rfl rfl) (pe hs rfl rfl)) ?_
 refine q_mv (pe hs rfl rfl) ?_
 refine op_valG (e := 40) (d := 41) (v := .slice A3 (q) (c3)) rfl rfl (by kernel_rfl) (pe hs rfl rfl) (o_move rfl ((pm rfl).trans t3)) ?_
 refine op_valG (e := 40) (d := 42) (v := .int .i64 ((q : Nat) : Int)) rfl rfl (by kernel_rfl) (pe hs rfl rfl) (o_len rfl (pe hs rfl rfl)) ?_
 refine op_valG (e := 40) (d := 43) (v := .bool (true)) rfl rfl (by kernel_rfl) (pe hs rfl rfl) (o_eq (o_gtr (m := q) (n := 400) rfl (pe hs rfl rfl) rfl) (by rw [decide_eq_true g3])) ?_
 refine q_v 44 (.bool (true)) (o_pickF rfl (pe hs rfl rfl) (pe hs rfl rfl)) ?_
 refine x_nil (hK_3 _ _ ?_)
 refine w2_condT (pe hs rfl rfl) ?_
 refine w2_sr (fun K_4 hK_4 => ?_)
 refine q_ca (vs := #[]) Try.func5 (args0) (awake_any _) (fun e_1 w_1 hR_1 => ?_)
 obtain ⟨rfl, hb_2⟩ := hR_1
 refine ⟨_, rfl, ?_⟩
 refine q_at (pe hs rfl rfl) ?_
 refine x_nil (hK_4 _ _ ?_)
 refine w2_ret ?_
 refine thn_ret ?_
 refine ret1 rfl hd (pe hs rfl rfl) ?_
 exact ⟨rfl, hb_2⟩
set_option maxHeartbeats 1000000 in
theorem AFormsMtrue {A0 A1 A2 A3 : Option Addr} {c0 c1 c2 c3 m k p q : Nat} {ks ns zs bs : List Nat} (num : Nat) (hnn : num < 18446744073709551616) (z : Int) (x : Nat) (hx : x < 256) (w : World) (h0 : Bs w A0 c0 ks) (h1 : Bs w A1 c1 ns) (h2 : Bs w A2 c2 zs) (h3 : Bs w A3 c3 bs) (hm : ks.length = m) (hk : ns.length = k) (hp : zs.length = p) (hq : bs.length = q) (g0 : m ≤ 40) (g1 : k ≤ 20) (g2 : p ≤ 200) (g3 : q ≤ 400) :
  Calls Try.prog 3 #[.slice A0 (m) (c0), .slice A1 (k) (c1), .slice A2 (p) (c2), .slice A3 (q) (c3), .int .u64 ((num : Nat) : Int), .bool (true), .int .i64 (z), .int .u8 ((x : Nat) : Int)] w fun e w' => e = .returned (.bool true) ∧ Below w.heap.size w w' := by
 refine x_enter 123 Try.func3 rfl rfl (fun a hs hd ha0 => ?_)
 have t0 : a.eval (.tmp 0) = .slice A0 (m) (c0) := ha0 0 _ rfl
 have t1 : a.eval (.tmp 1) = .slice A1 (k) (c1) := ha0 1 _ rfl
 have t2 : a.eval (.tmp 2) = .slice A2 (p) (c2) := ha0 2 _ rfl
 have t3 : a.eval (.tmp 3) = .slice A3 (q) (c3) := ha0 3 _ rfl
 have t4 : a.eval (.tmp 4) = .int .u64 ((num : Nat) : Int) := ha0 4 _ rfl
 have t5 : a.eval (.tmp 5) = .bool (true) := ha0 5 _ rfl
 have t6 : a.eval (.tmp 6) = .int .i64 (z) := ha0 6 _ rfl
 have t7 : a.eval (.tmp 7) = .int .u8 ((x : Nat) : Int) := ha0 7 _ rfl
 clear ha0
 refine w2_sr (fun K_1 hK_1 => ?_)
 refine q_as (.bool (false)) rfl ?_
 refine x_nil (hK_1 _ _ ?_)
 refine w2_seq (fun K_2 hK_2 => ?_)
 refine w2_sr (fun K_3 hK_3 => ?_)
 refine q_mv ((pm rfl).trans t0) ?_
 refine q_v 28 (.int .i64 ((m : Nat) : Int)) (o_len rfl (pe hs rfl rfl)) ?_
 refine q_v 29 (.bool (false)) (o_eq (o_gtr (m := m) (n := 40) rfl (pe hs rfl rfl) rfl) (by rw [decide_eq_false (by omega)])) ?_
 refine q_mv (pe hs rfl rfl) ?_
 refine op_valG (e := 30) (d := 31) (v := .slice A1 (k) (c1)) rfl rfl (by kernel_rfl) (pe hs rfl rfl) (o_move rfl ((pm rfl).trans t1)) ?_
 refine op_valG (e := 30) (d := 32) (v := .int .i64 ((k : Nat) : Int)) rfl rfl (by kernel_rfl) (pe hs rfl rfl) (o_len rfl (pe hs rfl rfl)) ?_
 refine op_valG (e := 30) (d := 33) (v := .bool (false)) rfl rfl (by kernel_rfl) (pe hs rfl rfl) (o_eq (o_gtr (m := k) (n := 20) rfl (pe hs rfl rfl) rfl) (by rw [decide_eq_false (by omega)])) ?_
 refine q_v 34 (.bool (false)) (o_pickF rfl (pe hs rfl rfl) (pe hs rfl rfl)) ?_
 refine q_mv (pe hs rfl rfl) ?_
 refine op_valG (e := 35) (d := 36) (v := .slice A2 (p) (c2)) rfl rfl (by kernel_rfl) (pe hs rfl rfl) (o_move rfl ((pm rfl).trans t2)) ?_
 refine op_valG (e := 35) (d := 37) (v := .int .i64 ((p : Nat) : Int)) rfl rfl (by kernel_rfl) (pe hs rfl rfl) (o_len rfl (pe hs rfl rfl)) ?_
 refine op_valG (e := 35) (d := 38) (v := .bool (false)) rfl rfl (by kernel_rfl) (pe hs rfl rfl) (o_eq (o_gtr (m := p) (n := 200) rfl (pe hs rfl rfl) rfl) (by rw [decide_eq_false (by omega)])) ?_
 refine q_v 39 (.bool (false)) (o_pickF rfl (pe hs rfl rfl) (pe hs rfl rfl)) ?_
 refine q_mv (pe hs rfl rfl) ?_
 refine op_valG (e := 40) (d := 41) (v := .slice A3 (q) (c3)) rfl rfl (by kernel_rfl) (pe hs rfl rfl) (o_move rfl ((pm rfl).trans t3)) ?_
 refine op_valG (e := 40) (d := 42) (v := .int .i64 ((q : Nat) : Int)) rfl rfl (by kernel_rfl) (pe hs rfl rfl) (o_len rfl (pe hs rfl rfl)) ?_
 refine op_valG (e := 40) (d := 43) (v := .bool (false)) rfl rfl (by kernel_rfl) (pe hs rfl rfl) (o_eq (o_gtr (m := q) (n := 400) rfl (pe hs rfl rfl) rfl) (by rw [decide_eq_false (by omega)])) ?_
 refine q_v 44 (.bool (false)) (o_pickF rfl (pe hs rfl rfl) (pe hs rfl rfl)) ?_
 refine x_nil (hK_3 _ _ ?_)
 refine w2_condF (pe hs rfl rfl) ?_
 refine w2_skip ?_
 refine hK_2 _ _ ?_
 refine w2_seq (fun K_4 hK_4 => ?_)
 refine w2_sr (fun K_5 hK_5 => ?_)
 refine q_mv ((pm rfl).trans t5) ?_
 refine x_nil (hK_5 _ _ ?_)
 refine w2_condT (pe hs rfl rfl) ?_
 refine x_region (by kernel_rfl) ?_
 refine q_mv ((pm rfl).trans t0) ?_
 refine q_ca (vs := #[.slice A0 (m) (c0), .int .i64 ((32 : Nat) : Int)]) Try.func6 (args2 (pe hs rfl rfl) rfl) (lbytes32 _ h0 hm) (fun e_1 w_1 hR_1 => ?_)
 obtain ⟨A_1, c_1, rfl, ho_1, hb_1⟩ := hR_1
 refine ⟨_, rfl, ?_⟩
 refine q_mv ((pm rfl).trans t1) ?_
 refine q_ca (vs := #[.slice A1 (k) (c1), .int .i64 ((12 : Nat) : Int)]) Try.func6 (args2 (pe hs rfl rfl) rfl) (lbytes12 _ (h1.below hb_1) hk) (fun e_2 w_2 hR_2 => ?_)
 obtain ⟨A_2, c_2, rfl, ho_2, hb_2⟩ := hR_2
 replace ho_2 := ho_2.mono hb_1.size
 replace ho_1 := ho_1.nx hb_2
 have HB_1 := below_from hb_1 hb_2
 refine ⟨_, rfl, ?_⟩
 refine q_at (pe hs rfl rfl) ?_
 refine q_at (pe hs rfl rfl) ?_
 refine x_nil (hK_4 _ _ ?_)
 refine w2_sr (fun K_6 hK_6 => ?_)
 refine q_mv (pe hs rfl rfl) ?_
 refine q_mv (pe hs rfl rfl) ?_
 refine q_mv ((pm rfl).trans t2) ?_
 refine q_mv ((pm rfl).trans t3) ?_
 refine q_ca (vs := #[.slice A_1 (32) (c_1), .slice A_2 (12) (c_2), .slice A2 (p) (c2), .slice A3 (q) (c3)]) Try.func7 (args4 (pe hs rfl rfl) (pe hs rfl rfl) (pe hs rfl rfl) (pe hs rfl rfl)) (SealR_any _ (ho_1).bs (ho_2).bs (h2.below HB_1) (h3.below HB_1) (by simp only [padTo_length]) (by simp only [padTo_length]) hp hq (by omega) (by omega)) (fun e_3 w_3 hR_3 => ?_)
 obtain ⟨A_3, c_3, rfl, ho_3, hb_3⟩ := hR_3
 replace ho_3 := ho_3.mono HB_1.size
 replace ho_1 := ho_1.nx hb_3
 replace ho_2 := ho_2.nx hb_3
 have HB_2 := below_from HB_1 hb_3
 refine ⟨_, rfl, ?_⟩
 refine q_mv (pe hs rfl rfl) ?_
 refine q_ex (v := .slice A_3 ((sealR (padTo 32 ks) (padTo 12 ns) zs bs).1.length) (c_3)) (pe hs rfl rfl) rfl ?_
 refine q_ex (v := .int .i64 (((sealR (padTo 32 ks) (padTo 12 ns) zs bs).2 : Nat) : Int)) (pe hs rfl rfl) rfl ?_
 refine q_at (pe hs rfl rfl) ?_
 refine q_at (pe hs rfl rfl) ?_
 refine x_nil (hK_6 _ _ ?_)
 refine w2_sr (fun K_7 hK_7 => ?_)
 refine q_mv (pe hs rfl rfl) ?_
 refine q_mv (pe hs rfl rfl) ?_
 refine q_mv ((pm rfl).trans t2) ?_
 refine q_mv ((pm rfl).trans t3) ?_
 refine q_ca (vs := #[.slice A_1 (32) (c_1), .slice A_2 (12) (c_2), .slice A2 (p) (c2), .slice A3 (q) (c3)]) Try.func8 (args4 (pe hs rfl rfl) (pe hs rfl rfl) (pe hs rfl rfl) (pe hs rfl rfl)) (SealWR_any _ (ho_1).bs (ho_2).bs (h2.below HB_2) (h3.below HB_2) (by simp only [padTo_length]) (by simp only [padTo_length]) hp hq (by omega) (by omega)) (fun e_4 w_4 hR_4 => ?_)
 obtain ⟨A_4, c_4, rfl, ho_4, hb_4⟩ := hR_4
 replace ho_4 := ho_4.mono HB_2.size
 replace ho_1 := ho_1.nx hb_4
 replace ho_2 := ho_2.nx hb_4
 replace ho_3 := ho_3.nx hb_4
 have HB_3 := below_from HB_2 hb_4
 refine ⟨_, rfl, ?_⟩
 refine q_mv (pe hs rfl rfl) ?_
 refine q_ex (v := .slice A_4 ((sealR (padTo 32 ks) (padTo 12 ns) zs bs).1.length) (c_4)) (pe hs rfl rfl) rfl ?_
 refine q_ex (v := .int .i64 (((sealR (padTo 32 ks) (padTo 12 ns) zs bs).2 : Nat) : Int)) (pe hs rfl rfl) rfl ?_
 refine q_at (pe hs rfl rfl) ?_
 refine q_at (pe hs rfl rfl) ?_
 refine x_nil (hK_7 _ _ ?_)
 refine w2_seq (fun K_8 hK_8 => ?_)
 refine w2_seq (fun K_9 hK_9 => ?_)
 refine x_drawn 17 [fun _ v => v = .slice A_3 ((sealR (padTo 32 ks) (padTo 12 ns) zs bs).1.length) (c_3), fun _ v => v = .string (strB ((sealR (padTo 32 ks) (padTo 12 ns) zs bs).1)), fun _ v => v = .slice A_4 ((sealR (padTo 32 ks) (padTo 12 ns) zs bs).1.length) (c_4), fun _ v => v = .string (strB ((sealR (padTo 32 ks) (padTo 12 ns) zs bs).1)), fun _ v => v = .bool (false), fun _ v => v = .bool (false), fun _ v => v = .int .i64 (((sealR (padTo 32 ks) (padTo 12 ns) zs bs).2 : Nat) : Int), fun _ v => v = .int .i64 (((sealR (padTo 32 ks) (padTo 12 ns) zs bs).2 : Nat) : Int), fun _ v => v = .bool (false), fun _ v => v = .bool (false), fun _ v => v = .bool (false), fun _ v => v = .int .u64 ((num : Nat) : Int), fun ww vv => OwnN w_4.heap.size (12) (nonceL num) ww vv, fun _ v => v = .string (strB (nonceL num)), fun _ v => v = .int .u64 ((num : Nat) : Int), fun ww vv => OwnN w_4.heap.size (12) (nonceL num) ww vv, fun _ v => v = .string (strB (nonceL num))] [67, 68, 69, 70, 71, 72, 73, 74, 75, 76, 77, 78, 79, 80, 81, 82, 83] hs hd (by kernel_rfl) (by kernel_rfl) (by kernel_rfl) (by kernel_rfl) (by kernel_rfl) ⟨stLit, stLit, stLit, stLit, stLit, stLit, stLit, stLit, stLit, stLit, stLit, stLit, stOwn, stLit, stLit, stOwn, stLit, trivial⟩ ⟨(step_ok rfl (fun a' w' hb' hO hD => by
   have d_1 : a'.eval (.tmp 17) = .slice A_3 ((sealR (padTo 32 ks) (padTo 12 ns) zs bs).1.length) (c_3) := (hO 17 (by decide)).trans (pe hs rfl rfl)
   exact .inl ⟨_, _, (o_move rfl d_1), rfl, Below.refl _ _⟩)),
(step_ok rfl (fun a' w' hb' hO hD => by
   have d_2 : a'.eval (.tmp 67) = .slice A_3 ((sealR (padTo 32 ks) (padTo 12 ns) zs bs).1.length) (c_3) := hD 0 67 (by kernel_rfl) rfl
   exact .inl ⟨_, _, (o_str rfl d_2 ((ho_3.nx hb')).bs rfl), rfl, Below.refl _ _⟩)),
(step_ok rfl (fun a' w' hb' hO hD => by
   have d_3 : a'.eval (.tmp 19) = .slice A_4 ((sealR (padTo 32 ks) (padTo 12 ns) zs bs).1.length) (c_4) := (hO 19 (by decide)).trans (pe hs rfl rfl)
   exact .inl ⟨_, _, (o_move rfl d_3), rfl, Below.refl _ _⟩)),
(step_ok rfl (fun a' w' hb' hO hD => by
   have d_4 : a'.eval (.tmp 69) = .slice A_4 ((sealR (padTo 32 ks) (padTo 12 ns) zs bs).1.length) (c_4) := hD 2 69 (by kernel_rfl) rfl
   exact .inl ⟨_, _, (o_str rfl d_4 ((ho_4.nx hb')).bs rfl), rfl, Below.refl _ _⟩)),
(step_ok rfl (fun a' w' hb' hO hD => by
   have d_5 : a'.eval (.tmp 68) = .string (strB ((sealR (padTo 32 ks) (padTo 12 ns) zs bs).1)) := hD 1 68 (by kernel_rfl) rfl
   have d_6 : a'.eval (.tmp 70) = .string (strB ((sealR (padTo 32 ks) (padTo 12 ns) zs bs).1)) := hD 3 70 (by kernel_rfl) rfl
   exact .inl ⟨_, _, (o_neS rfl d_5 d_6 rfl), rfl, Below.refl _ _⟩)),
(step_ok rfl (fun a' w' hb' hO hD => by
   have d_7 : a'.eval (.tmp 71) = .bool (false) := hD 4 71 (by kernel_rfl) rfl
   exact .inl ⟨_, _, (o_move rfl d_7), rfl, Below.refl _ _⟩)),
(step_yes 5 false 72 rfl rfl (by kernel_rfl) (fun _ _ h => h) (fun a' w' hb' hO hD => by
   have d_8 : a'.eval (.tmp 18) = .int .i64 (((sealR (padTo 32 ks) (padTo 12 ns) zs bs).2 : Nat) : Int) := (hO 18 (by decide)).trans (pe hs rfl rfl)
   exact .inl ⟨_, _, (o_move rfl d_8), rfl, Below.refl _ _⟩)),
(step_yes 5 false 72 rfl rfl (by kernel_rfl) (fun _ _ h => h) (fun a' w' hb' hO hD => by
   have d_9 : a'.eval (.tmp 20) = .int .i64 (((sealR (padTo 32 ks) (padTo 12 ns) zs bs).2 : Nat) : Int) := (hO 20 (by decide)).trans (pe hs rfl rfl)
   exact .inl ⟨_, _, (o_move rfl d_9), rfl, Below.refl _ _⟩)),
(step_yes 5 false 72 rfl rfl (by kernel_rfl) (fun _ _ h => h) (fun a' w' hb' hO hD => by
   have d_10 : a'.eval (.tmp 73) = .int .i64 (((sealR (padTo 32 ks) (padTo 12 ns) zs bs).2 : Nat) : Int) := hD 6 73 (by kernel_rfl) rfl
   have d_11 : a'.eval (.tmp 74) = .int .i64 (((sealR (padTo 32 ks) (padTo 12 ns) zs bs).2 : Nat) : Int) := hD 7 74 (by kernel_rfl) rfl
   have e0 : (.bool (!decide (((sealR (padTo 32 ks) (padTo 12 ns) zs bs).2) = ((sealR (padTo 32 ks) (padTo 12 ns) zs bs).2))) : Value) = .bool (false) := (by simp)
   exact .inl ⟨_, _, (o_neq (m := ((sealR (padTo 32 ks) (padTo 12 ns) zs bs).2)) (n := ((sealR (padTo 32 ks) (padTo 12 ns) zs bs).2)) rfl d_10 d_11), e0, Below.refl _ _⟩)),
(step_ok rfl (fun a' w' hb' hO hD => by
   have d_12 : a'.eval (.tmp 72) = .bool (false) := hD 5 72 (by kernel_rfl) rfl
   have d_13 : a'.eval (.tmp 75) = .bool (false) := hD 8 75 (by kernel_rfl) rfl
   exact .inl ⟨_, _, (o_pickF rfl d_12 d_13), rfl, Below.refl _ _⟩)),
(step_ok rfl (fun a' w' hb' hO hD => by
   have d_14 : a'.eval (.tmp 76) = .bool (false) := hD 9 76 (by kernel_rfl) rfl
   exact .inl ⟨_, _, (o_move rfl d_14), rfl, Below.refl _ _⟩)),
(step_yes 10 false 77 rfl rfl (by kernel_rfl) (fun _ _ h => h) (fun a' w' hb' hO hD => by
   have d_15 := (hO 4 (by decide)).trans ((pm rfl).trans t4)
   exact .inl ⟨_, _, (o_move rfl d_15), rfl, Below.refl _ _⟩)),
(step_yes 10 false 77 rfl rfl (by kernel_rfl) (fun _ _ h => h) (fun a' w' hb' hO hD => by
   have d_16 : a'.eval (.tmp 78) = .int .u64 ((num : Nat) : Int) := hD 11 78 (by kernel_rfl) rfl
   exact .inr ⟨_, #[.int .u64 ((num : Nat) : Int)], (exec_call Try.func9 (by kernel_rfl) (by kernel_rfl) _ rfl _ _ (args1 d_16)), Calls.mono (Nonce_any num _ hnn) (fun e w'' hR => by obtain ⟨A_5, c_5, rfl, ho_5, hb_5⟩ := hR; exact ⟨_, rfl, ⟨_, _, rfl, ho_5.mono hb'.size⟩, hb_5⟩)⟩)),
(step_yes 10 false 77 rfl rfl (by kernel_rfl) (fun _ _ h => h) (fun a' w' hb' hO hD => by
   have d_17 := hD 12 79 (by kernel_rfl) rfl
   obtain ⟨A_6, c_6, hv_1, hO_1⟩ := d_17
   exact .inl ⟨_, _, (o_str rfl hv_1 (hO_1).bs (by simp only [nonceL_length])), rfl, Below.refl _ _⟩)),
(step_yes 10 false 77 rfl rfl (by kernel_rfl) (fun _ _ h => h) (fun a' w' hb' hO hD => by
   have d_18 := (hO 4 (by decide)).trans ((pm rfl).trans t4)
   exact .inl ⟨_, _, (o_move rfl d_18), rfl, Below.refl _ _⟩)),
(step_yes 10 false 77 rfl rfl (by kernel_rfl) (fun _ _ h => h) (fun a' w' hb' hO hD => by
   have d_19 : a'.eval (.tmp 81) = .int .u64 ((num : Nat) : Int) := hD 14 81 (by kernel_rfl) rfl
   exact .inr ⟨_, #[.int .u64 ((num : Nat) : Int)], (exec_call Try.func10 (by kernel_rfl) (by kernel_rfl) _ rfl _ _ (args1 d_19)), Calls.mono (NonceW_any num _ hnn) (fun e w'' hR => by obtain ⟨A_7, c_7, rfl, ho_6, hb_6⟩ := hR; exact ⟨_, rfl, ⟨_, _, rfl, ho_6.mono hb'.size⟩, hb_6⟩)⟩)),
(step_yes 10 false 77 rfl rfl (by kernel_rfl) (fun _ _ h => h) (fun a' w' hb' hO hD => by
   have d_20 := hD 15 82 (by kernel_rfl) rfl
   obtain ⟨A_8, c_8, hv_2, hO_2⟩ := d_20
   exact .inl ⟨_, _, (o_str rfl hv_2 (hO_2).bs (by simp only [nonceL_length])), rfl, Below.refl _ _⟩)), trivial⟩ (fun a_1 w_5 hs_1 hd_1 hb_7 hO_3 hV_1 => ?_)
 have ta_1_0 : a_1.eval (.tmp 0) = .slice A_1 (32) (c_1) := (hO_3 0 (by decide)).trans (pe hs rfl rfl)
 have ta_1_1 : a_1.eval (.tmp 1) = .slice A_2 (12) (c_2) := (hO_3 1 (by decide)).trans (pe hs rfl rfl)
 have ta_1_2 := (hO_3 2 (by decide)).trans ((pm rfl).trans t2)
 have ta_1_3 := (hO_3 3 (by decide)).trans ((pm rfl).trans t3)
 have ta_1_4 := (hO_3 4 (by decide)).trans ((pm rfl).trans t4)
 have ta_1_5 := (hO_3 5 (by decide)).trans ((pm rfl).trans t5)
 have ta_1_6 := (hO_3 6 (by decide)).trans ((pm rfl).trans t6)
 have ta_1_7 := (hO_3 7 (by decide)).trans ((pm rfl).trans t7)
 have ta_1_16 : a_1.eval (.tmp 16) = .bool (false) := (hO_3 16 (by decide)).trans (pe hs rfl rfl)
 have ta_1_27 : a_1.eval (.tmp 27) = .slice A0 (m) (c0) := (hO_3 27 (by decide)).trans (pe hs rfl rfl)
 have ta_1_28 : a_1.eval (.tmp 28) = .int .i64 ((m : Nat) : Int) := (hO_3 28 (by decide)).trans (pe hs rfl rfl)
 have ta_1_29 : a_1.eval (.tmp 29) = .bool (false) := (hO_3 29 (by decide)).trans (pe hs rfl rfl)
 have ta_1_30 : a_1.eval (.tmp 30) = .bool (false) := (hO_3 30 (by decide)).trans (pe hs rfl rfl)
 have ta_1_31 : a_1.eval (.tmp 31) = .slice A1 (k) (c1) := (hO_3 31 (by decide)).trans (pe hs rfl rfl)
 have ta_1_32 : a_1.eval (.tmp 32) = .int .i64 ((k : Nat) : Int) := (hO_3 32 (by decide)).trans (pe hs rfl rfl)
 have ta_1_33 : a_1.eval (.tmp 33) = .bool (false) := (hO_3 33 (by decide)).trans (pe hs rfl rfl)
 have ta_1_34 : a_1.eval (.tmp 34) = .bool (false) := (hO_3 34 (by decide)).trans (pe hs rfl rfl)
 have ta_1_35 : a_1.eval (.tmp 35) = .bool (false) := (hO_3 35 (by decide)).trans (pe hs rfl rfl)
 have ta_1_36 : a_1.eval (.tmp 36) = .slice A2 (p) (c2) := (hO_3 36 (by decide)).trans (pe hs rfl rfl)
 have ta_1_37 : a_1.eval (.tmp 37) = .int .i64 ((p : Nat) : Int) := (hO_3 37 (by decide)).trans (pe hs rfl rfl)
 have ta_1_38 : a_1.eval (.tmp 38) = .bool (false) := (hO_3 38 (by decide)).trans (pe hs rfl rfl)
 have ta_1_39 : a_1.eval (.tmp 39) = .bool (false) := (hO_3 39 (by decide)).trans (pe hs rfl rfl)
 have ta_1_40 : a_1.eval (.tmp 40) = .bool (false) := (hO_3 40 (by decide)).trans (pe hs rfl rfl)
 have ta_1_41 : a_1.eval (.tmp 41) = .slice A3 (q) (c3) := (hO_3 41 (by decide)).trans (pe hs rfl rfl)
 have ta_1_42 : a_1.eval (.tmp 42) = .int .i64 ((q : Nat) : Int) := (hO_3 42 (by decide)).trans (pe hs rfl rfl)
 have ta_1_43 : a_1.eval (.tmp 43) = .bool (false) := (hO_3 43 (by decide)).trans (pe hs rfl rfl)
 have ta_1_44 : a_1.eval (.tmp 44) = .bool (false) := (hO_3 44 (by decide)).trans (pe hs rfl rfl)
 have ta_1_46 : a_1.eval (.tmp 46) = .bool (true) := (hO_3 46 (by decide)).trans (pe hs rfl rfl)
 have ta_1_47 : a_1.eval (.tmp 47) = .slice A0 (m) (c0) := (hO_3 47 (by decide)).trans (pe hs rfl rfl)
 have ta_1_48 : a_1.eval (.tmp 48) = .slice A_1 (32) (c_1) := (hO_3 48 (by decide)).trans (pe hs rfl rfl)
 have ta_1_49 : a_1.eval (.tmp 49) = .slice A1 (k) (c1) := (hO_3 49 (by decide)).trans (pe hs rfl rfl)
 have ta_1_50 : a_1.eval (.tmp 50) = .slice A_2 (12) (c_2) := (hO_3 50 (by decide)).trans (pe hs rfl rfl)
 have ta_1_52 : a_1.eval (.tmp 52) = .slice A_1 (32) (c_1) := (hO_3 52 (by decide)).trans (pe hs rfl rfl)
 have ta_1_53 : a_1.eval (.tmp 53) = .slice A_2 (12) (c_2) := (hO_3 53 (by decide)).trans (pe hs rfl rfl)
 have ta_1_54 : a_1.eval (.tmp 54) = .slice A2 (p) (c2) := (hO_3 54 (by decide)).trans (pe hs rfl rfl)
 have ta_1_55 : a_1.eval (.tmp 55) = .slice A3 (q) (c3) := (hO_3 55 (by decide)).trans (pe hs rfl rfl)
 have ta_1_56 : a_1.eval (.tmp 56) = .tuple #[.slice A_3 ((sealR (padTo 32 ks) (padTo 12 ns) zs bs).1.length) (c_3), .int .i64 (((sealR (padTo 32 ks) (padTo 12 ns) zs bs).2 : Nat) : Int)] := (hO_3 56 (by decide)).trans (pe hs rfl rfl)
 have ta_1_51 : a_1.eval (.tmp 51) = .tuple #[.slice A_3 ((sealR (padTo 32 ks) (padTo 12 ns) zs bs).1.length) (c_3), .int .i64 (((sealR (padTo 32 ks) (padTo 12 ns) zs bs).2 : Nat) : Int)] := (hO_3 51 (by decide)).trans (pe hs rfl rfl)
 have ta_1_57 : a_1.eval (.tmp 57) = .slice A_3 ((sealR (padTo 32 ks) (padTo 12 ns) zs bs).1.length) (c_3) := (hO_3 57 (by decide)).trans (pe hs rfl rfl)
 have ta_1_58 : a_1.eval (.tmp 58) = .int .i64 (((sealR (padTo 32 ks) (padTo 12 ns) zs bs).2 : Nat) : Int) := (hO_3 58 (by decide)).trans (pe hs rfl rfl)
 have ta_1_17 : a_1.eval (.tmp 17) = .slice A_3 ((sealR (padTo 32 ks) (padTo 12 ns) zs bs).1.length) (c_3) := (hO_3 17 (by decide)).trans (pe hs rfl rfl)
 have ta_1_18 : a_1.eval (.tmp 18) = .int .i64 (((sealR (padTo 32 ks) (padTo 12 ns) zs bs).2 : Nat) : Int) := (hO_3 18 (by decide)).trans (pe hs rfl rfl)
 have ta_1_60 : a_1.eval (.tmp 60) = .slice A_1 (32) (c_1) := (hO_3 60 (by decide)).trans (pe hs rfl rfl)
 have ta_1_61 : a_1.eval (.tmp 61) = .slice A_2 (12) (c_2) := (hO_3 61 (by decide)).trans (pe hs rfl rfl)
 have ta_1_62 : a_1.eval (.tmp 62) = .slice A2 (p) (c2) := (hO_3 62 (by decide)).trans (pe hs rfl rfl)
 have ta_1_63 : a_1.eval (.tmp 63) = .slice A3 (q) (c3) := (hO_3 63 (by decide)).trans (pe hs rfl rfl)
 have ta_1_64 : a_1.eval (.tmp 64) = .tuple #[.slice A_4 ((sealR (padTo 32 ks) (padTo 12 ns) zs bs).1.length) (c_4), .int .i64 (((sealR (padTo 32 ks) (padTo 12 ns) zs bs).2 : Nat) : Int)] := (hO_3 64 (by decide)).trans (pe hs rfl rfl)
 have ta_1_59 : a_1.eval (.tmp 59) = .tuple #[.slice A_4 ((sealR (padTo 32 ks) (padTo 12 ns) zs bs).1.length) (c_4), .int .i64 (((sealR (padTo 32 ks) (padTo 12 ns) zs bs).2 : Nat) : Int)] := (hO_3 59 (by decide)).trans (pe hs rfl rfl)
 have ta_1_65 : a_1.eval (.tmp 65) = .slice A_4 ((sealR (padTo 32 ks) (padTo 12 ns) zs bs).1.length) (c_4) := (hO_3 65 (by decide)).trans (pe hs rfl rfl)
 have ta_1_66 : a_1.eval (.tmp 66) = .int .i64 (((sealR (padTo 32 ks) (padTo 12 ns) zs bs).2 : Nat) : Int) := (hO_3 66 (by decide)).trans (pe hs rfl rfl)
 have ta_1_19 : a_1.eval (.tmp 19) = .slice A_4 ((sealR (padTo 32 ks) (padTo 12 ns) zs bs).1.length) (c_4) := (hO_3 19 (by decide)).trans (pe hs rfl rfl)
 have ta_1_20 : a_1.eval (.tmp 20) = .int .i64 (((sealR (padTo 32 ks) (padTo 12 ns) zs bs).2 : Nat) : Int) := (hO_3 20 (by decide)).trans (pe hs rfl rfl)
 clear t0 t1 t2 t3 t4 t5 t6 t7 hd
 replace ho_1 := ho_1.nx hb_7
 replace ho_2 := ho_2.nx hb_7
 replace ho_4 := ho_4.nx hb_7
 have HB_4 := below_from HB_3 hb_7
 have ta_1_67 : a_1.eval (.tmp 67) = .slice A_3 ((sealR (padTo 32 ks) (padTo 12 ns) zs bs).1.length) (c_3) := hV_1 0 67 rfl rfl
 have ta_1_68 : a_1.eval (.tmp 68) = .string (strB ((sealR (padTo 32 ks) (padTo 12 ns) zs bs).1)) := hV_1 1 68 rfl rfl
 have ta_1_69 : a_1.eval (.tmp 69) = .slice A_4 ((sealR (padTo 32 ks) (padTo 12 ns) zs bs).1.length) (c_4) := hV_1 2 69 rfl rfl
 have ta_1_70 : a_1.eval (.tmp 70) = .string (strB ((sealR (padTo 32 ks) (padTo 12 ns) zs bs).1)) := hV_1 3 70 rfl rfl
 have ta_1_71 : a_1.eval (.tmp 71) = .bool (false) := hV_1 4 71 rfl rfl
 have ta_1_72 : a_1.eval (.tmp 72) = .bool (false) := hV_1 5 72 rfl rfl
 have ta_1_73 : a_1.eval (.tmp 73) = .int .i64 (((sealR (padTo 32 ks) (padTo 12 ns) zs bs).2 : Nat) : Int) := hV_1 6 73 rfl rfl
 have ta_1_74 : a_1.eval (.tmp 74) = .int .i64 (((sealR (padTo 32 ks) (padTo 12 ns) zs bs).2 : Nat) : Int) := hV_1 7 74 rfl rfl
 have ta_1_75 : a_1.eval (.tmp 75) = .bool (false) := hV_1 8 75 rfl rfl
 have ta_1_76 : a_1.eval (.tmp 76) = .bool (false) := hV_1 9 76 rfl rfl
 have ta_1_77 : a_1.eval (.tmp 77) = .bool (false) := hV_1 10 77 rfl rfl
 have ta_1_78 : a_1.eval (.tmp 78) = .int .u64 ((num : Nat) : Int) := hV_1 11 78 rfl rfl
 have x_1 := hV_1 12 79 rfl rfl
 obtain ⟨A_9, c_9, hv_3, hO_4⟩ := x_1
 replace hO_4 := hO_4.mono HB_3.size
 have ta_1_80 : a_1.eval (.tmp 80) = .string (strB (nonceL num)) := hV_1 13 80 rfl rfl
 have ta_1_81 : a_1.eval (.tmp 81) = .int .u64 ((num : Nat) : Int) := hV_1 14 81 rfl rfl
 have x_2 := hV_1 15 82 rfl rfl
 obtain ⟨A_10, c_10, hv_4, hO_5⟩ := x_2
 replace hO_5 := hO_5.mono HB_3.size
 have ta_1_83 : a_1.eval (.tmp 83) = .string (strB (nonceL num)) := hV_1 16 83 rfl rfl
 clear hV_1 hO_3
 simp only [List.drop_succ_cons, List.drop_zero]
 refine op_valG (e := 77) (d := 84) (v := .bool (false)) rfl rfl (by kernel_rfl) ((pm rfl).trans ta_1_77) (o_neS rfl ((pm rfl).trans ta_1_80) ((pm rfl).trans ta_1_83) rfl) ?_
 refine q_v 85 (.bool (false)) (o_pickF rfl ((pm rfl).trans ta_1_77) (pe hs_1 rfl rfl)) ?_
 refine x_nil (hK_9 _ _ ?_)
 refine w2_condF (pe hs_1 rfl rfl) ?_
 refine w2_skip ?_
 refine hK_8 _ _ ?_
 refine w2_seq (fun K_10 hK_10 => ?_)
 refine w2_seq (fun K_11 hK_11 => ?_)
 have hsl := sealR_le (padTo 32 ks) (padTo 12 ns) zs bs
 rw [hq] at hsl
 refine x_region (by kernel_rfl) ?_
 refine q_mv ((pm rfl).trans ta_1_3) ?_
 refine q_mv ((pm rfl).trans ta_1_19) ?_
 refine q_mv ((pm rfl).trans ta_1_6) ?_
 refine q_mv ((pm rfl).trans ta_1_7) ?_
 refine q_ca (vs := #[.slice A_4 ((sealR (padTo 32 ks) (padTo 12 ns) zs bs).1.length) (c_4), .int .i64 (z), .int .u8 ((x : Nat) : Int)]) Try.func11 (args3 (pe hs_1 rfl rfl) (pe hs_1 rfl rfl) (pe hs_1 rfl rfl)) (changed_any z x hx _ (ho_4).bs rfl (by omega)) (fun e_5 w_6 hR_5 => ?_)
 obtain ⟨A_11, c_11, rfl, ho_7, hb_8⟩ := hR_5
 replace ho_7 := ho_7.mono HB_4.size
 replace ho_1 := ho_1.nx hb_8
 replace ho_2 := ho_2.nx hb_8
 replace hO_4 := hO_4.nx hb_8
 replace hO_5 := hO_5.nx hb_8
 have HB_5 := below_from HB_4 hb_8
 refine ⟨_, rfl, ?_⟩
 refine q_v 91 (.agg #[.slice A3 (q) (c3), .slice A_11 ((sealR (padTo 32 ks) (padTo 12 ns) zs bs).1.length) (c_11)]) (o_bld (vs := #[(0, .slice A3 (q) (c3)), (1, .slice A_11 ((sealR (padTo 32 ks) (padTo 12 ns) zs bs).1.length) (c_11))]) (v := .agg #[.slice A3 (q) (c3), .slice A_11 ((sealR (padTo 32 ks) (padTo 12 ns) zs bs).1.length) (c_11)]) rfl (bld2 (pe hs_1 rfl rfl) (pe hs_1 rfl rfl)) (fun _ => by kernel_rfl)) ?_
 refine q_v 92 (.int .i64 ((0 : Nat) : Int)) (o_move rfl rfl) ?_
 refine x_nil (hK_11 _ _ ?_)
 refine w2_block (fun K_12 hK_12 => ?_)
 refine x_loop (fun nn aa ww => ∃ (K : Nat), nn = 2 - K ∧ aa.tmps.size = 123 ∧ aa.defers = [] ∧ aa.eval (.tmp 0) = .slice A_1 (32) (c_1) ∧ aa.eval (.tmp 1) = .slice A_2 (12) (c_2) ∧ aa.eval (.tmp 2) = .slice A2 (p) (c2) ∧ aa.eval (.tmp 3) = .slice A3 (q) (c3) ∧ aa.eval (.tmp 91) = .agg #[.slice A3 (q) (c3), .slice A_11 ((sealR (padTo 32 ks) (padTo 12 ns) zs bs).1.length) (c_11)] ∧ aa.eval (.tmp 92) = .int .i64 ((K : Nat) : Int) ∧ K ≤ 2 ∧ Own ww w.heap.size A_11 c_11 (chgL ((sealR (padTo 32 ks) (padTo 12 ns) zs bs).1) (at64 z) x) ∧ Own ww w.heap.size A_1 c_1 (padTo 32 ks) ∧ Own ww w.heap.size A_2 c_2 (padTo 12 ns) ∧ Below w.heap.size w ww) (2) ?_ ?_
 ·exact ⟨0, rfl, (by rw [putsR_size]; exact hs_1), (by rw [putsR_defers]; exact hd_1), ((pm rfl).trans ta_1_0), ((pm rfl).trans ta_1_1), ((pm rfl).trans ta_1_2), ((pm rfl).trans ta_1_3), (pe hs_1 rfl rfl), (pe hs_1 rfl rfl), (by omega), ho_7, ho_1, ho_2, HB_5⟩
 ·skip
  clear ta_1_0 ta_1_1 ta_1_2 ta_1_3 ta_1_4 ta_1_5 ta_1_6 ta_1_7 ta_1_16 ta_1_27 ta_1_28 ta_1_29 ta_1_30 ta_1_31 ta_1_32 ta_1_33 ta_1_34 ta_1_35 ta_1_36 ta_1_37 ta_1_38 ta_1_39 ta_1_40 ta_1_41 ta_1_42 ta_1_43 ta_1_44 ta_1_46 ta_1_47 ta_1_48 ta_1_49 ta_1_50 ta_1_52 ta_1_53 ta_1_54 ta_1_55 ta_1_56 ta_1_51 ta_1_57 ta_1_58 ta_1_17 ta_1_18 ta_1_60 ta_1_61 ta_1_62 ta_1_63 ta_1_64 ta_1_59 ta_1_65 ta_1_66 ta_1_19 ta_1_20 ta_1_67 ta_1_68 ta_1_69 ta_1_70 ta_1_71 ta_1_72 ta_1_73 ta_1_74 ta_1_75 ta_1_76 ta_1_77 ta_1_78 hv_3 ta_1_80 ta_1_81 hv_4 ta_1_83 hd_1 ho_1 ho_2 ho_7 HB_5
  rintro nna_2 a_2 w_7 ⟨K, hm_1, hs_2, hd_2, ta_2_0, ta_2_1, ta_2_2, ta_2_3, ta_2_91, ta_2_92, hK, hC, hK1, hN1, HBL⟩ K_13 hK_13
  subst hm_1
  refine w2_sr (fun K_14 hK_14 => ?_)
  refine q_v 93 (.bool (decide (K < 2))) (o_lss (m := K) (n := 2) rfl ((pm rfl).trans ta_2_92) rfl) ?_
  refine x_nil (hK_14 _ _ ?_)
  refine w2_seq (fun K_15 hK_15 => ?_)
  refine w2_split (pe hs_2 rfl rfl) (fun h_1 => ?_) (fun h_1 => ?_)
  ·simp only [DD9] at h_1
   have hlt : K < 2 := h_1
   refine w2_skip ?_
   refine hK_15 _ _ ?_
   refine w2_seq (fun K_16 hK_16 => ?_)
   refine w2_block (fun K_17 hK_17 => ?_)
   refine w2_sr (fun K_18 hK_18 => ?_)
   have hY_1 := Bs.pick K (h3.below HBL) (hC).bs
   have hY_1l : (pick2 K bs (chgL ((sealR (padTo 32 ks) (padTo 12 ns) zs bs).1) (at64 z) x)).length = pick2 K q ((sealR (padTo 32 ks) (padTo 12 ns) zs bs).1.length) := pick_len K hq (by rw [chgL_length])
   have hY_1q : pick2 K q ((sealR (padTo 32 ks) (padTo 12 ns) zs bs).1.length) ≤ 17592186044416 := pick_le K (by omega) (by omega)
   refine q_v 94 (.slice ((pick2 K A3 A_11)) (pick2 K q ((sealR (padTo 32 ks) (padTo 12 ns) zs bs).1.length)) (pick2 K c3 c_11)) (o_idx2 (e := 22) rfl ((pm rfl).trans ta_2_91) ((pm rfl).trans ta_2_92) hlt (fun _ => by kernel_rfl) ⟨by kernel_rfl, by kernel_rfl⟩) ?_
   refine q_at (pe hs_2 rfl rfl) ?_
   refine x_nil (hK_18 _ _ ?_)
   refine w2_sr (fun K_19 hK_19 => ?_)
   refine q_mv ((pm rfl).trans ta_2_0) ?_
   refine q_mv ((pm rfl).trans ta_2_1) ?_
   refine q_mv ((pm rfl).trans ta_2_2) ?_
   refine q_mv (pe hs_2 rfl rfl) ?_
   refine q_ca (vs := #[.slice A_1 (32) (c_1), .slice A_2 (12) (c_2), .slice A2 (p) (c2), .slice ((pick2 K A3 A_11)) (pick2 K q ((sealR (padTo 32 ks) (padTo 12 ns) zs bs).1.length)) (pick2 K c3 c_11)]) Try.func12 (args4 (pe hs_2 rfl rfl) (pe hs_2 rfl rfl) (pe hs_2 rfl rfl) (pe hs_2 rfl rfl)) (OpenR_any _ (hK1).bs (hN1).bs (h2.below HBL) hY_1 (by simp only [padTo_length]) (by simp only [padTo_length]) hp hY_1l (by omega) hY_1q) (fun e_6 w_8 hR_6 => ?_)
   obtain ⟨A_12, c_12, rfl, ho_8, hb_9⟩ := hR_6
   replace ho_8 := ho_8.mono HBL.size
   replace hC := hC.nx hb_9
   replace hK1 := hK1.nx hb_9
   replace hN1 := hN1.nx hb_9
   replace hY_1 := hY_1.nx hb_9
   have HB_6 := below_from HBL hb_9
   refine ⟨_, rfl, ?_⟩
   refine q_mv (pe hs_2 rfl rfl) ?_
   refine q_ex (v := .slice A_12 ((openR (padTo 32 ks) (padTo 12 ns) zs (pick2 K bs (chgL ((sealR (padTo 32 ks) (padTo 12 ns) zs bs).1) (at64 z) x))).1.length) (c_12)) (pe hs_2 rfl rfl) rfl ?_
   refine q_ex (v := .int .i64 (((openR (padTo 32 ks) (padTo 12 ns) zs (pick2 K bs (chgL ((sealR (padTo 32 ks) (padTo 12 ns) zs bs).1) (at64 z) x))).2 : Nat) : Int)) (pe hs_2 rfl rfl) rfl ?_
   refine q_at (pe hs_2 rfl rfl) ?_
   refine q_at (pe hs_2 rfl rfl) ?_
   refine x_nil (hK_19 _ _ ?_)
   refine w2_sr (fun K_20 hK_20 => ?_)
   refine q_mv ((pm rfl).trans ta_2_0) ?_
   refine q_mv ((pm rfl).trans ta_2_1) ?_
   refine q_mv ((pm rfl).trans ta_2_2) ?_
   refine q_mv (pe hs_2 rfl rfl) ?_
   refine q_ca (vs := #[.slice A_1 (32) (c_1), .slice A_2 (12) (c_2), .slice A2 (p) (c2), .slice ((pick2 K A3 A_11)) (pick2 K q ((sealR (padTo 32 ks) (padTo 12 ns) zs bs).1.length)) (pick2 K c3 c_11)]) Try.func13 (args4 (pe hs_2 rfl rfl) (pe hs_2 rfl rfl) (pe hs_2 rfl rfl) (pe hs_2 rfl rfl)) (OpenWR_any _ (hK1).bs (hN1).bs (h2.below HB_6) hY_1 (by simp only [padTo_length]) (by simp only [padTo_length]) hp hY_1l (by omega) hY_1q) (fun e_7 w_9 hR_7 => ?_)
   obtain ⟨A_13, c_13, rfl, ho_9, hb_10⟩ := hR_7
   replace ho_9 := ho_9.mono HB_6.size
   replace hC := hC.nx hb_10
   replace hK1 := hK1.nx hb_10
   replace hN1 := hN1.nx hb_10
   replace hY_1 := hY_1.nx hb_10
   replace ho_8 := ho_8.nx hb_10
   have HB_7 := below_from HB_6 hb_10
   refine ⟨_, rfl, ?_⟩
   refine q_mv (pe hs_2 rfl rfl) ?_
   refine q_ex (v := .slice A_13 ((openR (padTo 32 ks) (padTo 12 ns) zs (pick2 K bs (chgL ((sealR (padTo 32 ks) (padTo 12 ns) zs bs).1) (at64 z) x))).1.length) (c_13)) (pe hs_2 rfl rfl) rfl ?_
   refine q_ex (v := .int .i64 (((openR (padTo 32 ks) (padTo 12 ns) zs (pick2 K bs (chgL ((sealR (padTo 32 ks) (padTo 12 ns) zs bs).1) (at64 z) x))).2 : Nat) : Int)) (pe hs_2 rfl rfl) rfl ?_
   refine q_at (pe hs_2 rfl rfl) ?_
   refine q_at (pe hs_2 rfl rfl) ?_
   refine x_nil (hK_20 _ _ ?_)
   refine w2_sr (fun K_21 hK_21 => ?_)
   refine q_mv (pe hs_2 rfl rfl) ?_
   refine q_v 112 (.string (strB ((openR (padTo 32 ks) (padTo 12 ns) zs (pick2 K bs (chgL ((sealR (padTo 32 ks) (padTo 12 ns) zs bs).1) (at64 z) x))).1))) (o_str rfl (pe hs_2 rfl rfl) (ho_8).bs rfl) ?_
   refine q_mv (pe hs_2 rfl rfl) ?_
   refine q_v 114 (.string (strB ((openR (padTo 32 ks) (padTo 12 ns) zs (pick2 K bs (chgL ((sealR (padTo 32 ks) (padTo 12 ns) zs bs).1) (at64 z) x))).1))) (o_str rfl (pe hs_2 rfl rfl) (ho_9).bs rfl) ?_
   refine q_v 115 (.bool (false)) (o_neS rfl (pe hs_2 rfl rfl) (pe hs_2 rfl rfl) rfl) ?_
   refine q_mv (pe hs_2 rfl rfl) ?_
   refine op_valG (e := 116) (d := 117) (v := .int .i64 (((openR (padTo 32 ks) (padTo 12 ns) zs (pick2 K bs (chgL ((sealR (padTo 32 ks) (padTo 12 ns) zs bs).1) (at64 z) x))).2 : Nat) : Int)) rfl rfl (by kernel_rfl) (pe hs_2 rfl rfl) (o_move rfl (pe hs_2 rfl rfl)) ?_
   refine op_valG (e := 116) (d := 118) (v := .int .i64 (((openR (padTo 32 ks) (padTo 12 ns) zs (pick2 K bs (chgL ((sealR (padTo 32 ks) (padTo 12 ns) zs bs).1) (at64 z) x))).2 : Nat) : Int)) rfl rfl (by kernel_rfl) (pe hs_2 rfl rfl) (o_move rfl (pe hs_2 rfl rfl)) ?_
   refine op_valG (e := 116) (d := 119) (v := .bool (false)) rfl rfl (by kernel_rfl) (pe hs_2 rfl rfl) (o_eq (o_neq (m := ((openR (padTo 32 ks) (padTo 12 ns) zs (pick2 K bs (chgL ((sealR (padTo 32 ks) (padTo 12 ns) zs bs).1) (at64 z) x))).2)) (n := ((openR (padTo 32 ks) (padTo 12 ns) zs (pick2 K bs (chgL ((sealR (padTo 32 ks) (padTo 12 ns) zs bs).1) (at64 z) x))).2)) rfl (pe hs_2 rfl rfl) (pe hs_2 rfl rfl)) (by simp)) ?_
   refine q_v 120 (.bool (false)) (o_pickF rfl (pe hs_2 rfl rfl) (pe hs_2 rfl rfl)) ?_
   refine x_nil (hK_21 _ _ ?_)
   refine w2_condF (pe hs_2 rfl rfl) ?_
   refine w2_skip ?_
   refine hK_17 _ _ ?_
   refine hK_16 _ _ ?_
   refine x_region (by kernel_rfl) ?_
   refine q_v 121 (.int .i64 ((K + 1 : Nat) : Int)) (o_add64 (m := K) (n := 1) rfl ((pm rfl).trans ta_2_92) rfl (by omega)) ?_
   refine q_mv (pe hs_2 rfl rfl) ?_
   refine x_nil ?_
   refine hK_13 _ _ _ ⟨K + 1, rfl, (by rw [putsR_size]; exact hs_2), (by rw [putsR_defers]; exact hd_2), ((pm rfl).trans ta_2_0), ((pm rfl).trans ta_2_1), ((pm rfl).trans ta_2_2), ((pm rfl).trans ta_2_3), ((pm rfl).trans ta_2_91), (pe hs_2 rfl rfl), (by omega), hC, hK1, hN1, HB_7⟩ ?_
   omega
  ·simp only [DD9] at h_1
   refine w2_exit ?_
   refine thn_exit ?_
   refine thn_exit ?_
   refine exb_hit ?_
   refine hK_12 _ _ ?_
   refine hK_10 _ _ ?_
   refine w2_sr (fun K_22 hK_22 => ?_)
   refine q_ca (vs := #[]) Try.func5 (args0) (awake_any _) (fun e_8 w_10 hR_8 => ?_)
   obtain ⟨rfl, hb_12⟩ := hR_8
   replace hC := hC.nx hb_12
   replace hK1 := hK1.nx hb_12
   replace hN1 := hN1.nx hb_12
   have HB_8 := below_from HBL hb_12
   refine ⟨_, rfl, ?_⟩
   refine q_at (pe hs_2 rfl rfl) ?_
   refine x_nil (hK_22 _ _ ?_)
   refine w2_ret ?_
   refine ret1 rfl hd_2 (pe hs_2 rfl rfl) ?_
   exact ⟨rfl, HB_8⟩
set_option maxHeartbeats 1000000 in
theorem AFormsMfalse {A0 A1 A2 A3 : Option Addr} {c0 c1 c2 c3 m k p q : Nat} {ks ns zs bs : List Nat} (num : Nat) (hnn : num < 18446744073709551616) (z : Int) (x : Nat) (hx : x < 256) (w : World) (h0 : Bs w A0 c0 ks) (h1 : Bs w A1 c1 ns) (h2 : Bs w A2 c2 zs) (h3 : Bs w A3 c3 bs) (hm : ks.length = m) (hk : ns.length = k) (hp : zs.length = p) (hq : bs.length = q) (g0 : m ≤ 40) (g1 : k ≤ 20) (g2 : p ≤ 200) (g3 : q ≤ 400) :
  Calls Try.prog 3 #[.slice A0 (m) (c0), .slice A1 (k) (c1), .slice A2 (p) (c2), .slice A3 (q) (c3), .int .u64 ((num : Nat) : Int), .bool (false), .int .i64 (z), .int .u8 ((x : Nat) : Int)] w fun e w' => e = .returned (.bool true) ∧ Below w.heap.size w w' := by
 refine x_enter 123 Try.func3 rfl rfl (fun a hs hd ha0 => ?_)
 have t0 : a.eval (.tmp 0) = .slice A0 (m) (c0) := ha0 0 _ rfl
 have t1 : a.eval (.tmp 1) = .slice A1 (k) (c1) := ha0 1 _ rfl
 have t2 : a.eval (.tmp 2) = .slice A2 (p) (c2) := ha0 2 _ rfl
 have t3 : a.eval (.tmp 3) = .slice A3 (q) (c3) := ha0 3 _ rfl
 have t4 : a.eval (.tmp 4) = .int .u64 ((num : Nat) : Int) := ha0 4 _ rfl
 have t5 : a.eval (.tmp 5) = .bool (false) := ha0 5 _ rfl
 have t6 : a.eval (.tmp 6) = .int .i64 (z) := ha0 6 _ rfl
 have t7 : a.eval (.tmp 7) = .int .u8 ((x : Nat) : Int) := ha0 7 _ rfl
 clear ha0
 refine w2_sr (fun K_1 hK_1 => ?_)
 refine q_as (.bool (false)) rfl ?_
 refine x_nil (hK_1 _ _ ?_)
 refine w2_seq (fun K_2 hK_2 => ?_)
 refine w2_sr (fun K_3 hK_3 => ?_)
 refine q_mv ((pm rfl).trans t0) ?_
 refine q_v 28 (.int .i64 ((m : Nat) : Int)) (o_len rfl (pe hs rfl rfl)) ?_
 refine q_v 29 (.bool (false)) (o_eq (o_gtr (m := m) (n := 40) rfl (pe hs rfl rfl) rfl) (by rw [decide_eq_false (by omega)])) ?_
 refine q_mv (pe hs rfl rfl) ?_
 refine op_valG (e := 30) (d := 31) (v := .slice A1 (k) (c1)) rfl rfl (by kernel_rfl) (pe hs rfl rfl) (o_move rfl ((pm rfl).trans t1)) ?_
 refine op_valG (e := 30) (d := 32) (v := .int .i64 ((k : Nat) : Int)) rfl rfl (by kernel_rfl) (pe hs rfl rfl) (o_len rfl (pe hs rfl rfl)) ?_
 refine op_valG (e := 30) (d := 33) (v := .bool (false)) rfl rfl (by kernel_rfl) (pe hs rfl rfl) (o_eq (o_gtr (m := k) (n := 20) rfl (pe hs rfl rfl) rfl) (by rw [decide_eq_false (by omega)])) ?_
 refine q_v 34 (.bool (false)) (o_pickF rfl (pe hs rfl rfl) (pe hs rfl rfl)) ?_
 refine q_mv (pe hs rfl rfl) ?_
 refine op_valG (e := 35) (d := 36) (v := .slice A2 (p) (c2)) rfl rfl (by kernel_rfl) (pe hs rfl rfl) (o_move rfl ((pm rfl).trans t2)) ?_
 refine op_valG (e := 35) (d := 37) (v := .int .i64 ((p : Nat) : Int)) rfl rfl (by kernel_rfl) (pe hs rfl rfl) (o_len rfl (pe hs rfl rfl)) ?_
 refine op_valG (e := 35) (d := 38) (v := .bool (false)) rfl rfl (by kernel_rfl) (pe hs rfl rfl) (o_eq (o_gtr (m := p) (n := 200) rfl (pe hs rfl rfl) rfl) (by rw [decide_eq_false (by omega)])) ?_
 refine q_v 39 (.bool (false)) (o_pickF rfl (pe hs rfl rfl) (pe hs rfl rfl)) ?_
 refine q_mv (pe hs rfl rfl) ?_
 refine op_valG (e := 40) (d := 41) (v := .slice A3 (q) (c3)) rfl rfl (by kernel_rfl) (pe hs rfl rfl) (o_move rfl ((pm rfl).trans t3)) ?_
 refine op_valG (e := 40) (d := 42) (v := .int .i64 ((q : Nat) : Int)) rfl rfl (by kernel_rfl) (pe hs rfl rfl) (o_len rfl (pe hs rfl rfl)) ?_
 refine op_valG (e := 40) (d := 43) (v := .bool (false)) rfl rfl (by kernel_rfl) (pe hs rfl rfl) (o_eq (o_gtr (m := q) (n := 400) rfl (pe hs rfl rfl) rfl) (by rw [decide_eq_false (by omega)])) ?_
 refine q_v 44 (.bool (false)) (o_pickF rfl (pe hs rfl rfl) (pe hs rfl rfl)) ?_
 refine x_nil (hK_3 _ _ ?_)
 refine w2_condF (pe hs rfl rfl) ?_
 refine w2_skip ?_
 refine hK_2 _ _ ?_
 refine w2_seq (fun K_4 hK_4 => ?_)
 refine w2_sr (fun K_5 hK_5 => ?_)
 refine q_mv ((pm rfl).trans t5) ?_
 refine x_nil (hK_5 _ _ ?_)
 refine w2_condF (pe hs rfl rfl) ?_
 refine w2_skip ?_
 refine hK_4 _ _ ?_
 refine w2_sr (fun K_6 hK_6 => ?_)
 refine q_mv ((pm rfl).trans t0) ?_
 refine q_mv ((pm rfl).trans t1) ?_
 refine q_mv ((pm rfl).trans t2) ?_
 refine q_mv ((pm rfl).trans t3) ?_
 refine q_ca (vs := #[.slice A0 (m) (c0), .slice A1 (k) (c1), .slice A2 (p) (c2), .slice A3 (q) (c3)]) Try.func7 (args4 (pe hs rfl rfl) (pe hs rfl rfl) (pe hs rfl rfl) (pe hs rfl rfl)) (SealR_any _ h0 h1 h2 h3 hm hk hp hq (by omega) (by omega)) (fun e_1 w_1 hR_1 => ?_)
 obtain ⟨A_1, c_1, rfl, ho_1, hb_1⟩ := hR_1
 refine ⟨_, rfl, ?_⟩
 refine q_mv (pe hs rfl rfl) ?_
 refine q_ex (v := .slice A_1 ((sealR ks ns zs bs).1.length) (c_1)) (pe hs rfl rfl) rfl ?_
 refine q_ex (v := .int .i64 (((sealR ks ns zs bs).2 : Nat) : Int)) (pe hs rfl rfl) rfl ?_
 refine q_at (pe hs rfl rfl) ?_
 refine q_at (pe hs rfl rfl) ?_
 refine x_nil (hK_6 _ _ ?_)
 refine w2_sr (fun K_7 hK_7 => ?_)
 refine q_mv ((pm rfl).trans t0) ?_
 refine q_mv ((pm rfl).trans t1) ?_
 refine q_mv ((pm rfl).trans t2) ?_
 refine q_mv ((pm rfl).trans t3) ?_
 refine q_ca (vs := #[.slice A0 (m) (c0), .slice A1 (k) (c1), .slice A2 (p) (c2), .slice A3 (q) (c3)]) Try.func8 (args4 (pe hs rfl rfl) (pe hs rfl rfl) (pe hs rfl rfl) (pe hs rfl rfl)) (SealWR_any _ (h0.below hb_1) (h1.below hb_1) (h2.below hb_1) (h3.below hb_1) hm hk hp hq (by omega) (by omega)) (fun e_2 w_2 hR_2 => ?_)
 obtain ⟨A_2, c_2, rfl, ho_2, hb_2⟩ := hR_2
 replace ho_2 := ho_2.mono hb_1.size
 replace ho_1 := ho_1.nx hb_2
 have HB_1 := below_from hb_1 hb_2
 refine ⟨_, rfl, ?_⟩
 refine q_mv (pe hs rfl rfl) ?_
 refine q_ex (v := .slice A_2 ((sealR ks ns zs bs).1.length) (c_2)) (pe hs rfl rfl) rfl ?_
 refine q_ex (v := .int .i64 (((sealR ks ns zs bs).2 : Nat) : Int)) (pe hs rfl rfl) rfl ?_
 refine q_at (pe hs rfl rfl) ?_
 refine q_at (pe hs rfl rfl) ?_
 refine x_nil (hK_7 _ _ ?_)
 refine w2_seq (fun K_8 hK_8 => ?_)
 refine w2_seq (fun K_9 hK_9 => ?_)
 refine x_drawn 17 [fun _ v => v = .slice A_1 ((sealR ks ns zs bs).1.length) (c_1), fun _ v => v = .string (strB ((sealR ks ns zs bs).1)), fun _ v => v = .slice A_2 ((sealR ks ns zs bs).1.length) (c_2), fun _ v => v = .string (strB ((sealR ks ns zs bs).1)), fun _ v => v = .bool (false), fun _ v => v = .bool (false), fun _ v => v = .int .i64 (((sealR ks ns zs bs).2 : Nat) : Int), fun _ v => v = .int .i64 (((sealR ks ns zs bs).2 : Nat) : Int), fun _ v => v = .bool (false), fun _ v => v = .bool (false), fun _ v => v = .bool (false), fun _ v => v = .int .u64 ((num : Nat) : Int), fun ww vv => OwnN w_2.heap.size (12) (nonceL num) ww vv, fun _ v => v = .string (strB (nonceL num)), fun _ v => v = .int .u64 ((num : Nat) : Int), fun ww vv => OwnN w_2.heap.size (12) (nonceL num) ww vv, fun _ v => v = .string (strB (nonceL num))] [67, 68, 69, 70, 71, 72, 73, 74, 75, 76, 77, 78, 79, 80, 81, 82, 83] hs hd (by kernel_rfl) (by kernel_rfl) (by kernel_rfl) (by kernel_rfl) (by kernel_rfl) ⟨stLit, stLit, stLit, stLit, stLit, stLit, stLit, stLit, stLit, stLit, stLit, stLit, stOwn, stLit, stLit, stOwn, stLit, trivial⟩ ⟨(step_ok rfl (fun a' w' hb' hO hD => by
   have d_1 : a'.eval (.tmp 17) = .slice A_1 ((sealR ks ns zs bs).1.length) (c_1) := (hO 17 (by decide)).trans (pe hs rfl rfl)
   exact .inl ⟨_, _, (o_move rfl d_1), rfl, Below.refl _ _⟩)),
(step_ok rfl (fun a' w' hb' hO hD => by
   have d_2 : a'.eval (.tmp 67) = .slice A_1 ((sealR ks ns zs bs).1.length) (c_1) := hD 0 67 (by kernel_rfl) rfl
   exact .inl ⟨_, _, (o_str rfl d_2 ((ho_1.nx hb')).bs rfl), rfl, Below.refl _ _⟩)),
(step_ok rfl (fun a' w' hb' hO hD => by
   have d_3 : a'.eval (.tmp 19) = .slice A_2 ((sealR ks ns zs bs).1.length) (c_2) := (hO 19 (by decide)).trans (pe hs rfl rfl)
   exact .inl ⟨_, _, (o_move rfl d_3), rfl, Below.refl _ _⟩)),
(step_ok rfl (fun a' w' hb' hO hD => by
   have d_4 : a'.eval (.tmp 69) = .slice A_2 ((sealR ks ns zs bs).1.length) (c_2) := hD 2 69 (by kernel_rfl) rfl
   exact .inl ⟨_, _, (o_str rfl d_4 ((ho_2.nx hb')).bs rfl), rfl, Below.refl _ _⟩)),
(step_ok rfl (fun a' w' hb' hO hD => by
   have d_5 : a'.eval (.tmp 68) = .string (strB ((sealR ks ns zs bs).1)) := hD 1 68 (by kernel_rfl) rfl
   have d_6 : a'.eval (.tmp 70) = .string (strB ((sealR ks ns zs bs).1)) := hD 3 70 (by kernel_rfl) rfl
   exact .inl ⟨_, _, (o_neS rfl d_5 d_6 rfl), rfl, Below.refl _ _⟩)),
(step_ok rfl (fun a' w' hb' hO hD => by
   have d_7 : a'.eval (.tmp 71) = .bool (false) := hD 4 71 (by kernel_rfl) rfl
   exact .inl ⟨_, _, (o_move rfl d_7), rfl, Below.refl _ _⟩)),
(step_yes 5 false 72 rfl rfl (by kernel_rfl) (fun _ _ h => h) (fun a' w' hb' hO hD => by
   have d_8 : a'.eval (.tmp 18) = .int .i64 (((sealR ks ns zs bs).2 : Nat) : Int) := (hO 18 (by decide)).trans (pe hs rfl rfl)
   exact .inl ⟨_, _, (o_move rfl d_8), rfl, Below.refl _ _⟩)),
(step_yes 5 false 72 rfl rfl (by kernel_rfl) (fun _ _ h => h) (fun a' w' hb' hO hD => by
   have d_9 : a'.eval (.tmp 20) = .int .i64 (((sealR ks ns zs bs).2 : Nat) : Int) := (hO 20 (by decide)).trans (pe hs rfl rfl)
   exact .inl ⟨_, _, (o_move rfl d_9), rfl, Below.refl _ _⟩)),
(step_yes 5 false 72 rfl rfl (by kernel_rfl) (fun _ _ h => h) (fun a' w' hb' hO hD => by
   have d_10 : a'.eval (.tmp 73) = .int .i64 (((sealR ks ns zs bs).2 : Nat) : Int) := hD 6 73 (by kernel_rfl) rfl
   have d_11 : a'.eval (.tmp 74) = .int .i64 (((sealR ks ns zs bs).2 : Nat) : Int) := hD 7 74 (by kernel_rfl) rfl
   have e0 : (.bool (!decide (((sealR ks ns zs bs).2) = ((sealR ks ns zs bs).2))) : Value) = .bool (false) := (by simp)
   exact .inl ⟨_, _, (o_neq (m := ((sealR ks ns zs bs).2)) (n := ((sealR ks ns zs bs).2)) rfl d_10 d_11), e0, Below.refl _ _⟩)),
(step_ok rfl (fun a' w' hb' hO hD => by
   have d_12 : a'.eval (.tmp 72) = .bool (false) := hD 5 72 (by kernel_rfl) rfl
   have d_13 : a'.eval (.tmp 75) = .bool (false) := hD 8 75 (by kernel_rfl) rfl
   exact .inl ⟨_, _, (o_pickF rfl d_12 d_13), rfl, Below.refl _ _⟩)),
(step_ok rfl (fun a' w' hb' hO hD => by
   have d_14 : a'.eval (.tmp 76) = .bool (false) := hD 9 76 (by kernel_rfl) rfl
   exact .inl ⟨_, _, (o_move rfl d_14), rfl, Below.refl _ _⟩)),
(step_yes 10 false 77 rfl rfl (by kernel_rfl) (fun _ _ h => h) (fun a' w' hb' hO hD => by
   have d_15 := (hO 4 (by decide)).trans ((pm rfl).trans t4)
   exact .inl ⟨_, _, (o_move rfl d_15), rfl, Below.refl _ _⟩)),
(step_yes 10 false 77 rfl rfl (by kernel_rfl) (fun _ _ h => h) (fun a' w' hb' hO hD => by
   have d_16 : a'.eval (.tmp 78) = .int .u64 ((num : Nat) : Int) := hD 11 78 (by kernel_rfl) rfl
   exact .inr ⟨_, #[.int .u64 ((num : Nat) : Int)], (exec_call Try.func9 (by kernel_rfl) (by kernel_rfl) _ rfl _ _ (args1 d_16)), Calls.mono (Nonce_any num _ hnn) (fun e w'' hR => by obtain ⟨A_3, c_3, rfl, ho_3, hb_3⟩ := hR; exact ⟨_, rfl, ⟨_, _, rfl, ho_3.mono hb'.size⟩, hb_3⟩)⟩)),
(step_yes 10 false 77 rfl rfl (by kernel_rfl) (fun _ _ h => h) (fun a' w' hb' hO hD => by
   have d_17 := hD 12 79 (by kernel_rfl) rfl
   obtain ⟨A_4, c_4, hv_1, hO_1⟩ := d_17
   exact .inl ⟨_, _, (o_str rfl hv_1 (hO_1).bs (by simp only [nonceL_length])), rfl, Below.refl _ _⟩)),
(step_yes 10 false 77 rfl rfl (by kernel_rfl) (fun _ _ h => h) (fun a' w' hb' hO hD => by
   have d_18 := (hO 4 (by decide)).trans ((pm rfl).trans t4)
   exact .inl ⟨_, _, (o_move rfl d_18), rfl, Below.refl _ _⟩)),
(step_yes 10 false 77 rfl rfl (by kernel_rfl) (fun _ _ h => h) (fun a' w' hb' hO hD => by
   have d_19 : a'.eval (.tmp 81) = .int .u64 ((num : Nat) : Int) := hD 14 81 (by kernel_rfl) rfl
   exact .inr ⟨_, #[.int .u64 ((num : Nat) : Int)], (exec_call Try.func10 (by kernel_rfl) (by kernel_rfl) _ rfl _ _ (args1 d_19)), Calls.mono (NonceW_any num _ hnn) (fun e w'' hR => by obtain ⟨A_5, c_5, rfl, ho_4, hb_4⟩ := hR; exact ⟨_, rfl, ⟨_, _, rfl, ho_4.mono hb'.size⟩, hb_4⟩)⟩)),
(step_yes 10 false 77 rfl rfl (by kernel_rfl) (fun _ _ h => h) (fun a' w' hb' hO hD => by
   have d_20 := hD 15 82 (by kernel_rfl) rfl
   obtain ⟨A_6, c_6, hv_2, hO_2⟩ := d_20
   exact .inl ⟨_, _, (o_str rfl hv_2 (hO_2).bs (by simp only [nonceL_length])), rfl, Below.refl _ _⟩)), trivial⟩ (fun a_1 w_3 hs_1 hd_1 hb_5 hO_3 hV_1 => ?_)
 have ta_1_0 := (hO_3 0 (by decide)).trans ((pm rfl).trans t0)
 have ta_1_1 := (hO_3 1 (by decide)).trans ((pm rfl).trans t1)
 have ta_1_2 := (hO_3 2 (by decide)).trans ((pm rfl).trans t2)
 have ta_1_3 := (hO_3 3 (by decide)).trans ((pm rfl).trans t3)
 have ta_1_4 := (hO_3 4 (by decide)).trans ((pm rfl).trans t4)
 have ta_1_5 := (hO_3 5 (by decide)).trans ((pm rfl).trans t5)
 have ta_1_6 := (hO_3 6 (by decide)).trans ((pm rfl).trans t6)
 have ta_1_7 := (hO_3 7 (by decide)).trans ((pm rfl).trans t7)
 have ta_1_16 : a_1.eval (.tmp 16) = .bool (false) := (hO_3 16 (by decide)).trans (pe hs rfl rfl)
 have ta_1_27 : a_1.eval (.tmp 27) = .slice A0 (m) (c0) := (hO_3 27 (by decide)).trans (pe hs rfl rfl)
 have ta_1_28 : a_1.eval (.tmp 28) = .int .i64 ((m : Nat) : Int) := (hO_3 28 (by decide)).trans (pe hs rfl rfl)
 have ta_1_29 : a_1.eval (.tmp 29) = .bool (false) := (hO_3 29 (by decide)).trans (pe hs rfl rfl)
 have ta_1_30 : a_1.eval (.tmp 30) = .bool (false) := (hO_3 30 (by decide)).trans (pe hs rfl rfl)
 have ta_1_31 : a_1.eval (.tmp 31) = .slice A1 (k) (c1) := (hO_3 31 (by decide)).trans (pe hs rfl rfl)
 have ta_1_32 : a_1.eval (.tmp 32) = .int .i64 ((k : Nat) : Int) := (hO_3 32 (by decide)).trans (pe hs rfl rfl)
 have ta_1_33 : a_1.eval (.tmp 33) = .bool (false) := (hO_3 33 (by decide)).trans (pe hs rfl rfl)
 have ta_1_34 : a_1.eval (.tmp 34) = .bool (false) := (hO_3 34 (by decide)).trans (pe hs rfl rfl)
 have ta_1_35 : a_1.eval (.tmp 35) = .bool (false) := (hO_3 35 (by decide)).trans (pe hs rfl rfl)
 have ta_1_36 : a_1.eval (.tmp 36) = .slice A2 (p) (c2) := (hO_3 36 (by decide)).trans (pe hs rfl rfl)
 have ta_1_37 : a_1.eval (.tmp 37) = .int .i64 ((p : Nat) : Int) := (hO_3 37 (by decide)).trans (pe hs rfl rfl)
 have ta_1_38 : a_1.eval (.tmp 38) = .bool (false) := (hO_3 38 (by decide)).trans (pe hs rfl rfl)
 have ta_1_39 : a_1.eval (.tmp 39) = .bool (false) := (hO_3 39 (by decide)).trans (pe hs rfl rfl)
 have ta_1_40 : a_1.eval (.tmp 40) = .bool (false) := (hO_3 40 (by decide)).trans (pe hs rfl rfl)
 have ta_1_41 : a_1.eval (.tmp 41) = .slice A3 (q) (c3) := (hO_3 41 (by decide)).trans (pe hs rfl rfl)
 have ta_1_42 : a_1.eval (.tmp 42) = .int .i64 ((q : Nat) : Int) := (hO_3 42 (by decide)).trans (pe hs rfl rfl)
 have ta_1_43 : a_1.eval (.tmp 43) = .bool (false) := (hO_3 43 (by decide)).trans (pe hs rfl rfl)
 have ta_1_44 : a_1.eval (.tmp 44) = .bool (false) := (hO_3 44 (by decide)).trans (pe hs rfl rfl)
 have ta_1_46 : a_1.eval (.tmp 46) = .bool (false) := (hO_3 46 (by decide)).trans (pe hs rfl rfl)
 have ta_1_52 : a_1.eval (.tmp 52) = .slice A0 (m) (c0) := (hO_3 52 (by decide)).trans (pe hs rfl rfl)
 have ta_1_53 : a_1.eval (.tmp 53) = .slice A1 (k) (c1) := (hO_3 53 (by decide)).trans (pe hs rfl rfl)
 have ta_1_54 : a_1.eval (.tmp 54) = .slice A2 (p) (c2) := (hO_3 54 (by decide)).trans (pe hs rfl rfl)
 have ta_1_55 : a_1.eval (.tmp 55) = .slice A3 (q) (c3) := (hO_3 55 (by decide)).trans (pe hs rfl rfl)
 have ta_1_56 : a_1.eval (.tmp 56) = .tuple #[.slice A_1 ((sealR ks ns zs bs).1.length) (c_1), .int .i64 (((sealR ks ns zs bs).2 : Nat) : Int)] := (hO_3 56 (by decide)).trans (pe hs rfl rfl)
 have ta_1_51 : a_1.eval (.tmp 51) = .tuple #[.slice A_1 ((sealR ks ns zs bs).1.length) (c_1), .int .i64 (((sealR ks ns zs bs).2 : Nat) : Int)] := (hO_3 51 (by decide)).trans (pe hs rfl rfl)
 have ta_1_57 : a_1.eval (.tmp 57) = .slice A_1 ((sealR ks ns zs bs).1.length) (c_1) := (hO_3 57 (by decide)).trans (pe hs rfl rfl)
 have ta_1_58 : a_1.eval (.tmp 58) = .int .i64 (((sealR ks ns zs bs).2 : Nat) : Int) := (hO_3 58 (by decide)).trans (pe hs rfl rfl)
 have ta_1_17 : a_1.eval (.tmp 17) = .slice A_1 ((sealR ks ns zs bs).1.length) (c_1) := (hO_3 17 (by decide)).trans (pe hs rfl rfl)
 have ta_1_18 : a_1.eval (.tmp 18) = .int .i64 (((sealR ks ns zs bs).2 : Nat) : Int) := (hO_3 18 (by decide)).trans (pe hs rfl rfl)
 have ta_1_60 : a_1.eval (.tmp 60) = .slice A0 (m) (c0) := (hO_3 60 (by decide)).trans (pe hs rfl rfl)
 have ta_1_61 : a_1.eval (.tmp 61) = .slice A1 (k) (c1) := (hO_3 61 (by decide)).trans (pe hs rfl rfl)
 have ta_1_62 : a_1.eval (.tmp 62) = .slice A2 (p) (c2) := (hO_3 62 (by decide)).trans (pe hs rfl rfl)
 have ta_1_63 : a_1.eval (.tmp 63) = .slice A3 (q) (c3) := (hO_3 63 (by decide)).trans (pe hs rfl rfl)
 have ta_1_64 : a_1.eval (.tmp 64) = .tuple #[.slice A_2 ((sealR ks ns zs bs).1.length) (c_2), .int .i64 (((sealR ks ns zs bs).2 : Nat) : Int)] := (hO_3 64 (by decide)).trans (pe hs rfl rfl)
 have ta_1_59 : a_1.eval (.tmp 59) = .tuple #[.slice A_2 ((sealR ks ns zs bs).1.length) (c_2), .int .i64 (((sealR ks ns zs bs).2 : Nat) : Int)] := (hO_3 59 (by decide)).trans (pe hs rfl rfl)
 have ta_1_65 : a_1.eval (.tmp 65) = .slice A_2 ((sealR ks ns zs bs).1.length) (c_2) := (hO_3 65 (by decide)).trans (pe hs rfl rfl)
 have ta_1_66 : a_1.eval (.tmp 66) = .int .i64 (((sealR ks ns zs bs).2 : Nat) : Int) := (hO_3 66 (by decide)).trans (pe hs rfl rfl)
 have ta_1_19 : a_1.eval (.tmp 19) = .slice A_2 ((sealR ks ns zs bs).1.length) (c_2) := (hO_3 19 (by decide)).trans (pe hs rfl rfl)
 have ta_1_20 : a_1.eval (.tmp 20) = .int .i64 (((sealR ks ns zs bs).2 : Nat) : Int) := (hO_3 20 (by decide)).trans (pe hs rfl rfl)
 clear t0 t1 t2 t3 t4 t5 t6 t7 hd
 replace ho_2 := ho_2.nx hb_5
 have HB_2 := below_from HB_1 hb_5
 have ta_1_67 : a_1.eval (.tmp 67) = .slice A_1 ((sealR ks ns zs bs).1.length) (c_1) := hV_1 0 67 rfl rfl
 have ta_1_68 : a_1.eval (.tmp 68) = .string (strB ((sealR ks ns zs bs).1)) := hV_1 1 68 rfl rfl
 have ta_1_69 : a_1.eval (.tmp 69) = .slice A_2 ((sealR ks ns zs bs).1.length) (c_2) := hV_1 2 69 rfl rfl
 have ta_1_70 : a_1.eval (.tmp 70) = .string (strB ((sealR ks ns zs bs).1)) := hV_1 3 70 rfl rfl
 have ta_1_71 : a_1.eval (.tmp 71) = .bool (false) := hV_1 4 71 rfl rfl
 have ta_1_72 : a_1.eval (.tmp 72) = .bool (false) := hV_1 5 72 rfl rfl
 have ta_1_73 : a_1.eval (.tmp 73) = .int .i64 (((sealR ks ns zs bs).2 : Nat) : Int) := hV_1 6 73 rfl rfl
 have ta_1_74 : a_1.eval (.tmp 74) = .int .i64 (((sealR ks ns zs bs).2 : Nat) : Int) := hV_1 7 74 rfl rfl
 have ta_1_75 : a_1.eval (.tmp 75) = .bool (false) := hV_1 8 75 rfl rfl
 have ta_1_76 : a_1.eval (.tmp 76) = .bool (false) := hV_1 9 76 rfl rfl
 have ta_1_77 : a_1.eval (.tmp 77) = .bool (false) := hV_1 10 77 rfl rfl
 have ta_1_78 : a_1.eval (.tmp 78) = .int .u64 ((num : Nat) : Int) := hV_1 11 78 rfl rfl
 have x_1 := hV_1 12 79 rfl rfl
 obtain ⟨A_7, c_7, hv_3, hO_4⟩ := x_1
 replace hO_4 := hO_4.mono HB_1.size
 have ta_1_80 : a_1.eval (.tmp 80) = .string (strB (nonceL num)) := hV_1 13 80 rfl rfl
 have ta_1_81 : a_1.eval (.tmp 81) = .int .u64 ((num : Nat) : Int) := hV_1 14 81 rfl rfl
 have x_2 := hV_1 15 82 rfl rfl
 obtain ⟨A_8, c_8, hv_4, hO_5⟩ := x_2
 replace hO_5 := hO_5.mono HB_1.size
 have ta_1_83 : a_1.eval (.tmp 83) = .string (strB (nonceL num)) := hV_1 16 83 rfl rfl
 clear hV_1 hO_3
 simp only [List.drop_succ_cons, List.drop_zero]
 refine op_valG (e := 77) (d := 84) (v := .bool (false)) rfl rfl (by kernel_rfl) ((pm rfl).trans ta_1_77) (o_neS rfl ((pm rfl).trans ta_1_80) ((pm rfl).trans ta_1_83) rfl) ?_
 refine q_v 85 (.bool (false)) (o_pickF rfl ((pm rfl).trans ta_1_77) (pe hs_1 rfl rfl)) ?_
 refine x_nil (hK_9 _ _ ?_)
 refine w2_condF (pe hs_1 rfl rfl) ?_
 refine w2_skip ?_
 refine hK_8 _ _ ?_
 refine w2_seq (fun K_10 hK_10 => ?_)
 refine w2_seq (fun K_11 hK_11 => ?_)
 have hsl := sealR_le ks ns zs bs
 rw [hq] at hsl
 refine x_region (by kernel_rfl) ?_
 refine q_mv ((pm rfl).trans ta_1_3) ?_
 refine q_mv ((pm rfl).trans ta_1_19) ?_
 refine q_mv ((pm rfl).trans ta_1_6) ?_
 refine q_mv ((pm rfl).trans ta_1_7) ?_
 refine q_ca (vs := #[.slice A_2 ((sealR ks ns zs bs).1.length) (c_2), .int .i64 (z), .int .u8 ((x : Nat) : Int)]) Try.func11 (args3 (pe hs_1 rfl rfl) (pe hs_1 rfl rfl) (pe hs_1 rfl rfl)) (changed_any z x hx _ (ho_2).bs rfl (by omega)) (fun e_3 w_4 hR_3 => ?_)
 obtain ⟨A_9, c_9, rfl, ho_5, hb_6⟩ := hR_3
 replace ho_5 := ho_5.mono HB_2.size
 replace hO_4 := hO_4.nx hb_6
 replace hO_5 := hO_5.nx hb_6
 have HB_3 := below_from HB_2 hb_6
 refine ⟨_, rfl, ?_⟩
 refine q_v 91 (.agg #[.slice A3 (q) (c3), .slice A_9 ((sealR ks ns zs bs).1.length) (c_9)]) (o_bld (vs := #[(0, .slice A3 (q) (c3)), (1, .slice A_9 ((sealR ks ns zs bs).1.length) (c_9))]) (v := .agg #[.slice A3 (q) (c3), .slice A_9 ((sealR ks ns zs bs).1.length) (c_9)]) rfl (bld2 (pe hs_1 rfl rfl) (pe hs_1 rfl rfl)) (fun _ => by kernel_rfl)) ?_
 refine q_v 92 (.int .i64 ((0 : Nat) : Int)) (o_move rfl rfl) ?_
 refine x_nil (hK_11 _ _ ?_)
 refine w2_block (fun K_12 hK_12 => ?_)
 refine x_loop (fun nn aa ww => ∃ (K : Nat), nn = 2 - K ∧ aa.tmps.size = 123 ∧ aa.defers = [] ∧ aa.eval (.tmp 0) = .slice A0 (m) (c0) ∧ aa.eval (.tmp 1) = .slice A1 (k) (c1) ∧ aa.eval (.tmp 2) = .slice A2 (p) (c2) ∧ aa.eval (.tmp 3) = .slice A3 (q) (c3) ∧ aa.eval (.tmp 91) = .agg #[.slice A3 (q) (c3), .slice A_9 ((sealR ks ns zs bs).1.length) (c_9)] ∧ aa.eval (.tmp 92) = .int .i64 ((K : Nat) : Int) ∧ K ≤ 2 ∧ Own ww w.heap.size A_9 c_9 (chgL ((sealR ks ns zs bs).1) (at64 z) x) ∧ Below w.heap.size w ww) (2) ?_ ?_
 ·exact ⟨0, rfl, (by rw [putsR_size]; exact hs_1), (by rw [putsR_defers]; exact hd_1), ((pm rfl).trans ta_1_0), ((pm rfl).trans ta_1_1), ((pm rfl).trans ta_1_2), ((pm rfl).trans ta_1_3), (pe hs_1 rfl rfl), (pe hs_1 rfl rfl), (by omega), ho_5, HB_3⟩
 ·skip
  clear ta_1_0 ta_1_1 ta_1_2 ta_1_3 ta_1_4 ta_1_5 ta_1_6 ta_1_7 ta_1_16 ta_1_27 ta_1_28 ta_1_29 ta_1_30 ta_1_31 ta_1_32 ta_1_33 ta_1_34 ta_1_35 ta_1_36 ta_1_37 ta_1_38 ta_1_39 ta_1_40 ta_1_41 ta_1_42 ta_1_43 ta_1_44 ta_1_46 ta_1_52 ta_1_53 ta_1_54 ta_1_55 ta_1_56 ta_1_51 ta_1_57 ta_1_58 ta_1_17 ta_1_18 ta_1_60 ta_1_61 ta_1_62 ta_1_63 ta_1_64 ta_1_59 ta_1_65 ta_1_66 ta_1_19 ta_1_20 ta_1_67 ta_1_68 ta_1_69 ta_1_70 ta_1_71 ta_1_72 ta_1_73 ta_1_74 ta_1_75 ta_1_76 ta_1_77 ta_1_78 hv_3 ta_1_80 ta_1_81 hv_4 ta_1_83 hd_1 ho_5 HB_3
  rintro nna_2 a_2 w_5 ⟨K, hm_1, hs_2, hd_2, ta_2_0, ta_2_1, ta_2_2, ta_2_3, ta_2_91, ta_2_92, hK, hC, HBL⟩ K_13 hK_13
  subst hm_1
  refine w2_sr (fun K_14 hK_14 => ?_)
  refine q_v 93 (.bool (decide (K < 2))) (o_lss (m := K) (n := 2) rfl ((pm rfl).trans ta_2_92) rfl) ?_
  refine x_nil (hK_14 _ _ ?_)
  refine w2_seq (fun K_15 hK_15 => ?_)
  refine w2_split (pe hs_2 rfl rfl) (fun h_1 => ?_) (fun h_1 => ?_)
  ·simp only [DD9] at h_1
   have hlt : K < 2 := h_1
   refine w2_skip ?_
   refine hK_15 _ _ ?_
   refine w2_seq (fun K_16 hK_16 => ?_)
   refine w2_block (fun K_17 hK_17 => ?_)
   refine w2_sr (fun K_18 hK_18 => ?_)
   have hY_1 := Bs.pick K (h3.below HBL) (hC).bs
   have hY_1l : (pick2 K bs (chgL ((sealR ks ns zs bs).1) (at64 z) x)).length = pick2 K q ((sealR ks ns zs bs).1.length) := pick_len K hq (by rw [chgL_length])
   have hY_1q : pick2 K q ((sealR ks ns zs bs).1.length) ≤ 17592186044416 := pick_le K (by omega) (by omega)
   refine q_v 94 (.slice ((pick2 K A3 A_9)) (pick2 K q ((sealR ks ns zs bs).1.length)) (pick2 K c3 c_9)) (o_idx2 (e := 22) rfl ((pm rfl).trans ta_2_91) ((pm rfl).trans ta_2_92) hlt (fun _ => by kernel_rfl) ⟨by kernel_rfl, by kernel_rfl⟩) ?_
   refine q_at (pe hs_2 rfl rfl) ?_
   refine x_nil (hK_18 _ _ ?_)
   refine w2_sr (fun K_19 hK_19 => ?_)
   refine q_mv ((pm rfl).trans ta_2_0) ?_
   refine q_mv ((pm rfl).trans ta_2_1) ?_
   refine q_mv ((pm rfl).trans ta_2_2) ?_
   refine q_mv (pe hs_2 rfl rfl) ?_
   refine q_ca (vs := #[.slice A0 (m) (c0), .slice A1 (k) (c1), .slice A2 (p) (c2), .slice ((pick2 K A3 A_9)) (pick2 K q ((sealR ks ns zs bs).1.length)) (pick2 K c3 c_9)]) Try.func12 (args4 (pe hs_2 rfl rfl) (pe hs_2 rfl rfl) (pe hs_2 rfl rfl) (pe hs_2 rfl rfl)) (OpenR_any _ (h0.below HBL) (h1.below HBL) (h2.below HBL) hY_1 hm hk hp hY_1l (by omega) hY_1q) (fun e_4 w_6 hR_4 => ?_)
   obtain ⟨A_10, c_10, rfl, ho_6, hb_7⟩ := hR_4
   replace ho_6 := ho_6.mono HBL.size
   replace hC := hC.nx hb_7
   replace hY_1 := hY_1.nx hb_7
   have HB_4 := below_from HBL hb_7
   refine ⟨_, rfl, ?_⟩
   refine q_mv (pe hs_2 rfl rfl) ?_
   refine q_ex (v := .slice A_10 ((openR ks ns zs (pick2 K bs (chgL ((sealR ks ns zs bs).1) (at64 z) x))).1.length) (c_10)) (pe hs_2 rfl rfl) rfl ?_
   refine q_ex (v := .int .i64 (((openR ks ns zs (pick2 K bs (chgL ((sealR ks ns zs bs).1) (at64 z) x))).2 : Nat) : Int)) (pe hs_2 rfl rfl) rfl ?_
   refine q_at (pe hs_2 rfl rfl) ?_
   refine q_at (pe hs_2 rfl rfl) ?_
   refine x_nil (hK_19 _ _ ?_)
   refine w2_sr (fun K_20 hK_20 => ?_)
   refine q_mv ((pm rfl).trans ta_2_0) ?_
   refine q_mv ((pm rfl).trans ta_2_1) ?_
   refine q_mv ((pm rfl).trans ta_2_2) ?_
   refine q_mv (pe hs_2 rfl rfl) ?_
   refine q_ca (vs := #[.slice A0 (m) (c0), .slice A1 (k) (c1), .slice A2 (p) (c2), .slice ((pick2 K A3 A_9)) (pick2 K q ((sealR ks ns zs bs).1.length)) (pick2 K c3 c_9)]) Try.func13 (args4 (pe hs_2 rfl rfl) (pe hs_2 rfl rfl) (pe hs_2 rfl rfl) (pe hs_2 rfl rfl)) (OpenWR_any _ (h0.below HB_4) (h1.below HB_4) (h2.below HB_4) hY_1 hm hk hp hY_1l (by omega) hY_1q) (fun e_5 w_7 hR_5 => ?_)
   obtain ⟨A_11, c_11, rfl, ho_7, hb_8⟩ := hR_5
   replace ho_7 := ho_7.mono HB_4.size
   replace hC := hC.nx hb_8
   replace hY_1 := hY_1.nx hb_8
   replace ho_6 := ho_6.nx hb_8
   have HB_5 := below_from HB_4 hb_8
   refine ⟨_, rfl, ?_⟩
   refine q_mv (pe hs_2 rfl rfl) ?_
   refine q_ex (v := .slice A_11 ((openR ks ns zs (pick2 K bs (chgL ((sealR ks ns zs bs).1) (at64 z) x))).1.length) (c_11)) (pe hs_2 rfl rfl) rfl ?_
   refine q_ex (v := .int .i64 (((openR ks ns zs (pick2 K bs (chgL ((sealR ks ns zs bs).1) (at64 z) x))).2 : Nat) : Int)) (pe hs_2 rfl rfl) rfl ?_
   refine q_at (pe hs_2 rfl rfl) ?_
   refine q_at (pe hs_2 rfl rfl) ?_
   refine x_nil (hK_20 _ _ ?_)
   refine w2_sr (fun K_21 hK_21 => ?_)
   refine q_mv (pe hs_2 rfl rfl) ?_
   refine q_v 112 (.string (strB ((openR ks ns zs (pick2 K bs (chgL ((sealR ks ns zs bs).1) (at64 z) x))).1))) (o_str rfl (pe hs_2 rfl rfl) (ho_6).bs rfl) ?_
   refine q_mv (pe hs_2 rfl rfl) ?_
   refine q_v 114 (.string (strB ((openR ks ns zs (pick2 K bs (chgL ((sealR ks ns zs bs).1) (at64 z) x))).1))) (o_str rfl (pe hs_2 rfl rfl) (ho_7).bs rfl) ?_
   refine q_v 115 (.bool (false)) (o_neS rfl (pe hs_2 rfl rfl) (pe hs_2 rfl rfl) rfl) ?_
   refine q_mv (pe hs_2 rfl rfl) ?_
   refine op_valG (e := 116) (d := 117) (v := .int .i64 (((openR ks ns zs (pick2 K bs (chgL ((sealR ks ns zs bs).1) (at64 z) x))).2 : Nat) : Int)) rfl rfl (by kernel_rfl) (pe hs_2 rfl rfl) (o_move rfl (pe hs_2 rfl rfl)) ?_
   refine op_valG (e := 116) (d := 118) (v := .int .i64 (((openR ks ns zs (pick2 K bs (chgL ((sealR ks ns zs bs).1) (at64 z) x))).2 : Nat) : Int)) rfl rfl (by kernel_rfl) (pe hs_2 rfl rfl) (o_move rfl (pe hs_2 rfl rfl)) ?_
   refine op_valG (e := 116) (d := 119) (v := .bool (false)) rfl rfl (by kernel_rfl) (pe hs_2 rfl rfl) (o_eq (o_neq (m := ((openR ks ns zs (pick2 K bs (chgL ((sealR ks ns zs bs).1) (at64 z) x))).2)) (n := ((openR ks ns zs (pick2 K bs (chgL ((sealR ks ns zs bs).1) (at64 z) x))).2)) rfl (pe hs_2 rfl rfl) (pe hs_2 rfl rfl)) (by simp)) ?_
   refine q_v 120 (.bool (false)) (o_pickF rfl (pe hs_2 rfl rfl) (pe hs_2 rfl rfl)) ?_
   refine x_nil (hK_21 _ _ ?_)
   refine w2_condF (pe hs_2 rfl rfl) ?_
   refine w2_skip ?_
   refine hK_17 _ _ ?_
   refine hK_16 _ _ ?_
   refine x_region (by kernel_rfl) ?_
   refine q_v 121 (.int .i64 ((K + 1 : Nat) : Int)) (o_add64 (m := K) (n := 1) rfl ((pm rfl).trans ta_2_92) rfl (by omega)) ?_
   refine q_mv (pe hs_2 rfl rfl) ?_
   refine x_nil ?_
   refine hK_13 _ _ _ ⟨K + 1, rfl, (by rw [putsR_size]; exact hs_2), (by rw [putsR_defers]; exact hd_2), ((pm rfl).trans ta_2_0), ((pm rfl).trans ta_2_1), ((pm rfl).trans ta_2_2), ((pm rfl).trans ta_2_3), ((pm rfl).trans ta_2_91), (pe hs_2 rfl rfl), (by omega), hC, HB_5⟩ ?_
   omega
  ·simp only [DD9] at h_1
   refine w2_exit ?_
   refine thn_exit ?_
   refine thn_exit ?_
   refine exb_hit ?_
   refine hK_12 _ _ ?_
   refine hK_10 _ _ ?_
   refine w2_sr (fun K_22 hK_22 => ?_)
   refine q_ca (vs := #[]) Try.func5 (args0) (awake_any _) (fun e_6 w_8 hR_6 => ?_)
   obtain ⟨rfl, hb_10⟩ := hR_6
   replace hC := hC.nx hb_10
   have HB_6 := below_from HBL hb_10
   refine ⟨_, rfl, ?_⟩
   refine q_at (pe hs_2 rfl rfl) ?_
   refine x_nil (hK_22 _ _ ?_)
   refine w2_ret ?_
   refine ret1 rfl hd_2 (pe hs_2 rfl rfl) ?_
   exact ⟨rfl, HB_6⟩
end Go.Proofs.Ytggalcdkfielkaa
