/-
  WALKS: sapperlaw9: bytes, AeadApart.
-/
import Derived.Test.YtoiamaljkodlnaaAwake9
import Derived.Test.YtoiamaljkodlnaaOps6
import Derived.Test.YtoiamaljkodlnaaRow
namespace Go.Proofs.Ytoiamaljkodlnaa
open Go.RowKit
set_option linter.unusedVariables false
set_option linter.unusedSimpArgs false
set_option maxRecDepth 100000
attribute [local irreducible] wpList wpListIn putsR

theorem lbytes32 {A : Option Addr} {c m : Nat} {xs : List Nat} (w : World) (ha : Bs w A c xs) (hm : xs.length = m) :
    Calls Try.prog 23 #[.slice A (m) (c), .int .i64 ((32 : Nat) : Int)] w fun e w' => ∃ A c, e = .returned (.slice A 32 c) ∧ Own w' w.heap.size A c (padTo 32 xs) ∧ Below w.heap.size w w' := by
  refine x_enter 12 Try.func23 rfl rfl (fun a hs hd ha0 => ?_)
  have t0 : a.eval (.tmp 0) = .slice A (m) (c) := ha0 0 _ rfl
  have t1 : a.eval (.tmp 1) = .int .i64 ((32 : Nat) : Int) := ha0 1 _ rfl
  clear ha0
  refine w2_seq (fun K_1 hK_1 => ?_)
  refine x_region (by kernel_rfl) ?_
  refine op_val (d := 4) (v := .slice none (0) (0)) rfl rfl (o_assign rfl rfl) ?_
  refine x_nil ?_
  refine hK_1 _ _ ?_
  refine w2_seq (fun K_2 hK_2 => ?_)
  refine x_region (by kernel_rfl) ?_
  refine op_val (d := 6) (v := .int .i64 ((32 : Nat) : Int)) rfl rfl (o_move rfl ((pm rfl).trans t1)) ?_
  refine op_ex (d := 7) rfl rfl (o_make (n := 32) rfl (pe hs rfl rfl) (pe hs rfl rfl) (fun _ => by kernel_rfl) (by omega)) (fun v_1 w_1 hR_1 => ?_)
  obtain ⟨g_1, rfl, ho_1, hb_1⟩ := hR_1
  refine op_val (d := 5) (v := .slice ((some ⟨g_1, 0, none⟩)) (32) (32)) rfl rfl (o_assign rfl (pe hs rfl rfl)) ?_
  refine x_nil ?_
  refine hK_2 _ _ ?_
  refine w2_seq (fun K_3 hK_3 => ?_)
  refine x_region (by kernel_rfl) ?_
  refine op_val (d := 8) (v := .slice ((some ⟨g_1, 0, none⟩)) (32) (32)) rfl rfl (o_move rfl (pe hs rfl rfl)) ?_
  refine op_val (d := 9) (v := .slice A (m) (c)) rfl rfl (o_move rfl ((pm rfl).trans t0)) ?_
  refine op_ex (d := 10) rfl rfl (o_copy rfl (pe hs rfl rfl) (pe hs rfl rfl) ho_1 (ha.below hb_1) hm (by omega) (by omega)) (fun v_2 w_2 hR_2 => ?_)
  obtain ⟨r_1, rfl, ho_2, hb_2⟩ := hR_2
  have HB_1 := hb_1.trans hb_2
  refine x_nil ?_
  refine hK_3 _ _ ?_
  refine w2_seq (fun K_4 hK_4 => ?_)
  refine x_region (by kernel_rfl) ?_
  refine op_val (d := 11) (v := .slice ((some ⟨g_1, 0, none⟩)) (32) (32)) rfl rfl (o_move rfl (pe hs rfl rfl)) ?_
  refine op_val (d := 4) (v := .slice ((some ⟨g_1, 0, none⟩)) (32) (32)) rfl rfl (o_assign rfl (pe hs rfl rfl)) ?_
  refine x_nil ?_
  refine hK_4 _ _ ?_
  refine w2_ret ?_
  refine ret1 rfl hd (pe hs rfl rfl) ?_
  exact ⟨_, _, rfl, ho_2, HB_1⟩
theorem lbytes12 {A : Option Addr} {c m : Nat} {xs : List Nat} (w : World) (ha : Bs w A c xs) (hm : xs.length = m) :
    Calls Try.prog 23 #[.slice A (m) (c), .int .i64 ((12 : Nat) : Int)] w fun e w' => ∃ A c, e = .returned (.slice A 12 c) ∧ Own w' w.heap.size A c (padTo 12 xs) ∧ Below w.heap.size w w' := by
  refine x_enter 12 Try.func23 rfl rfl (fun a hs hd ha0 => ?_)
  have t0 : a.eval (.tmp 0) = .slice A (m) (c) := ha0 0 _ rfl
  have t1 : a.eval (.tmp 1) = .int .i64 ((12 : Nat) : Int) := ha0 1 _ rfl
  clear ha0
  refine w2_seq (fun K_1 hK_1 => ?_)
  refine x_region (by kernel_rfl) ?_
  refine op_val (d := 4) (v := .slice none (0) (0)) rfl rfl (o_assign rfl rfl) ?_
  refine x_nil ?_
  refine hK_1 _ _ ?_
  refine w2_seq (fun K_2 hK_2 => ?_)
  refine x_region (by kernel_rfl) ?_
  refine op_val (d := 6) (v := .int .i64 ((12 : Nat) : Int)) rfl rfl (o_move rfl ((pm rfl).trans t1)) ?_
  refine op_ex (d := 7) rfl rfl (o_make (n := 12) rfl (pe hs rfl rfl) (pe hs rfl rfl) (fun _ => by kernel_rfl) (by omega)) (fun v_1 w_1 hR_1 => ?_)
  obtain ⟨g_1, rfl, ho_1, hb_1⟩ := hR_1
  refine op_val (d := 5) (v := .slice ((some ⟨g_1, 0, none⟩)) (12) (12)) rfl rfl (o_assign rfl (pe hs rfl rfl)) ?_
  refine x_nil ?_
  refine hK_2 _ _ ?_
  refine w2_seq (fun K_3 hK_3 => ?_)
  refine x_region (by kernel_rfl) ?_
  refine op_val (d := 8) (v := .slice ((some ⟨g_1, 0, none⟩)) (12) (12)) rfl rfl (o_move rfl (pe hs rfl rfl)) ?_
  refine op_val (d := 9) (v := .slice A (m) (c)) rfl rfl (o_move rfl ((pm rfl).trans t0)) ?_
  refine op_ex (d := 10) rfl rfl (o_copy rfl (pe hs rfl rfl) (pe hs rfl rfl) ho_1 (ha.below hb_1) hm (by omega) (by omega)) (fun v_2 w_2 hR_2 => ?_)
  obtain ⟨r_1, rfl, ho_2, hb_2⟩ := hR_2
  have HB_1 := hb_1.trans hb_2
  refine x_nil ?_
  refine hK_3 _ _ ?_
  refine w2_seq (fun K_4 hK_4 => ?_)
  refine x_region (by kernel_rfl) ?_
  refine op_val (d := 11) (v := .slice ((some ⟨g_1, 0, none⟩)) (12) (12)) rfl rfl (o_move rfl (pe hs rfl rfl)) ?_
  refine op_val (d := 4) (v := .slice ((some ⟨g_1, 0, none⟩)) (12) (12)) rfl rfl (o_assign rfl (pe hs rfl rfl)) ?_
  refine x_nil ?_
  refine hK_4 _ _ ?_
  refine w2_ret ?_
  refine ret1 rfl hd (pe hs rfl rfl) ?_
  exact ⟨_, _, rfl, ho_2, HB_1⟩
theorem getD8 {xs : List Nat} (h : ∀ x ∈ xs, x < 256) (i : Nat) : xs.getD i 0 < 256 := by
  rw [List.getD_eq_getElem?_getD]
  by_cases hi : i < xs.length
  · rw [List.getElem?_eq_getElem hi]; exact h _ (List.getElem_mem hi)
  · rw [List.getElem?_eq_none (by omega)]; decide
theorem sealL_getD (ks ns ad bs : List Nat) (i : Nat) (h : i < bs.length) : (sealL ks ns ad bs).getD i 0 = bs.getD i 0 ^^^ keyAt ks ns 1 i := by
  unfold sealL
  rw [List.getD_eq_getElem?_getD, List.getElem?_append_left (by rw [xorS_length]; exact h), ← List.getD_eq_getElem?_getD, xorS_getD _ _ _ _ _ h]
theorem take_getD (bs : List Nat) (n i : Nat) (h : i < n) : (bs.take n).getD i 0 = bs.getD i 0 := by
  rw [List.getD_eq_getElem?_getD, List.getElem?_take, if_pos h, ← List.getD_eq_getElem?_getD]
theorem seal_apart (ks ns ad ad' bs cs : List Nat) (n i : Nat) (h : i < n) (hb : n ≤ bs.length) (hc : n ≤ cs.length) :
    (sealL ks ns ad (bs.take n)).getD i 0 ^^^ (sealL ks ns ad' (cs.take n)).getD i 0 = bs.getD i 0 ^^^ cs.getD i 0 := by
  rw [sealL_getD _ _ _ _ _ (by rw [List.length_take]; omega), sealL_getD _ _ _ _ _ (by rw [List.length_take]; omega), take_getD _ _ _ h, take_getD _ _ _ h]
  generalize keyAt ks ns 1 i = k
  rw [Nat.xor_assoc, Nat.xor_comm k, Nat.xor_assoc, Nat.xor_self, Nat.xor_zero]
theorem ApartA {A0 A1 A2 A3 A4 : Option Addr} {c0 c1 c2 c3 c4 m k p q r : Nat} {ks ns zs bs cs : List Nat} (w : World) (h0 : Bs w A0 c0 ks) (h1 : Bs w A1 c1 ns) (h2 : Bs w A2 c2 zs) (h3 : Bs w A3 c3 bs) (h4 : Bs w A4 c4 cs) (hm : ks.length = m) (hk : ns.length = k) (hp : zs.length = p) (hq : bs.length = q) (hr : cs.length = r) (hp2 : 200 < p) :
    Calls Try.prog 5 #[.slice A0 (m) (c0), .slice A1 (k) (c1), .slice A2 (p) (c2), .slice A3 (q) (c3), .slice A4 (r) (c4)] w fun e w' => e = .returned (.bool true) ∧ Below w.heap.size w w' := by
  refine x_enter 100 Try.func5 rfl rfl (fun a hs hd ha0 => ?_)
  have t0 : a.eval (.tmp 0) = .slice A0 (m) (c0) := ha0 0 _ rfl
  have t1 : a.eval (.tmp 1) = .slice A1 (k) (c1) := ha0 1 _ rfl
  have t2 : a.eval (.tmp 2) = .slice A2 (p) (c2) := ha0 2 _ rfl
  have t3 : a.eval (.tmp 3) = .slice A3 (q) (c3) := ha0 3 _ rfl
  have t4 : a.eval (.tmp 4) = .slice A4 (r) (c4) := ha0 4 _ rfl
  clear ha0
  refine w2_seq (fun K_1 hK_1 => ?_)
  refine x_region (by kernel_rfl) ?_
  refine op_val (d := 10) (v := .bool (false)) rfl rfl (o_assign rfl rfl) ?_
  refine x_nil ?_
  refine hK_1 _ _ ?_
  refine w2_seq (fun K_2 hK_2 => ?_)
  refine x_region (by kernel_rfl) ?_
  refine op_val (d := 19) (v := .slice A3 (q) (c3)) rfl rfl (o_move rfl ((pm rfl).trans t3)) ?_
  refine op_val (d := 20) (v := .int .i64 ((q : Nat) : Int)) rfl rfl (o_len rfl (pe hs rfl rfl)) ?_
  refine op_val (d := 21) (v := .slice A4 (r) (c4)) rfl rfl (o_move rfl ((pm rfl).trans t4)) ?_
  refine op_val (d := 22) (v := .int .i64 ((r : Nat) : Int)) rfl rfl (o_len rfl (pe hs rfl rfl)) ?_
  refine op_val (d := 23) (v := .int .i64 ((min q r : Nat) : Int)) rfl rfl (o_min rfl (pe hs rfl rfl) (pe hs rfl rfl)) ?_
  refine op_val (d := 11) (v := .int .i64 ((min q r : Nat) : Int)) rfl rfl (o_assign rfl (pe hs rfl rfl)) ?_
  refine x_nil ?_
  refine hK_2 _ _ ?_
  refine w2_seq (fun K_3 hK_3 => ?_)
  refine w2_seq (fun K_4 hK_4 => ?_)
  refine x_region (by kernel_rfl) ?_
  refine op_val (d := 24) (v := .slice A2 (p) (c2)) rfl rfl (o_move rfl ((pm rfl).trans t2)) ?_
  refine op_val (d := 25) (v := .int .i64 ((p : Nat) : Int)) rfl rfl (o_len rfl (pe hs rfl rfl)) ?_
  refine op_val (d := 26) (v := .bool (true)) rfl rfl (o_eq (o_gtr (m := p) (n := 200) rfl (pe hs rfl rfl) rfl) (by rw [decide_eq_true hp2])) ?_
  refine op_val (d := 27) (v := .bool (true)) rfl rfl (o_move rfl (pe hs rfl rfl)) ?_
  refine op_left (e := 27) rfl rfl (by kernel_rfl) (pe hs rfl rfl) rfl ?_
  refine op_left (e := 27) rfl rfl (by kernel_rfl) (pe hs rfl rfl) rfl ?_
  refine op_val (d := 30) (v := .bool (true)) rfl rfl (o_pickT rfl (pe hs rfl rfl) rfl) ?_
  refine x_nil ?_
  refine hK_4 _ _ ?_
  refine w2_condT (pe hs rfl rfl) ?_
  refine w2_seq (fun K_5 hK_5 => ?_)
  refine x_region (by kernel_rfl) ?_
  refine op_call (vs := #[]) rfl rfl (exec_call Try.func22 (by kernel_rfl) (by kernel_rfl) _ rfl _ _ (args0)) (awake_any _) (fun e_1 w_1 hR_1 => ?_)
  obtain ⟨rfl, hb_2⟩ := hR_1
  refine ⟨_, rfl, ?_⟩
  refine op_val (d := 10) (v := .bool (true)) rfl rfl (o_assign rfl (pe hs rfl rfl)) ?_
  refine x_nil ?_
  refine hK_5 _ _ ?_
  refine w2_ret ?_
  refine thn_ret ?_
  refine ret1 rfl hd (pe hs rfl rfl) ?_
  exact ⟨rfl, hb_2⟩
theorem ApartB {A0 A1 A2 A3 A4 : Option Addr} {c0 c1 c2 c3 c4 m k p q r : Nat} {ks ns zs bs cs : List Nat} (w : World) (h0 : Bs w A0 c0 ks) (h1 : Bs w A1 c1 ns) (h2 : Bs w A2 c2 zs) (h3 : Bs w A3 c3 bs) (h4 : Bs w A4 c4 cs) (hm : ks.length = m) (hk : ns.length = k) (hp : zs.length = p) (hq : bs.length = q) (hr : cs.length = r) (hp2 : p ≤ 200) (hn3 : 300 < min q r) :
    Calls Try.prog 5 #[.slice A0 (m) (c0), .slice A1 (k) (c1), .slice A2 (p) (c2), .slice A3 (q) (c3), .slice A4 (r) (c4)] w fun e w' => e = .returned (.bool true) ∧ Below w.heap.size w w' := by
  refine x_enter 100 Try.func5 rfl rfl (fun a hs hd ha0 => ?_)
  have t0 : a.eval (.tmp 0) = .slice A0 (m) (c0) := ha0 0 _ rfl
  have t1 : a.eval (.tmp 1) = .slice A1 (k) (c1) := ha0 1 _ rfl
  have t2 : a.eval (.tmp 2) = .slice A2 (p) (c2) := ha0 2 _ rfl
  have t3 : a.eval (.tmp 3) = .slice A3 (q) (c3) := ha0 3 _ rfl
  have t4 : a.eval (.tmp 4) = .slice A4 (r) (c4) := ha0 4 _ rfl
  clear ha0
  refine w2_seq (fun K_1 hK_1 => ?_)
  refine x_region (by kernel_rfl) ?_
  refine op_val (d := 10) (v := .bool (false)) rfl rfl (o_assign rfl rfl) ?_
  refine x_nil ?_
  refine hK_1 _ _ ?_
  refine w2_seq (fun K_2 hK_2 => ?_)
  refine x_region (by kernel_rfl) ?_
  refine op_val (d := 19) (v := .slice A3 (q) (c3)) rfl rfl (o_move rfl ((pm rfl).trans t3)) ?_
  refine op_val (d := 20) (v := .int .i64 ((q : Nat) : Int)) rfl rfl (o_len rfl (pe hs rfl rfl)) ?_
  refine op_val (d := 21) (v := .slice A4 (r) (c4)) rfl rfl (o_move rfl ((pm rfl).trans t4)) ?_
  refine op_val (d := 22) (v := .int .i64 ((r : Nat) : Int)) rfl rfl (o_len rfl (pe hs rfl rfl)) ?_
  refine op_val (d := 23) (v := .int .i64 ((min q r : Nat) : Int)) rfl rfl (o_min rfl (pe hs rfl rfl) (pe hs rfl rfl)) ?_
  refine op_val (d := 11) (v := .int .i64 ((min q r : Nat) : Int)) rfl rfl (o_assign rfl (pe hs rfl rfl)) ?_
  refine x_nil ?_
  refine hK_2 _ _ ?_
  refine w2_seq (fun K_3 hK_3 => ?_)
  refine w2_seq (fun K_4 hK_4 => ?_)
  refine x_region (by kernel_rfl) ?_
  refine op_val (d := 24) (v := .slice A2 (p) (c2)) rfl rfl (o_move rfl ((pm rfl).trans t2)) ?_
  refine op_val (d := 25) (v := .int .i64 ((p : Nat) : Int)) rfl rfl (o_len rfl (pe hs rfl rfl)) ?_
  refine op_val (d := 26) (v := .bool (false)) rfl rfl (o_eq (o_gtr (m := p) (n := 200) rfl (pe hs rfl rfl) rfl) (by rw [decide_eq_false (by omega)])) ?_
  refine op_val (d := 27) (v := .bool (false)) rfl rfl (o_move rfl (pe hs rfl rfl)) ?_
  refine op_valG (e := 27) (d := 28) (v := .int .i64 ((min q r : Nat) : Int)) rfl rfl (by kernel_rfl) (pe hs rfl rfl) (o_move rfl (pe hs rfl rfl)) ?_
  refine op_valG (e := 27) (d := 29) (v := .bool (true)) rfl rfl (by kernel_rfl) (pe hs rfl rfl) (o_eq (o_gtr (m := (min q r)) (n := 300) rfl (pe hs rfl rfl) rfl) (by rw [decide_eq_true hn3])) ?_
  refine op_val (d := 30) (v := .bool (true)) rfl rfl (o_pickF rfl (pe hs rfl rfl) (pe hs rfl rfl)) ?_
  refine x_nil ?_
  refine hK_4 _ _ ?_
  refine w2_condT (pe hs rfl rfl) ?_
  refine w2_seq (fun K_5 hK_5 => ?_)
  refine x_region (by kernel_rfl) ?_
  refine op_call (vs := #[]) rfl rfl (exec_call Try.func22 (by kernel_rfl) (by kernel_rfl) _ rfl _ _ (args0)) (awake_any _) (fun e_1 w_1 hR_1 => ?_)
  obtain ⟨rfl, hb_2⟩ := hR_1
  refine ⟨_, rfl, ?_⟩
  refine op_val (d := 10) (v := .bool (true)) rfl rfl (o_assign rfl (pe hs rfl rfl)) ?_
  refine x_nil ?_
  refine hK_5 _ _ ?_
  refine w2_ret ?_
  refine thn_ret ?_
  refine ret1 rfl hd (pe hs rfl rfl) ?_
  exact ⟨rfl, hb_2⟩
set_option maxHeartbeats 1000000 in
theorem ApartC {A0 A1 A2 A3 A4 : Option Addr} {c0 c1 c2 c3 c4 m k p q r : Nat} {ks ns zs bs cs : List Nat} (w : World) (h0 : Bs w A0 c0 ks) (h1 : Bs w A1 c1 ns) (h2 : Bs w A2 c2 zs) (h3 : Bs w A3 c3 bs) (h4 : Bs w A4 c4 cs) (hm : ks.length = m) (hk : ns.length = k) (hp : zs.length = p) (hq : bs.length = q) (hr : cs.length = r) (hp2 : p ≤ 200) (hn3 : min q r ≤ 300) :
    Calls Try.prog 5 #[.slice A0 (m) (c0), .slice A1 (k) (c1), .slice A2 (p) (c2), .slice A3 (q) (c3), .slice A4 (r) (c4)] w fun e w' => e = .returned (.bool true) ∧ Below w.heap.size w w' := by
  refine x_enter 100 Try.func5 rfl rfl (fun a hs hd ha0 => ?_)
  have t0 : a.eval (.tmp 0) = .slice A0 (m) (c0) := ha0 0 _ rfl
  have t1 : a.eval (.tmp 1) = .slice A1 (k) (c1) := ha0 1 _ rfl
  have t2 : a.eval (.tmp 2) = .slice A2 (p) (c2) := ha0 2 _ rfl
  have t3 : a.eval (.tmp 3) = .slice A3 (q) (c3) := ha0 3 _ rfl
  have t4 : a.eval (.tmp 4) = .slice A4 (r) (c4) := ha0 4 _ rfl
  clear ha0
  refine w2_seq (fun K_1 hK_1 => ?_)
  refine x_region (by kernel_rfl) ?_
  refine op_val (d := 10) (v := .bool (false)) rfl rfl (o_assign rfl rfl) ?_
  refine x_nil ?_
  refine hK_1 _ _ ?_
  refine w2_seq (fun K_2 hK_2 => ?_)
  refine x_region (by kernel_rfl) ?_
  refine op_val (d := 19) (v := .slice A3 (q) (c3)) rfl rfl (o_move rfl ((pm rfl).trans t3)) ?_
  refine op_val (d := 20) (v := .int .i64 ((q : Nat) : Int)) rfl rfl (o_len rfl (pe hs rfl rfl)) ?_
  refine op_val (d := 21) (v := .slice A4 (r) (c4)) rfl rfl (o_move rfl ((pm rfl).trans t4)) ?_
  refine op_val (d := 22) (v := .int .i64 ((r : Nat) : Int)) rfl rfl (o_len rfl (pe hs rfl rfl)) ?_
  refine op_val (d := 23) (v := .int .i64 ((min q r : Nat) : Int)) rfl rfl (o_min rfl (pe hs rfl rfl) (pe hs rfl rfl)) ?_
  refine op_val (d := 11) (v := .int .i64 ((min q r : Nat) : Int)) rfl rfl (o_assign rfl (pe hs rfl rfl)) ?_
  refine x_nil ?_
  refine hK_2 _ _ ?_
  refine w2_seq (fun K_3 hK_3 => ?_)
  refine w2_seq (fun K_4 hK_4 => ?_)
  refine x_region (by kernel_rfl) ?_
  refine op_val (d := 24) (v := .slice A2 (p) (c2)) rfl rfl (o_move rfl ((pm rfl).trans t2)) ?_
  refine op_val (d := 25) (v := .int .i64 ((p : Nat) : Int)) rfl rfl (o_len rfl (pe hs rfl rfl)) ?_
  refine op_val (d := 26) (v := .bool (false)) rfl rfl (o_eq (o_gtr (m := p) (n := 200) rfl (pe hs rfl rfl) rfl) (by rw [decide_eq_false (by omega)])) ?_
  refine op_val (d := 27) (v := .bool (false)) rfl rfl (o_move rfl (pe hs rfl rfl)) ?_
  refine op_valG (e := 27) (d := 28) (v := .int .i64 ((min q r : Nat) : Int)) rfl rfl (by kernel_rfl) (pe hs rfl rfl) (o_move rfl (pe hs rfl rfl)) ?_
  refine op_valG (e := 27) (d := 29) (v := .bool (false)) rfl rfl (by kernel_rfl) (pe hs rfl rfl) (o_eq (o_gtr (m := (min q r)) (n := 300) rfl (pe hs rfl rfl) rfl) (by rw [decide_eq_false (by omega)])) ?_
  refine op_val (d := 30) (v := .bool (false)) rfl rfl (o_pickF rfl (pe hs rfl rfl) (pe hs rfl rfl)) ?_
  refine x_nil ?_
  refine hK_4 _ _ ?_
  refine w2_condF (pe hs rfl rfl) ?_
  refine w2_skip ?_
  refine hK_3 _ _ ?_
  refine w2_seq (fun K_5 hK_5 => ?_)
  have hbl : (bs.take (min q r)).length = min q r := by rw [List.length_take, hq]; omega
  have hcl : (cs.take (min q r)).length = min q r := by rw [List.length_take, hr]; omega
  refine x_region (by kernel_rfl) ?_
  refine op_val (d := 32) (v := .slice A0 (m) (c0)) rfl rfl (o_move rfl ((pm rfl).trans t0)) ?_
  refine op_call (vs := #[.slice A0 (m) (c0), .int .i64 ((32 : Nat) : Int)]) rfl rfl (exec_call Try.func23 (by kernel_rfl) (by kernel_rfl) _ rfl _ _ (args2 (pe hs rfl rfl) rfl)) (lbytes32 _ h0 hm) (fun e_1 w_1 hR_1 => ?_)
  obtain ⟨A_1, c_1, rfl, ho_1, hb_1⟩ := hR_1
  refine ⟨_, rfl, ?_⟩
  refine op_val (d := 34) (v := .slice A1 (k) (c1)) rfl rfl (o_move rfl ((pm rfl).trans t1)) ?_
  refine op_call (vs := #[.slice A1 (k) (c1), .int .i64 ((12 : Nat) : Int)]) rfl rfl (exec_call Try.func23 (by kernel_rfl) (by kernel_rfl) _ rfl _ _ (args2 (pe hs rfl rfl) rfl)) (lbytes12 _ (h1.below hb_1) hk) (fun e_2 w_2 hR_2 => ?_)
  obtain ⟨A_2, c_2, rfl, ho_2, hb_2⟩ := hR_2
  replace ho_2 := ho_2.mono hb_1.size
  replace ho_1 := ho_1.nx hb_2
  have HB_1 := below_from hb_1 hb_2
  refine ⟨_, rfl, ?_⟩
  refine op_val (d := 12) (v := .slice A_1 (32) (c_1)) rfl rfl (o_assign rfl (pe hs rfl rfl)) ?_
  refine op_val (d := 13) (v := .slice A_2 (12) (c_2)) rfl rfl (o_assign rfl (pe hs rfl rfl)) ?_
  refine x_nil ?_
  refine hK_5 _ _ ?_
  refine w2_seq (fun K_6 hK_6 => ?_)
  refine x_region (by kernel_rfl) ?_
  refine op_val (d := 37) (v := .slice A_1 (32) (c_1)) rfl rfl (o_move rfl (pe hs rfl rfl)) ?_
  refine op_val (d := 38) (v := .slice A_2 (12) (c_2)) rfl rfl (o_move rfl (pe hs rfl rfl)) ?_
  refine op_val (d := 39) (v := .slice A2 (p) (c2)) rfl rfl (o_move rfl ((pm rfl).trans t2)) ?_
  refine op_val (d := 40) (v := .slice A3 (q) (c3)) rfl rfl (o_move rfl ((pm rfl).trans t3)) ?_
  refine op_val (d := 41) (v := .int .i64 ((min q r : Nat) : Int)) rfl rfl (o_move rfl (pe hs rfl rfl)) ?_
  have hS_1 := Bs.sub (h3.below HB_1) (l := 0) (q := min q r) (m := c3) (by omega) (by have := (h3.below HB_1).le; omega) (Nat.le_refl _)
  rw [subA_zero, List.drop_zero, Nat.sub_zero, Nat.sub_zero] at hS_1
  refine op_val (d := 42) (v := .slice A3 (min q r) (c3)) rfl rfl (o_eq (o_sliceH (h := min q r) rfl (pe hs rfl rfl) (pe hs rfl rfl) (by have := (h3.below HB_1).le; omega)) (by rw [subA_zero])) ?_
  refine op_call (vs := #[.slice A_1 (32) (c_1), .slice A_2 (12) (c_2), .slice A2 (p) (c2), .slice A3 (min q r) (c3)]) rfl rfl (exec_call Try.func24 (by kernel_rfl) (by kernel_rfl) _ rfl _ _ (args4 (pe hs rfl rfl) (pe hs rfl rfl) (pe hs rfl rfl) (pe hs rfl rfl))) (Seal_full _ (ho_1).bs (ho_2).bs (h2.below HB_1) hS_1 (by simp only [padTo_length]) (by simp only [padTo_length]) hp hbl rfl rfl (by omega) (by omega)) (fun e_3 w_3 hR_3 => ?_)
  obtain ⟨A_3, c_3, rfl, ho_3, hb_3⟩ := hR_3
  replace ho_3 := ho_3.mono HB_1.size
  replace ho_1 := ho_1.nx hb_3
  replace ho_2 := ho_2.nx hb_3
  replace hS_1 := hS_1.nx hb_3
  have HB_2 := below_from HB_1 hb_3
  refine ⟨_, rfl, ?_⟩
  refine op_val (d := 36) (v := .tuple #[.slice A_3 ((min q r) + 16) (c_3), .int .i64 ((0 : Nat) : Int)]) rfl rfl (o_move rfl (pe hs rfl rfl)) ?_
  refine op_val (d := 44) (v := .slice A_3 ((min q r) + 16) (c_3)) rfl rfl (o_extract rfl (pe hs rfl rfl) rfl) ?_
  refine op_val (d := 45) (v := .int .i64 ((0 : Nat) : Int)) rfl rfl (o_extract rfl (pe hs rfl rfl) rfl) ?_
  refine op_val (d := 14) (v := .slice A_3 ((min q r) + 16) (c_3)) rfl rfl (o_assign rfl (pe hs rfl rfl)) ?_
  refine op_val (d := 15) (v := .int .i64 ((0 : Nat) : Int)) rfl rfl (o_assign rfl (pe hs rfl rfl)) ?_
  refine x_nil ?_
  refine hK_6 _ _ ?_
  refine w2_seq (fun K_7 hK_7 => ?_)
  refine x_region (by kernel_rfl) ?_
  refine op_val (d := 47) (v := .slice A_1 (32) (c_1)) rfl rfl (o_move rfl (pe hs rfl rfl)) ?_
  refine op_val (d := 48) (v := .slice A_2 (12) (c_2)) rfl rfl (o_move rfl (pe hs rfl rfl)) ?_
  refine op_val (d := 49) (v := .slice A4 (r) (c4)) rfl rfl (o_move rfl ((pm rfl).trans t4)) ?_
  refine op_val (d := 50) (v := .int .i64 ((min q r : Nat) : Int)) rfl rfl (o_move rfl (pe hs rfl rfl)) ?_
  have hS_2 := Bs.sub (h4.below HB_2) (l := 0) (q := min q r) (m := c4) (by omega) (by have := (h4.below HB_2).le; omega) (Nat.le_refl _)
  rw [subA_zero, List.drop_zero, Nat.sub_zero, Nat.sub_zero] at hS_2
  refine op_val (d := 51) (v := .slice A4 (min q r) (c4)) rfl rfl (o_eq (o_sliceH (h := min q r) rfl (pe hs rfl rfl) (pe hs rfl rfl) (by have := (h4.below HB_2).le; omega)) (by rw [subA_zero])) ?_
  refine op_call (vs := #[.slice A_1 (32) (c_1), .slice A_2 (12) (c_2), .slice none (0) (0), .slice A4 (min q r) (c4)]) rfl rfl (exec_call Try.func24 (by kernel_rfl) (by kernel_rfl) _ rfl _ _ (args4 (pe hs rfl rfl) (pe hs rfl rfl) rfl (pe hs rfl rfl))) (Seal_full _ (ho_1).bs (ho_2).bs (Bs.nil _) hS_2 (by simp only [padTo_length]) (by simp only [padTo_length]) (by simp only [List.length_nil]) hcl rfl rfl (by omega) (by omega)) (fun e_4 w_4 hR_4 => ?_)
  obtain ⟨A_4, c_4, rfl, ho_4, hb_4⟩ := hR_4
  replace ho_4 := ho_4.mono HB_2.size
  replace ho_1 := ho_1.nx hb_4
  replace ho_2 := ho_2.nx hb_4
  replace ho_3 := ho_3.nx hb_4
  replace hS_2 := hS_2.nx hb_4
  have HB_3 := below_from HB_2 hb_4
  refine ⟨_, rfl, ?_⟩
  refine op_val (d := 46) (v := .tuple #[.slice A_4 ((min q r) + 16) (c_4), .int .i64 ((0 : Nat) : Int)]) rfl rfl (o_move rfl (pe hs rfl rfl)) ?_
  refine op_val (d := 53) (v := .slice A_4 ((min q r) + 16) (c_4)) rfl rfl (o_extract rfl (pe hs rfl rfl) rfl) ?_
  refine op_val (d := 54) (v := .int .i64 ((0 : Nat) : Int)) rfl rfl (o_extract rfl (pe hs rfl rfl) rfl) ?_
  refine op_val (d := 16) (v := .slice A_4 ((min q r) + 16) (c_4)) rfl rfl (o_assign rfl (pe hs rfl rfl)) ?_
  refine op_val (d := 17) (v := .int .i64 ((0 : Nat) : Int)) rfl rfl (o_assign rfl (pe hs rfl rfl)) ?_
  refine x_nil ?_
  refine hK_7 _ _ ?_
  refine w2_seq (fun K_8 hK_8 => ?_)
  refine w2_seq (fun K_9 hK_9 => ?_)
  refine x_region (by kernel_rfl) ?_
  refine op_val (d := 55) (v := .int .i64 ((0 : Nat) : Int)) rfl rfl (o_move rfl (pe hs rfl rfl)) ?_
  refine op_val (d := 56) (v := .bool (false)) rfl rfl (o_eq (o_neq (m := 0) (n := 0) rfl (pe hs rfl rfl) rfl) rfl) ?_
  refine op_val (d := 57) (v := .bool (false)) rfl rfl (o_move rfl (pe hs rfl rfl)) ?_
  refine op_valG (e := 57) (d := 58) (v := .int .i64 ((0 : Nat) : Int)) rfl rfl (by kernel_rfl) (pe hs rfl rfl) (o_move rfl (pe hs rfl rfl)) ?_
  refine op_valG (e := 57) (d := 59) (v := .bool (false)) rfl rfl (by kernel_rfl) (pe hs rfl rfl) (o_eq (o_neq (m := 0) (n := 0) rfl (pe hs rfl rfl) rfl) rfl) ?_
  refine op_val (d := 60) (v := .bool (false)) rfl rfl (o_pickF rfl (pe hs rfl rfl) (pe hs rfl rfl)) ?_
  refine op_val (d := 61) (v := .bool (false)) rfl rfl (o_move rfl (pe hs rfl rfl)) ?_
  refine op_valG (e := 61) (d := 62) (v := .slice A_3 ((min q r) + 16) (c_3)) rfl rfl (by kernel_rfl) (pe hs rfl rfl) (o_move rfl (pe hs rfl rfl)) ?_
  refine op_valG (e := 61) (d := 63) (v := .int .i64 (((min q r) + 16 : Nat) : Int)) rfl rfl (by kernel_rfl) (pe hs rfl rfl) (o_len rfl (pe hs rfl rfl)) ?_
  refine op_valG (e := 61) (d := 64) (v := .int .i64 ((min q r : Nat) : Int)) rfl rfl (by kernel_rfl) (pe hs rfl rfl) (o_move rfl (pe hs rfl rfl)) ?_
  refine op_valG (e := 61) (d := 65) (v := .int .i64 (((min q r) + 16 : Nat) : Int)) rfl rfl (by kernel_rfl) (pe hs rfl rfl) (o_add64 (m := (min q r)) (n := 16) rfl (pe hs rfl rfl) rfl (by omega)) ?_
  refine op_valG (e := 61) (d := 66) (v := .bool (false)) rfl rfl (by kernel_rfl) (pe hs rfl rfl) (o_eq (o_neq (m := ((min q r) + 16)) (n := ((min q r) + 16)) rfl (pe hs rfl rfl) (pe hs rfl rfl)) (by simp)) ?_
  refine op_val (d := 67) (v := .bool (false)) rfl rfl (o_pickF rfl (pe hs rfl rfl) (pe hs rfl rfl)) ?_
  refine op_val (d := 68) (v := .bool (false)) rfl rfl (o_move rfl (pe hs rfl rfl)) ?_
  refine op_valG (e := 68) (d := 69) (v := .slice A_4 ((min q r) + 16) (c_4)) rfl rfl (by kernel_rfl) (pe hs rfl rfl) (o_move rfl (pe hs rfl rfl)) ?_
  refine op_valG (e := 68) (d := 70) (v := .int .i64 (((min q r) + 16 : Nat) : Int)) rfl rfl (by kernel_rfl) (pe hs rfl rfl) (o_len rfl (pe hs rfl rfl)) ?_
  refine op_valG (e := 68) (d := 71) (v := .int .i64 ((min q r : Nat) : Int)) rfl rfl (by kernel_rfl) (pe hs rfl rfl) (o_move rfl (pe hs rfl rfl)) ?_
  refine op_valG (e := 68) (d := 72) (v := .int .i64 (((min q r) + 16 : Nat) : Int)) rfl rfl (by kernel_rfl) (pe hs rfl rfl) (o_add64 (m := (min q r)) (n := 16) rfl (pe hs rfl rfl) rfl (by omega)) ?_
  refine op_valG (e := 68) (d := 73) (v := .bool (false)) rfl rfl (by kernel_rfl) (pe hs rfl rfl) (o_eq (o_neq (m := ((min q r) + 16)) (n := ((min q r) + 16)) rfl (pe hs rfl rfl) (pe hs rfl rfl)) (by simp)) ?_
  refine op_val (d := 74) (v := .bool (false)) rfl rfl (o_pickF rfl (pe hs rfl rfl) (pe hs rfl rfl)) ?_
  refine x_nil ?_
  refine hK_9 _ _ ?_
  refine w2_condF (pe hs rfl rfl) ?_
  refine w2_skip ?_
  refine hK_8 _ _ ?_
  refine w2_seq (fun K_10 hK_10 => ?_)
  refine w2_seq (fun K_11 hK_11 => ?_)
  refine x_region (by kernel_rfl) ?_
  refine op_val (d := 75) (v := .int .i64 ((min q r : Nat) : Int)) rfl rfl (o_move rfl (pe hs rfl rfl)) ?_
  refine op_val (d := 76) (v := .int .i64 ((0 : Nat) : Int)) rfl rfl (o_move rfl rfl) ?_
  refine x_nil ?_
  have hXl : (sealL (padTo 32 ks) (padTo 12 ns) zs (bs.take (min q r))).length = min q r + 16 := by rw [sealL_length, hbl]
  have hYl : (sealL (padTo 32 ks) (padTo 12 ns) [] (cs.take (min q r))).length = min q r + 16 := by rw [sealL_length, hcl]
  refine hK_11 _ _ ?_
  refine w2_block (fun K_12 hK_12 => ?_)
  refine x_loop (fun nn aa ww => ∃ (K x1 y1 : Nat) (X1 Y1 : Option Addr), nn = min q r - K ∧ aa.tmps.size = 100 ∧ aa.defers = [] ∧ aa.eval (.tmp 0) = .slice A0 (m) (c0) ∧ aa.eval (.tmp 1) = .slice A1 (k) (c1) ∧ aa.eval (.tmp 2) = .slice A2 (p) (c2) ∧ aa.eval (.tmp 3) = .slice A3 (q) (c3) ∧ aa.eval (.tmp 4) = .slice A4 (r) (c4) ∧ aa.eval (.tmp 11) = .int .i64 ((min q r : Nat) : Int) ∧ aa.eval (.tmp 12) = .slice A_1 (32) (c_1) ∧ aa.eval (.tmp 13) = .slice A_2 (12) (c_2) ∧ aa.eval (.tmp 14) = .slice X1 (min q r + 16) (x1) ∧ aa.eval (.tmp 15) = .int .i64 ((0 : Nat) : Int) ∧ aa.eval (.tmp 16) = .slice Y1 (min q r + 16) (y1) ∧ aa.eval (.tmp 17) = .int .i64 ((0 : Nat) : Int) ∧ aa.eval (.tmp 19) = .slice A3 (q) (c3) ∧ aa.eval (.tmp 20) = .int .i64 ((q : Nat) : Int) ∧ aa.eval (.tmp 21) = .slice A4 (r) (c4) ∧ aa.eval (.tmp 22) = .int .i64 ((r : Nat) : Int) ∧ aa.eval (.tmp 23) = .int .i64 ((min q r : Nat) : Int) ∧ aa.eval (.tmp 24) = .slice A2 (p) (c2) ∧ aa.eval (.tmp 25) = .int .i64 ((p : Nat) : Int) ∧ aa.eval (.tmp 26) = .bool (false) ∧ aa.eval (.tmp 27) = .bool (false) ∧ aa.eval (.tmp 28) = .int .i64 ((min q r : Nat) : Int) ∧ aa.eval (.tmp 29) = .bool (false) ∧ aa.eval (.tmp 30) = .bool (false) ∧ aa.eval (.tmp 32) = .slice A0 (m) (c0) ∧ aa.eval (.tmp 33) = .slice A_1 (32) (c_1) ∧ aa.eval (.tmp 34) = .slice A1 (k) (c1) ∧ aa.eval (.tmp 35) = .slice A_2 (12) (c_2) ∧ aa.eval (.tmp 36) = .tuple #[.slice A_3 ((min q r) + 16) (c_3), .int .i64 ((0 : Nat) : Int)] ∧ aa.eval (.tmp 37) = .slice A_1 (32) (c_1) ∧ aa.eval (.tmp 38) = .slice A_2 (12) (c_2) ∧ aa.eval (.tmp 39) = .slice A2 (p) (c2) ∧ aa.eval (.tmp 40) = .slice A3 (q) (c3) ∧ aa.eval (.tmp 41) = .int .i64 ((min q r : Nat) : Int) ∧ aa.eval (.tmp 42) = .slice A3 (min q r) (c3) ∧ aa.eval (.tmp 43) = .tuple #[.slice A_3 ((min q r) + 16) (c_3), .int .i64 ((0 : Nat) : Int)] ∧ aa.eval (.tmp 44) = .slice A_3 ((min q r) + 16) (c_3) ∧ aa.eval (.tmp 45) = .int .i64 ((0 : Nat) : Int) ∧ aa.eval (.tmp 46) = .tuple #[.slice A_4 ((min q r) + 16) (c_4), .int .i64 ((0 : Nat) : Int)] ∧ aa.eval (.tmp 47) = .slice A_1 (32) (c_1) ∧ aa.eval (.tmp 48) = .slice A_2 (12) (c_2) ∧ aa.eval (.tmp 49) = .slice A4 (r) (c4) ∧ aa.eval (.tmp 50) = .int .i64 ((min q r : Nat) : Int) ∧ aa.eval (.tmp 51) = .slice A4 (min q r) (c4) ∧ aa.eval (.tmp 52) = .tuple #[.slice A_4 ((min q r) + 16) (c_4), .int .i64 ((0 : Nat) : Int)] ∧ aa.eval (.tmp 53) = .slice A_4 ((min q r) + 16) (c_4) ∧ aa.eval (.tmp 54) = .int .i64 ((0 : Nat) : Int) ∧ aa.eval (.tmp 55) = .int .i64 ((0 : Nat) : Int) ∧ aa.eval (.tmp 56) = .bool (false) ∧ aa.eval (.tmp 57) = .bool (false) ∧ aa.eval (.tmp 58) = .int .i64 ((0 : Nat) : Int) ∧ aa.eval (.tmp 59) = .bool (false) ∧ aa.eval (.tmp 60) = .bool (false) ∧ aa.eval (.tmp 61) = .bool (false) ∧ aa.eval (.tmp 62) = .slice A_3 ((min q r) + 16) (c_3) ∧ aa.eval (.tmp 63) = .int .i64 (((min q r) + 16 : Nat) : Int) ∧ aa.eval (.tmp 64) = .int .i64 ((min q r : Nat) : Int) ∧ aa.eval (.tmp 65) = .int .i64 (((min q r) + 16 : Nat) : Int) ∧ aa.eval (.tmp 66) = .bool (false) ∧ aa.eval (.tmp 67) = .bool (false) ∧ aa.eval (.tmp 68) = .bool (false) ∧ aa.eval (.tmp 69) = .slice A_4 ((min q r) + 16) (c_4) ∧ aa.eval (.tmp 70) = .int .i64 (((min q r) + 16 : Nat) : Int) ∧ aa.eval (.tmp 71) = .int .i64 ((min q r : Nat) : Int) ∧ aa.eval (.tmp 72) = .int .i64 (((min q r) + 16 : Nat) : Int) ∧ aa.eval (.tmp 73) = .bool (false) ∧ aa.eval (.tmp 74) = .bool (false) ∧ aa.eval (.tmp 75) = .int .i64 ((min q r : Nat) : Int) ∧ aa.eval (.tmp 76) = .int .i64 ((K : Nat) : Int) ∧ K ≤ min q r ∧ Own ww w.heap.size X1 x1 (sealL (padTo 32 ks) (padTo 12 ns) zs (bs.take (min q r))) ∧ Own ww w.heap.size Y1 y1 (sealL (padTo 32 ks) (padTo 12 ns) [] (cs.take (min q r))) ∧ Below w.heap.size w ww) (min q r) ?_ ?_
  · exact ⟨0, c_3, c_4, A_3, A_4, rfl, (by rw [putsR_size]; exact hs), (by rw [putsR_defers]; exact hd), ((pm rfl).trans t0), ((pm rfl).trans t1), ((pm rfl).trans t2), ((pm rfl).trans t3), ((pm rfl).trans t4), (pe hs rfl rfl), (pe hs rfl rfl), (pe hs rfl rfl), (pe hs rfl rfl), (pe hs rfl rfl), (pe hs rfl rfl), (pe hs rfl rfl), (pe hs rfl rfl), (pe hs rfl rfl), (pe hs rfl rfl), (pe hs rfl rfl), (pe hs rfl rfl), (pe hs rfl rfl), (pe hs rfl rfl), (pe hs rfl rfl), (pe hs rfl rfl), (pe hs rfl rfl), (pe hs rfl rfl), (pe hs rfl rfl), (pe hs rfl rfl), (pe hs rfl rfl), (pe hs rfl rfl), (pe hs rfl rfl), (pe hs rfl rfl), (pe hs rfl rfl), (pe hs rfl rfl), (pe hs rfl rfl), (pe hs rfl rfl), (pe hs rfl rfl), (pe hs rfl rfl), (pe hs rfl rfl), (pe hs rfl rfl), (pe hs rfl rfl), (pe hs rfl rfl), (pe hs rfl rfl), (pe hs rfl rfl), (pe hs rfl rfl), (pe hs rfl rfl), (pe hs rfl rfl), (pe hs rfl rfl), (pe hs rfl rfl), (pe hs rfl rfl), (pe hs rfl rfl), (pe hs rfl rfl), (pe hs rfl rfl), (pe hs rfl rfl), (pe hs rfl rfl), (pe hs rfl rfl), (pe hs rfl rfl), (pe hs rfl rfl), (pe hs rfl rfl), (pe hs rfl rfl), (pe hs rfl rfl), (pe hs rfl rfl), (pe hs rfl rfl), (pe hs rfl rfl), (pe hs rfl rfl), (pe hs rfl rfl), (pe hs rfl rfl), (pe hs rfl rfl), (pe hs rfl rfl), (pe hs rfl rfl), (pe hs rfl rfl), (pe hs rfl rfl), (by omega), ho_3, ho_4, HB_3⟩
  · skip
    clear t0 t1 t2 t3 t4 hd ho_1 ho_2 ho_3 ho_4 HB_3
    rintro nna_1 a_1 w_5 ⟨K, x1, y1, X1, Y1, hm_1, hs_1, hd_1, ta_1_0, ta_1_1, ta_1_2, ta_1_3, ta_1_4, ta_1_11, ta_1_12, ta_1_13, ta_1_14, ta_1_15, ta_1_16, ta_1_17, ta_1_19, ta_1_20, ta_1_21, ta_1_22, ta_1_23, ta_1_24, ta_1_25, ta_1_26, ta_1_27, ta_1_28, ta_1_29, ta_1_30, ta_1_32, ta_1_33, ta_1_34, ta_1_35, ta_1_36, ta_1_37, ta_1_38, ta_1_39, ta_1_40, ta_1_41, ta_1_42, ta_1_43, ta_1_44, ta_1_45, ta_1_46, ta_1_47, ta_1_48, ta_1_49, ta_1_50, ta_1_51, ta_1_52, ta_1_53, ta_1_54, ta_1_55, ta_1_56, ta_1_57, ta_1_58, ta_1_59, ta_1_60, ta_1_61, ta_1_62, ta_1_63, ta_1_64, ta_1_65, ta_1_66, ta_1_67, ta_1_68, ta_1_69, ta_1_70, ta_1_71, ta_1_72, ta_1_73, ta_1_74, ta_1_75, ta_1_76, hK, hX, hY, HBL⟩ K_13 hK_13
    subst hm_1
    refine w2_seq (fun K_14 hK_14 => ?_)
    refine x_region (by kernel_rfl) ?_
    refine op_val (d := 77) (v := .bool (decide (K < (min q r)))) rfl rfl (o_lss (m := K) (n := (min q r)) rfl ((pm rfl).trans ta_1_76) ((pm rfl).trans ta_1_75)) ?_
    refine x_nil ?_
    refine hK_14 _ _ ?_
    refine w2_seq (fun K_15 hK_15 => ?_)
    refine w2_split (pe hs_1 rfl rfl) (fun h_1 => ?_) (fun h_1 => ?_)
    · simp only [decide_eq_true_eq, decide_eq_false_iff_not, Bool.not_eq_true', Bool.not_eq_false', Bool.not_true, Bool.not_false, Nat.not_lt, Nat.not_le] at h_1
      have hlt : K < min q r := h_1
      have b1 := getD8 hX.b8 K
      have b2 := getD8 hY.b8 K
      have b3 := getD8 h3.b8 K
      have b4 := getD8 h4.b8 K
      refine w2_skip ?_
      refine hK_15 _ _ ?_
      refine w2_seq (fun K_16 hK_16 => ?_)
      refine w2_block (fun K_17 hK_17 => ?_)
      refine w2_seq (fun K_18 hK_18 => ?_)
      refine x_region (by kernel_rfl) ?_
      refine op_val (d := 78) (v := .int .i64 ((K : Nat) : Int)) rfl rfl (o_move rfl ((pm rfl).trans ta_1_76)) ?_
      refine op_val (d := 18) (v := .int .i64 ((K : Nat) : Int)) rfl rfl (o_assign rfl (pe hs_1 rfl rfl)) ?_
      refine x_nil ?_
      refine hK_18 _ _ ?_
      refine w2_seq (fun K_19 hK_19 => ?_)
      refine x_drawn 18 [fun _ v => v = .slice X1 (min q r + 16) (x1), fun _ v => v = .int .i64 ((K : Nat) : Int), fun _ v => v = .pointer (atA X1 (K)), fun _ v => v = .int .u8 (((sealL (padTo 32 ks) (padTo 12 ns) zs (bs.take (min q r))).getD (K) 0 : Nat) : Int), fun _ v => v = .slice Y1 (min q r + 16) (y1), fun _ v => v = .int .i64 ((K : Nat) : Int), fun _ v => v = .pointer (atA Y1 (K)), fun _ v => v = .int .u8 (((sealL (padTo 32 ks) (padTo 12 ns) [] (cs.take (min q r))).getD (K) 0 : Nat) : Int), fun _ v => v = .int .u8 ((((sealL (padTo 32 ks) (padTo 12 ns) zs (bs.take (min q r))).getD (K) 0) ^^^ ((sealL (padTo 32 ks) (padTo 12 ns) [] (cs.take (min q r))).getD (K) 0) : Nat) : Int), fun _ v => v = .slice A3 (q) (c3), fun _ v => v = .int .i64 ((K : Nat) : Int), fun _ v => v = .pointer (atA A3 (K)), fun _ v => v = .int .u8 ((bs.getD (K) 0 : Nat) : Int), fun _ v => v = .slice A4 (r) (c4), fun _ v => v = .int .i64 ((K : Nat) : Int), fun _ v => v = .pointer (atA A4 (K)), fun _ v => v = .int .u8 ((cs.getD (K) 0 : Nat) : Int), fun _ v => v = .int .u8 (((bs.getD (K) 0) ^^^ (cs.getD (K) 0) : Nat) : Int)] [79, 80, 81, 82, 83, 84, 85, 86, 87, 88, 89, 90, 91, 92, 93, 94, 95, 96] hs_1 hd_1 (by kernel_rfl) (by kernel_rfl) (by kernel_rfl) (by kernel_rfl) (by kernel_rfl) ⟨stLit, stLit, stLit, stLit, stLit, stLit, stLit, stLit, stLit, stLit, stLit, stLit, stLit, stLit, stLit, stLit, stLit, stLit, trivial⟩ ⟨(step_ok rfl (fun a' w' hb' hO hD => by
          have d_1 : a'.eval (.tmp 14) = .slice X1 (min q r + 16) (x1) := (hO 14 (by decide)).trans ((pm rfl).trans ta_1_14)
          exact .inl ⟨_, _, (o_move rfl d_1), rfl, Below.refl _ _⟩)),
(step_ok rfl (fun a' w' hb' hO hD => by
          have d_2 : a'.eval (.tmp 18) = .int .i64 ((K : Nat) : Int) := (hO 18 (by decide)).trans (pe hs_1 rfl rfl)
          exact .inl ⟨_, _, (o_move rfl d_2), rfl, Below.refl _ _⟩)),
(step_ok rfl (fun a' w' hb' hO hD => by
          have d_3 : a'.eval (.tmp 79) = .slice X1 (min q r + 16) (x1) := hD 0 79 (by kernel_rfl) rfl
          have d_4 : a'.eval (.tmp 80) = .int .i64 ((K : Nat) : Int) := hD 1 80 (by kernel_rfl) rfl
          exact .inl ⟨_, _, (o_ix (k := K) rfl d_3 d_4 (by omega) (((hX.nx hb')).bs.some (by rw [hXl]; omega))), rfl, Below.refl _ _⟩)),
(step_ok rfl (fun a' w' hb' hO hD => by
          have d_5 : a'.eval (.tmp 81) = .pointer (atA X1 (K)) := hD 2 81 (by kernel_rfl) rfl
          exact .inl ⟨_, _, (o_ld8 rfl d_5 ((hX.nx hb')).bs (by rw [hXl]; omega) rfl), rfl, Below.refl _ _⟩)),
(step_ok rfl (fun a' w' hb' hO hD => by
          have d_6 : a'.eval (.tmp 16) = .slice Y1 (min q r + 16) (y1) := (hO 16 (by decide)).trans ((pm rfl).trans ta_1_16)
          exact .inl ⟨_, _, (o_move rfl d_6), rfl, Below.refl _ _⟩)),
(step_ok rfl (fun a' w' hb' hO hD => by
          have d_7 : a'.eval (.tmp 18) = .int .i64 ((K : Nat) : Int) := (hO 18 (by decide)).trans (pe hs_1 rfl rfl)
          exact .inl ⟨_, _, (o_move rfl d_7), rfl, Below.refl _ _⟩)),
(step_ok rfl (fun a' w' hb' hO hD => by
          have d_8 : a'.eval (.tmp 83) = .slice Y1 (min q r + 16) (y1) := hD 4 83 (by kernel_rfl) rfl
          have d_9 : a'.eval (.tmp 84) = .int .i64 ((K : Nat) : Int) := hD 5 84 (by kernel_rfl) rfl
          exact .inl ⟨_, _, (o_ix (k := K) rfl d_8 d_9 (by omega) (((hY.nx hb')).bs.some (by rw [hYl]; omega))), rfl, Below.refl _ _⟩)),
(step_ok rfl (fun a' w' hb' hO hD => by
          have d_10 : a'.eval (.tmp 85) = .pointer (atA Y1 (K)) := hD 6 85 (by kernel_rfl) rfl
          exact .inl ⟨_, _, (o_ld8 rfl d_10 ((hY.nx hb')).bs (by rw [hYl]; omega) rfl), rfl, Below.refl _ _⟩)),
(step_ok rfl (fun a' w' hb' hO hD => by
          have d_11 : a'.eval (.tmp 82) = .int .u8 (((sealL (padTo 32 ks) (padTo 12 ns) zs (bs.take (min q r))).getD (K) 0 : Nat) : Int) := hD 3 82 (by kernel_rfl) rfl
          have d_12 : a'.eval (.tmp 86) = .int .u8 (((sealL (padTo 32 ks) (padTo 12 ns) [] (cs.take (min q r))).getD (K) 0 : Nat) : Int) := hD 7 86 (by kernel_rfl) rfl
          exact .inl ⟨_, _, (o_bits (m := ((sealL (padTo 32 ks) (padTo 12 ns) zs (bs.take (min q r))).getD (K) 0)) (n := ((sealL (padTo 32 ks) (padTo 12 ns) [] (cs.take (min q r))).getD (K) 0)) (((sealL (padTo 32 ks) (padTo 12 ns) zs (bs.take (min q r))).getD (K) 0) ^^^ ((sealL (padTo 32 ks) (padTo 12 ns) [] (cs.take (min q r))).getD (K) 0)) rfl d_11 d_12 (by decide) (u8_xor_nat _ _ (by omega) (by omega))), rfl, Below.refl _ _⟩)),
(step_ok rfl (fun a' w' hb' hO hD => by
          have d_13 : a'.eval (.tmp 3) = .slice A3 (q) (c3) := (hO 3 (by decide)).trans ((pm rfl).trans ta_1_3)
          exact .inl ⟨_, _, (o_move rfl d_13), rfl, Below.refl _ _⟩)),
(step_ok rfl (fun a' w' hb' hO hD => by
          have d_14 : a'.eval (.tmp 18) = .int .i64 ((K : Nat) : Int) := (hO 18 (by decide)).trans (pe hs_1 rfl rfl)
          exact .inl ⟨_, _, (o_move rfl d_14), rfl, Below.refl _ _⟩)),
(step_ok rfl (fun a' w' hb' hO hD => by
          have d_15 : a'.eval (.tmp 88) = .slice A3 (q) (c3) := hD 9 88 (by kernel_rfl) rfl
          have d_16 : a'.eval (.tmp 89) = .int .i64 ((K : Nat) : Int) := hD 10 89 (by kernel_rfl) rfl
          exact .inl ⟨_, _, (o_ix (k := K) rfl d_15 d_16 (by omega) ((h3.below (below_from HBL hb')).some (by rw [hq]; omega))), rfl, Below.refl _ _⟩)),
(step_ok rfl (fun a' w' hb' hO hD => by
          have d_17 : a'.eval (.tmp 90) = .pointer (atA A3 (K)) := hD 11 90 (by kernel_rfl) rfl
          exact .inl ⟨_, _, (o_ld8 rfl d_17 (h3.below (below_from HBL hb')) (by rw [hq]; omega) rfl), rfl, Below.refl _ _⟩)),
(step_ok rfl (fun a' w' hb' hO hD => by
          have d_18 : a'.eval (.tmp 4) = .slice A4 (r) (c4) := (hO 4 (by decide)).trans ((pm rfl).trans ta_1_4)
          exact .inl ⟨_, _, (o_move rfl d_18), rfl, Below.refl _ _⟩)),
(step_ok rfl (fun a' w' hb' hO hD => by
          have d_19 : a'.eval (.tmp 18) = .int .i64 ((K : Nat) : Int) := (hO 18 (by decide)).trans (pe hs_1 rfl rfl)
          exact .inl ⟨_, _, (o_move rfl d_19), rfl, Below.refl _ _⟩)),
(step_ok rfl (fun a' w' hb' hO hD => by
          have d_20 : a'.eval (.tmp 92) = .slice A4 (r) (c4) := hD 13 92 (by kernel_rfl) rfl
          have d_21 : a'.eval (.tmp 93) = .int .i64 ((K : Nat) : Int) := hD 14 93 (by kernel_rfl) rfl
          exact .inl ⟨_, _, (o_ix (k := K) rfl d_20 d_21 (by omega) ((h4.below (below_from HBL hb')).some (by rw [hr]; omega))), rfl, Below.refl _ _⟩)),
(step_ok rfl (fun a' w' hb' hO hD => by
          have d_22 : a'.eval (.tmp 94) = .pointer (atA A4 (K)) := hD 15 94 (by kernel_rfl) rfl
          exact .inl ⟨_, _, (o_ld8 rfl d_22 (h4.below (below_from HBL hb')) (by rw [hr]; omega) rfl), rfl, Below.refl _ _⟩)),
(step_ok rfl (fun a' w' hb' hO hD => by
          have d_23 : a'.eval (.tmp 91) = .int .u8 ((bs.getD (K) 0 : Nat) : Int) := hD 12 91 (by kernel_rfl) rfl
          have d_24 : a'.eval (.tmp 95) = .int .u8 ((cs.getD (K) 0 : Nat) : Int) := hD 16 95 (by kernel_rfl) rfl
          exact .inl ⟨_, _, (o_bits (m := (bs.getD (K) 0)) (n := (cs.getD (K) 0)) ((bs.getD (K) 0) ^^^ (cs.getD (K) 0)) rfl d_23 d_24 (by decide) (u8_xor_nat _ _ (by omega) (by omega))), rfl, Below.refl _ _⟩)), trivial⟩ (fun a_2 w_6 hs_2 hd_2 hb_5 hO_1 hV_1 => ?_)
      have ta_2_0 : a_2.eval (.tmp 0) = .slice A0 (m) (c0) := (hO_1 0 (by decide)).trans ((pm rfl).trans ta_1_0)
      have ta_2_1 : a_2.eval (.tmp 1) = .slice A1 (k) (c1) := (hO_1 1 (by decide)).trans ((pm rfl).trans ta_1_1)
      have ta_2_2 : a_2.eval (.tmp 2) = .slice A2 (p) (c2) := (hO_1 2 (by decide)).trans ((pm rfl).trans ta_1_2)
      have ta_2_3 : a_2.eval (.tmp 3) = .slice A3 (q) (c3) := (hO_1 3 (by decide)).trans ((pm rfl).trans ta_1_3)
      have ta_2_4 : a_2.eval (.tmp 4) = .slice A4 (r) (c4) := (hO_1 4 (by decide)).trans ((pm rfl).trans ta_1_4)
      have ta_2_19 : a_2.eval (.tmp 19) = .slice A3 (q) (c3) := (hO_1 19 (by decide)).trans ((pm rfl).trans ta_1_19)
      have ta_2_20 : a_2.eval (.tmp 20) = .int .i64 ((q : Nat) : Int) := (hO_1 20 (by decide)).trans ((pm rfl).trans ta_1_20)
      have ta_2_21 : a_2.eval (.tmp 21) = .slice A4 (r) (c4) := (hO_1 21 (by decide)).trans ((pm rfl).trans ta_1_21)
      have ta_2_22 : a_2.eval (.tmp 22) = .int .i64 ((r : Nat) : Int) := (hO_1 22 (by decide)).trans ((pm rfl).trans ta_1_22)
      have ta_2_23 : a_2.eval (.tmp 23) = .int .i64 ((min q r : Nat) : Int) := (hO_1 23 (by decide)).trans ((pm rfl).trans ta_1_23)
      have ta_2_11 : a_2.eval (.tmp 11) = .int .i64 ((min q r : Nat) : Int) := (hO_1 11 (by decide)).trans ((pm rfl).trans ta_1_11)
      have ta_2_24 : a_2.eval (.tmp 24) = .slice A2 (p) (c2) := (hO_1 24 (by decide)).trans ((pm rfl).trans ta_1_24)
      have ta_2_25 : a_2.eval (.tmp 25) = .int .i64 ((p : Nat) : Int) := (hO_1 25 (by decide)).trans ((pm rfl).trans ta_1_25)
      have ta_2_26 : a_2.eval (.tmp 26) = .bool (false) := (hO_1 26 (by decide)).trans ((pm rfl).trans ta_1_26)
      have ta_2_27 : a_2.eval (.tmp 27) = .bool (false) := (hO_1 27 (by decide)).trans ((pm rfl).trans ta_1_27)
      have ta_2_28 : a_2.eval (.tmp 28) = .int .i64 ((min q r : Nat) : Int) := (hO_1 28 (by decide)).trans ((pm rfl).trans ta_1_28)
      have ta_2_29 : a_2.eval (.tmp 29) = .bool (false) := (hO_1 29 (by decide)).trans ((pm rfl).trans ta_1_29)
      have ta_2_30 : a_2.eval (.tmp 30) = .bool (false) := (hO_1 30 (by decide)).trans ((pm rfl).trans ta_1_30)
      have ta_2_32 : a_2.eval (.tmp 32) = .slice A0 (m) (c0) := (hO_1 32 (by decide)).trans ((pm rfl).trans ta_1_32)
      have ta_2_33 : a_2.eval (.tmp 33) = .slice A_1 (32) (c_1) := (hO_1 33 (by decide)).trans ((pm rfl).trans ta_1_33)
      have ta_2_34 : a_2.eval (.tmp 34) = .slice A1 (k) (c1) := (hO_1 34 (by decide)).trans ((pm rfl).trans ta_1_34)
      have ta_2_35 : a_2.eval (.tmp 35) = .slice A_2 (12) (c_2) := (hO_1 35 (by decide)).trans ((pm rfl).trans ta_1_35)
      have ta_2_12 : a_2.eval (.tmp 12) = .slice A_1 (32) (c_1) := (hO_1 12 (by decide)).trans ((pm rfl).trans ta_1_12)
      have ta_2_13 : a_2.eval (.tmp 13) = .slice A_2 (12) (c_2) := (hO_1 13 (by decide)).trans ((pm rfl).trans ta_1_13)
      have ta_2_37 : a_2.eval (.tmp 37) = .slice A_1 (32) (c_1) := (hO_1 37 (by decide)).trans ((pm rfl).trans ta_1_37)
      have ta_2_38 : a_2.eval (.tmp 38) = .slice A_2 (12) (c_2) := (hO_1 38 (by decide)).trans ((pm rfl).trans ta_1_38)
      have ta_2_39 : a_2.eval (.tmp 39) = .slice A2 (p) (c2) := (hO_1 39 (by decide)).trans ((pm rfl).trans ta_1_39)
      have ta_2_40 : a_2.eval (.tmp 40) = .slice A3 (q) (c3) := (hO_1 40 (by decide)).trans ((pm rfl).trans ta_1_40)
      have ta_2_41 : a_2.eval (.tmp 41) = .int .i64 ((min q r : Nat) : Int) := (hO_1 41 (by decide)).trans ((pm rfl).trans ta_1_41)
      have ta_2_42 : a_2.eval (.tmp 42) = .slice A3 (min q r) (c3) := (hO_1 42 (by decide)).trans ((pm rfl).trans ta_1_42)
      have ta_2_43 : a_2.eval (.tmp 43) = .tuple #[.slice A_3 ((min q r) + 16) (c_3), .int .i64 ((0 : Nat) : Int)] := (hO_1 43 (by decide)).trans ((pm rfl).trans ta_1_43)
      have ta_2_36 : a_2.eval (.tmp 36) = .tuple #[.slice A_3 ((min q r) + 16) (c_3), .int .i64 ((0 : Nat) : Int)] := (hO_1 36 (by decide)).trans ((pm rfl).trans ta_1_36)
      have ta_2_44 : a_2.eval (.tmp 44) = .slice A_3 ((min q r) + 16) (c_3) := (hO_1 44 (by decide)).trans ((pm rfl).trans ta_1_44)
      have ta_2_45 : a_2.eval (.tmp 45) = .int .i64 ((0 : Nat) : Int) := (hO_1 45 (by decide)).trans ((pm rfl).trans ta_1_45)
      have ta_2_14 : a_2.eval (.tmp 14) = .slice X1 (min q r + 16) (x1) := (hO_1 14 (by decide)).trans ((pm rfl).trans ta_1_14)
      have ta_2_15 : a_2.eval (.tmp 15) = .int .i64 ((0 : Nat) : Int) := (hO_1 15 (by decide)).trans ((pm rfl).trans ta_1_15)
      have ta_2_47 : a_2.eval (.tmp 47) = .slice A_1 (32) (c_1) := (hO_1 47 (by decide)).trans ((pm rfl).trans ta_1_47)
      have ta_2_48 : a_2.eval (.tmp 48) = .slice A_2 (12) (c_2) := (hO_1 48 (by decide)).trans ((pm rfl).trans ta_1_48)
      have ta_2_49 : a_2.eval (.tmp 49) = .slice A4 (r) (c4) := (hO_1 49 (by decide)).trans ((pm rfl).trans ta_1_49)
      have ta_2_50 : a_2.eval (.tmp 50) = .int .i64 ((min q r : Nat) : Int) := (hO_1 50 (by decide)).trans ((pm rfl).trans ta_1_50)
      have ta_2_51 : a_2.eval (.tmp 51) = .slice A4 (min q r) (c4) := (hO_1 51 (by decide)).trans ((pm rfl).trans ta_1_51)
      have ta_2_52 : a_2.eval (.tmp 52) = .tuple #[.slice A_4 ((min q r) + 16) (c_4), .int .i64 ((0 : Nat) : Int)] := (hO_1 52 (by decide)).trans ((pm rfl).trans ta_1_52)
      have ta_2_46 : a_2.eval (.tmp 46) = .tuple #[.slice A_4 ((min q r) + 16) (c_4), .int .i64 ((0 : Nat) : Int)] := (hO_1 46 (by decide)).trans ((pm rfl).trans ta_1_46)
      have ta_2_53 : a_2.eval (.tmp 53) = .slice A_4 ((min q r) + 16) (c_4) := (hO_1 53 (by decide)).trans ((pm rfl).trans ta_1_53)
      have ta_2_54 : a_2.eval (.tmp 54) = .int .i64 ((0 : Nat) : Int) := (hO_1 54 (by decide)).trans ((pm rfl).trans ta_1_54)
      have ta_2_16 : a_2.eval (.tmp 16) = .slice Y1 (min q r + 16) (y1) := (hO_1 16 (by decide)).trans ((pm rfl).trans ta_1_16)
      have ta_2_17 : a_2.eval (.tmp 17) = .int .i64 ((0 : Nat) : Int) := (hO_1 17 (by decide)).trans ((pm rfl).trans ta_1_17)
      have ta_2_55 : a_2.eval (.tmp 55) = .int .i64 ((0 : Nat) : Int) := (hO_1 55 (by decide)).trans ((pm rfl).trans ta_1_55)
      have ta_2_56 : a_2.eval (.tmp 56) = .bool (false) := (hO_1 56 (by decide)).trans ((pm rfl).trans ta_1_56)
      have ta_2_57 : a_2.eval (.tmp 57) = .bool (false) := (hO_1 57 (by decide)).trans ((pm rfl).trans ta_1_57)
      have ta_2_58 : a_2.eval (.tmp 58) = .int .i64 ((0 : Nat) : Int) := (hO_1 58 (by decide)).trans ((pm rfl).trans ta_1_58)
      have ta_2_59 : a_2.eval (.tmp 59) = .bool (false) := (hO_1 59 (by decide)).trans ((pm rfl).trans ta_1_59)
      have ta_2_60 : a_2.eval (.tmp 60) = .bool (false) := (hO_1 60 (by decide)).trans ((pm rfl).trans ta_1_60)
      have ta_2_61 : a_2.eval (.tmp 61) = .bool (false) := (hO_1 61 (by decide)).trans ((pm rfl).trans ta_1_61)
      have ta_2_62 : a_2.eval (.tmp 62) = .slice A_3 ((min q r) + 16) (c_3) := (hO_1 62 (by decide)).trans ((pm rfl).trans ta_1_62)
      have ta_2_63 : a_2.eval (.tmp 63) = .int .i64 (((min q r) + 16 : Nat) : Int) := (hO_1 63 (by decide)).trans ((pm rfl).trans ta_1_63)
      have ta_2_64 : a_2.eval (.tmp 64) = .int .i64 ((min q r : Nat) : Int) := (hO_1 64 (by decide)).trans ((pm rfl).trans ta_1_64)
      have ta_2_65 : a_2.eval (.tmp 65) = .int .i64 (((min q r) + 16 : Nat) : Int) := (hO_1 65 (by decide)).trans ((pm rfl).trans ta_1_65)
      have ta_2_66 : a_2.eval (.tmp 66) = .bool (false) := (hO_1 66 (by decide)).trans ((pm rfl).trans ta_1_66)
      have ta_2_67 : a_2.eval (.tmp 67) = .bool (false) := (hO_1 67 (by decide)).trans ((pm rfl).trans ta_1_67)
      have ta_2_68 : a_2.eval (.tmp 68) = .bool (false) := (hO_1 68 (by decide)).trans ((pm rfl).trans ta_1_68)
      have ta_2_69 : a_2.eval (.tmp 69) = .slice A_4 ((min q r) + 16) (c_4) := (hO_1 69 (by decide)).trans ((pm rfl).trans ta_1_69)
      have ta_2_70 : a_2.eval (.tmp 70) = .int .i64 (((min q r) + 16 : Nat) : Int) := (hO_1 70 (by decide)).trans ((pm rfl).trans ta_1_70)
      have ta_2_71 : a_2.eval (.tmp 71) = .int .i64 ((min q r : Nat) : Int) := (hO_1 71 (by decide)).trans ((pm rfl).trans ta_1_71)
      have ta_2_72 : a_2.eval (.tmp 72) = .int .i64 (((min q r) + 16 : Nat) : Int) := (hO_1 72 (by decide)).trans ((pm rfl).trans ta_1_72)
      have ta_2_73 : a_2.eval (.tmp 73) = .bool (false) := (hO_1 73 (by decide)).trans ((pm rfl).trans ta_1_73)
      have ta_2_74 : a_2.eval (.tmp 74) = .bool (false) := (hO_1 74 (by decide)).trans ((pm rfl).trans ta_1_74)
      have ta_2_75 : a_2.eval (.tmp 75) = .int .i64 ((min q r : Nat) : Int) := (hO_1 75 (by decide)).trans ((pm rfl).trans ta_1_75)
      have ta_2_76 : a_2.eval (.tmp 76) = .int .i64 ((K : Nat) : Int) := (hO_1 76 (by decide)).trans ((pm rfl).trans ta_1_76)
      have ta_2_77 : a_2.eval (.tmp 77) = .bool (decide (K < (min q r))) := (hO_1 77 (by decide)).trans (pe hs_1 rfl rfl)
      have ta_2_78 : a_2.eval (.tmp 78) = .int .i64 ((K : Nat) : Int) := (hO_1 78 (by decide)).trans (pe hs_1 rfl rfl)
      have ta_2_18 : a_2.eval (.tmp 18) = .int .i64 ((K : Nat) : Int) := (hO_1 18 (by decide)).trans (pe hs_1 rfl rfl)
      clear ta_1_0 ta_1_1 ta_1_2 ta_1_3 ta_1_4 ta_1_19 ta_1_20 ta_1_21 ta_1_22 ta_1_23 ta_1_11 ta_1_24 ta_1_25 ta_1_26 ta_1_27 ta_1_28 ta_1_29 ta_1_30 ta_1_32 ta_1_33 ta_1_34 ta_1_35 ta_1_12 ta_1_13 ta_1_37 ta_1_38 ta_1_39 ta_1_40 ta_1_41 ta_1_42 ta_1_43 ta_1_36 ta_1_44 ta_1_45 ta_1_14 ta_1_15 ta_1_47 ta_1_48 ta_1_49 ta_1_50 ta_1_51 ta_1_52 ta_1_46 ta_1_53 ta_1_54 ta_1_16 ta_1_17 ta_1_55 ta_1_56 ta_1_57 ta_1_58 ta_1_59 ta_1_60 ta_1_61 ta_1_62 ta_1_63 ta_1_64 ta_1_65 ta_1_66 ta_1_67 ta_1_68 ta_1_69 ta_1_70 ta_1_71 ta_1_72 ta_1_73 ta_1_74 ta_1_75 ta_1_76 hd_1
      replace hX := hX.nx hb_5
      replace hY := hY.nx hb_5
      have HB_4 := below_from HBL hb_5
      have ta_2_79 : a_2.eval (.tmp 79) = .slice X1 (min q r + 16) (x1) := hV_1 0 79 rfl rfl
      have ta_2_80 : a_2.eval (.tmp 80) = .int .i64 ((K : Nat) : Int) := hV_1 1 80 rfl rfl
      have ta_2_81 : a_2.eval (.tmp 81) = .pointer (atA X1 (K)) := hV_1 2 81 rfl rfl
      have ta_2_82 : a_2.eval (.tmp 82) = .int .u8 (((sealL (padTo 32 ks) (padTo 12 ns) zs (bs.take (min q r))).getD (K) 0 : Nat) : Int) := hV_1 3 82 rfl rfl
      have ta_2_83 : a_2.eval (.tmp 83) = .slice Y1 (min q r + 16) (y1) := hV_1 4 83 rfl rfl
      have ta_2_84 : a_2.eval (.tmp 84) = .int .i64 ((K : Nat) : Int) := hV_1 5 84 rfl rfl
      have ta_2_85 : a_2.eval (.tmp 85) = .pointer (atA Y1 (K)) := hV_1 6 85 rfl rfl
      have ta_2_86 : a_2.eval (.tmp 86) = .int .u8 (((sealL (padTo 32 ks) (padTo 12 ns) [] (cs.take (min q r))).getD (K) 0 : Nat) : Int) := hV_1 7 86 rfl rfl
      have ta_2_87 : a_2.eval (.tmp 87) = .int .u8 ((((sealL (padTo 32 ks) (padTo 12 ns) zs (bs.take (min q r))).getD (K) 0) ^^^ ((sealL (padTo 32 ks) (padTo 12 ns) [] (cs.take (min q r))).getD (K) 0) : Nat) : Int) := hV_1 8 87 rfl rfl
      have ta_2_88 : a_2.eval (.tmp 88) = .slice A3 (q) (c3) := hV_1 9 88 rfl rfl
      have ta_2_89 : a_2.eval (.tmp 89) = .int .i64 ((K : Nat) : Int) := hV_1 10 89 rfl rfl
      have ta_2_90 : a_2.eval (.tmp 90) = .pointer (atA A3 (K)) := hV_1 11 90 rfl rfl
      have ta_2_91 : a_2.eval (.tmp 91) = .int .u8 ((bs.getD (K) 0 : Nat) : Int) := hV_1 12 91 rfl rfl
      have ta_2_92 : a_2.eval (.tmp 92) = .slice A4 (r) (c4) := hV_1 13 92 rfl rfl
      have ta_2_93 : a_2.eval (.tmp 93) = .int .i64 ((K : Nat) : Int) := hV_1 14 93 rfl rfl
      have ta_2_94 : a_2.eval (.tmp 94) = .pointer (atA A4 (K)) := hV_1 15 94 rfl rfl
      have ta_2_95 : a_2.eval (.tmp 95) = .int .u8 ((cs.getD (K) 0 : Nat) : Int) := hV_1 16 95 rfl rfl
      have ta_2_96 : a_2.eval (.tmp 96) = .int .u8 (((bs.getD (K) 0) ^^^ (cs.getD (K) 0) : Nat) : Int) := hV_1 17 96 rfl rfl
      clear hV_1 hO_1
      simp only [List.drop_succ_cons, List.drop_zero]
      refine op_val (d := 97) (v := .bool (false)) rfl rfl (o_eq (o_neq (m := (((sealL (padTo 32 ks) (padTo 12 ns) zs (bs.take (min q r))).getD (K) 0) ^^^ ((sealL (padTo 32 ks) (padTo 12 ns) [] (cs.take (min q r))).getD (K) 0))) (n := ((bs.getD (K) 0) ^^^ (cs.getD (K) 0))) rfl ((pm rfl).trans ta_2_87) ((pm rfl).trans ta_2_96)) (by rw [seal_apart _ _ _ _ _ _ _ _ hlt (by omega) (by omega)]; simp)) ?_
      refine x_nil ?_
      refine hK_19 _ _ ?_
      refine w2_condF (pe hs_2 rfl rfl) ?_
      refine w2_skip ?_
      refine hK_17 _ _ ?_
      refine hK_16 _ _ ?_
      refine x_region (by kernel_rfl) ?_
      refine op_val (d := 98) (v := .int .i64 ((K + 1 : Nat) : Int)) rfl rfl (o_add64 (m := K) (n := 1) rfl ((pm rfl).trans ta_2_76) rfl (by omega)) ?_
      refine op_val (d := 76) (v := .int .i64 ((K + 1 : Nat) : Int)) rfl rfl (o_move rfl (pe hs_2 rfl rfl)) ?_
      refine x_nil ?_
      refine hK_13 _ _ _ ⟨K + 1, x1, y1, X1, Y1, rfl, (by rw [putsR_size]; exact hs_2), (by rw [putsR_defers]; exact hd_2), ((pm rfl).trans ta_2_0), ((pm rfl).trans ta_2_1), ((pm rfl).trans ta_2_2), ((pm rfl).trans ta_2_3), ((pm rfl).trans ta_2_4), ((pm rfl).trans ta_2_11), ((pm rfl).trans ta_2_12), ((pm rfl).trans ta_2_13), ((pm rfl).trans ta_2_14), ((pm rfl).trans ta_2_15), ((pm rfl).trans ta_2_16), ((pm rfl).trans ta_2_17), ((pm rfl).trans ta_2_19), ((pm rfl).trans ta_2_20), ((pm rfl).trans ta_2_21), ((pm rfl).trans ta_2_22), ((pm rfl).trans ta_2_23), ((pm rfl).trans ta_2_24), ((pm rfl).trans ta_2_25), ((pm rfl).trans ta_2_26), ((pm rfl).trans ta_2_27), ((pm rfl).trans ta_2_28), ((pm rfl).trans ta_2_29), ((pm rfl).trans ta_2_30), ((pm rfl).trans ta_2_32), ((pm rfl).trans ta_2_33), ((pm rfl).trans ta_2_34), ((pm rfl).trans ta_2_35), ((pm rfl).trans ta_2_36), ((pm rfl).trans ta_2_37), ((pm rfl).trans ta_2_38), ((pm rfl).trans ta_2_39), ((pm rfl).trans ta_2_40), ((pm rfl).trans ta_2_41), ((pm rfl).trans ta_2_42), ((pm rfl).trans ta_2_43), ((pm rfl).trans ta_2_44), ((pm rfl).trans ta_2_45), ((pm rfl).trans ta_2_46), ((pm rfl).trans ta_2_47), ((pm rfl).trans ta_2_48), ((pm rfl).trans ta_2_49), ((pm rfl).trans ta_2_50), ((pm rfl).trans ta_2_51), ((pm rfl).trans ta_2_52), ((pm rfl).trans ta_2_53), ((pm rfl).trans ta_2_54), ((pm rfl).trans ta_2_55), ((pm rfl).trans ta_2_56), ((pm rfl).trans ta_2_57), ((pm rfl).trans ta_2_58), ((pm rfl).trans ta_2_59), ((pm rfl).trans ta_2_60), ((pm rfl).trans ta_2_61), ((pm rfl).trans ta_2_62), ((pm rfl).trans ta_2_63), ((pm rfl).trans ta_2_64), ((pm rfl).trans ta_2_65), ((pm rfl).trans ta_2_66), ((pm rfl).trans ta_2_67), ((pm rfl).trans ta_2_68), ((pm rfl).trans ta_2_69), ((pm rfl).trans ta_2_70), ((pm rfl).trans ta_2_71), ((pm rfl).trans ta_2_72), ((pm rfl).trans ta_2_73), ((pm rfl).trans ta_2_74), ((pm rfl).trans ta_2_75), (pe hs_2 rfl rfl), (by omega), hX, hY, HB_4⟩ ?_
      omega
    · simp only [decide_eq_true_eq, decide_eq_false_iff_not, Bool.not_eq_true', Bool.not_eq_false', Bool.not_true, Bool.not_false, Nat.not_lt, Nat.not_le] at h_1
      refine w2_exit ?_
      refine thn_exit ?_
      refine thn_exit ?_
      refine exb_hit ?_
      refine hK_12 _ _ ?_
      refine hK_10 _ _ ?_
      refine w2_seq (fun K_20 hK_20 => ?_)
      refine x_region (by kernel_rfl) ?_
      refine op_call (vs := #[]) rfl rfl (exec_call Try.func22 (by kernel_rfl) (by kernel_rfl) _ rfl _ _ (args0)) (awake_any _) (fun e_5 w_7 hR_5 => ?_)
      obtain ⟨rfl, hb_7⟩ := hR_5
      replace hX := hX.nx hb_7
      replace hY := hY.nx hb_7
      have HB_5 := below_from HBL hb_7
      refine ⟨_, rfl, ?_⟩
      refine op_val (d := 10) (v := .bool (true)) rfl rfl (o_assign rfl (pe hs_1 rfl rfl)) ?_
      refine x_nil ?_
      refine hK_20 _ _ ?_
      refine w2_ret ?_
      refine ret1 rfl hd_1 (pe hs_1 rfl rfl) ?_
      exact ⟨rfl, HB_5⟩
end Go.Proofs.Ytoiamaljkodlnaa
