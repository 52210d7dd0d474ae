/-
  WALKS: sapperlaw9.AeadBack.
-/
import Derived.Test.YtoiamaljkodlnaaApart
import Derived.Test.YtoiamaljkodlnaaOps8
namespace Go.Proofs.Ytoiamaljkodlnaa
open Go.RowKit
set_option linter.unusedVariables false
set_option linter.unusedSimpArgs false
set_option maxRecDepth 100000
attribute [local irreducible] wpList wpListIn putsR

theorem openL_short (ks ns ad bs : List Nat) (h : bs.length < 16) : openL ks ns ad bs = ([], 2) := by unfold openL; rw [if_pos h]
theorem openL_tag (ks ns ad bs : List Nat) (j x : Nat) (hj : j < 16) (hx : x ≠ 0) :
    openL ks ns ad ((sealL ks ns ad bs).set (bs.length + j) ((sealL ks ns ad bs).getD (bs.length + j) 0 ^^^ x)) = ([], 4) := by
  have hxl := xorS_length ks ns 1 bs
  have hml := macL_length ks ns ad (xorS ks ns 1 bs)
  have h1 : ((sealL ks ns ad bs).set (bs.length + j) ((sealL ks ns ad bs).getD (bs.length + j) 0 ^^^ x)).length - 16 = bs.length := by
    rw [List.length_set, sealL_length]; omega
  have h2 : (sealL ks ns ad bs).getD (bs.length + j) 0 = (macL ks ns ad (xorS ks ns 1 bs)).getD j 0 := by
    rw [sealL, List.getD_eq_getElem?_getD, List.getElem?_append_right (by omega), ← List.getD_eq_getElem?_getD, hxl, Nat.add_sub_cancel_left]
  unfold openL
  rw [if_neg (by rw [List.length_set, sealL_length]; omega), h1, h2]
  have h3 : ((sealL ks ns ad bs).set (bs.length + j) ((macL ks ns ad (xorS ks ns 1 bs)).getD j 0 ^^^ x)) = xorS ks ns 1 bs ++ (macL ks ns ad (xorS ks ns 1 bs)).set j ((macL ks ns ad (xorS ks ns 1 bs)).getD j 0 ^^^ x) := by
    rw [sealL, List.set_append_right _ _ (by omega), hxl, Nat.add_sub_cancel_left]
  rw [h3]
  have h4 : (xorS ks ns 1 bs ++ (macL ks ns ad (xorS ks ns 1 bs)).set j ((macL ks ns ad (xorS ks ns 1 bs)).getD j 0 ^^^ x)).take bs.length = xorS ks ns 1 bs := by
    rw [← hxl, List.take_left]
  have h5 : (xorS ks ns 1 bs ++ (macL ks ns ad (xorS ks ns 1 bs)).set j ((macL ks ns ad (xorS ks ns 1 bs)).getD j 0 ^^^ x)).drop bs.length = (macL ks ns ad (xorS ks ns 1 bs)).set j ((macL ks ns ad (xorS ks ns 1 bs)).getD j 0 ^^^ x) := by
    rw [← hxl, List.drop_left]
  rw [h4, h5, if_neg]
  intro h
  generalize macL ks ns ad (xorS ks ns 1 bs) = ms at h hml
  have h6 := congrArg (fun l : List Nat => l.getD j 0) h
  simp only [List.getD_eq_getElem?_getD] at h6
  rw [List.getElem?_set_self (by omega)] at h6
  simp only [Option.getD_some] at h6
  generalize ms[j]?.getD 0 = v at h6
  have h7 : v ^^^ v = v ^^^ (v ^^^ x) := by rw [← h6]
  rw [← Nat.xor_assoc, Nat.xor_self, Nat.zero_xor] at h7
  exact hx h7.symm
theorem Open_as {A B C E : Option Addr} {c d f g m k p q r : Nat} {ks ns zs bs : List Nat} (w : World) (hr : openL ks ns zs bs = ([], r)) (ha : Bs w A c ks) (hb : Bs w B d ns) (hc : Bs w C f zs) (he : Bs w E g bs) (hm : ks.length = m) (hk : ns.length = k) (hp : zs.length = p) (hq : bs.length = q) (hm32 : m = 32) (hk12 : k = 12) (hpl : p ≤ 17592186044416) (hql : q ≤ 17592186044416) :
    Calls Try.prog 29 #[.slice A (m) (c), .slice B (k) (d), .slice C (p) (f), .slice E (q) (g)] w fun e w' => ∃ A c, e = .returned (.tuple #[.slice A 0 c, .int .i64 ((r : Nat) : Int)]) ∧ Own w' w.heap.size A c [] ∧ Below w.heap.size w w' := by
  have h := Open_full w ha hb hc he hm hk hp hq hm32 hk12 hpl hql
  rw [hr] at h
  exact h
theorem BackA {A0 A1 A2 A3 : Option Addr} {c0 c1 c2 c3 m k p q : Nat} {ks ns zs bs : List Nat} (z : Int) (x : Nat) (hx : x < 256) (w : World) (h0 : Bs w A0 c0 ks) (h1 : Bs w A1 c1 ns) (h2 : Bs w A2 c2 zs) (h3 : Bs w A3 c3 bs) (hm : ks.length = m) (hk : ns.length = k) (hp : zs.length = p) (hq : bs.length = q) (hp2 : 200 < p) :
    Calls Try.prog 4 #[.slice A0 (m) (c0), .slice A1 (k) (c1), .slice A2 (p) (c2), .slice A3 (q) (c3), .int .i64 (z), .int .u8 ((x : Nat) : Int)] w fun e w' => e = .returned (.bool true) ∧ Below w.heap.size w w' := by
  refine x_enter 131 Try.func4 rfl rfl (fun a hs hd ha0 => ?_)
  have t0 : a.eval (.tmp 0) = .slice A0 (m) (c0) := ha0 0 _ rfl
  have t1 : a.eval (.tmp 1) = .slice A1 (k) (c1) := ha0 1 _ rfl
  have t2 : a.eval (.tmp 2) = .slice A2 (p) (c2) := ha0 2 _ rfl
  have t3 : a.eval (.tmp 3) = .slice A3 (q) (c3) := ha0 3 _ rfl
  have t4 : a.eval (.tmp 4) = .int .i64 (z) := ha0 4 _ rfl
  have t5 : a.eval (.tmp 5) = .int .u8 ((x : Nat) : Int) := ha0 5 _ rfl
  clear ha0
  refine w2_seq (fun K_1 hK_1 => ?_)
  refine x_region (by kernel_rfl) ?_
  refine op_val (d := 12) (v := .bool (false)) rfl rfl (o_assign rfl rfl) ?_
  refine x_nil ?_
  refine hK_1 _ _ ?_
  refine w2_seq (fun K_2 hK_2 => ?_)
  refine w2_seq (fun K_3 hK_3 => ?_)
  refine x_region (by kernel_rfl) ?_
  refine op_val (d := 24) (v := .slice A2 (p) (c2)) rfl rfl (o_move rfl ((pm rfl).trans t2)) ?_
  refine op_val (d := 25) (v := .int .i64 ((p : Nat) : Int)) rfl rfl (o_len rfl (pe hs rfl rfl)) ?_
  refine op_val (d := 26) (v := .bool (true)) rfl rfl (o_eq (o_gtr (m := p) (n := 200) rfl (pe hs rfl rfl) rfl) (by rw [decide_eq_true hp2])) ?_
  refine op_val (d := 27) (v := .bool (true)) rfl rfl (o_move rfl (pe hs rfl rfl)) ?_
  refine op_left (e := 27) rfl rfl (by kernel_rfl) (pe hs rfl rfl) rfl ?_
  refine op_left (e := 27) rfl rfl (by kernel_rfl) (pe hs rfl rfl) rfl ?_
  refine op_left (e := 27) rfl rfl (by kernel_rfl) (pe hs rfl rfl) rfl ?_
  refine op_val (d := 31) (v := .bool (true)) rfl rfl (o_pickT rfl (pe hs rfl rfl) rfl) ?_
  refine x_nil ?_
  refine hK_3 _ _ ?_
  refine w2_condT (pe hs rfl rfl) ?_
  refine w2_seq (fun K_4 hK_4 => ?_)
  refine x_region (by kernel_rfl) ?_
  refine op_call (vs := #[]) rfl rfl (exec_call Try.func22 (by kernel_rfl) (by kernel_rfl) _ rfl _ _ (args0)) (awake_any _) (fun e_1 w_1 hR_1 => ?_)
  obtain ⟨rfl, hb_2⟩ := hR_1
  refine ⟨_, rfl, ?_⟩
  refine op_val (d := 12) (v := .bool (true)) rfl rfl (o_assign rfl (pe hs rfl rfl)) ?_
  refine x_nil ?_
  refine hK_4 _ _ ?_
  refine w2_ret ?_
  refine thn_ret ?_
  refine ret1 rfl hd (pe hs rfl rfl) ?_
  exact ⟨rfl, hb_2⟩
theorem BackB {A0 A1 A2 A3 : Option Addr} {c0 c1 c2 c3 m k p q : Nat} {ks ns zs bs : List Nat} (z : Int) (x : Nat) (hx : x < 256) (w : World) (h0 : Bs w A0 c0 ks) (h1 : Bs w A1 c1 ns) (h2 : Bs w A2 c2 zs) (h3 : Bs w A3 c3 bs) (hm : ks.length = m) (hk : ns.length = k) (hp : zs.length = p) (hq : bs.length = q) (hp2 : p ≤ 200) (hn3 : 400 < q) :
    Calls Try.prog 4 #[.slice A0 (m) (c0), .slice A1 (k) (c1), .slice A2 (p) (c2), .slice A3 (q) (c3), .int .i64 (z), .int .u8 ((x : Nat) : Int)] w fun e w' => e = .returned (.bool true) ∧ Below w.heap.size w w' := by
  refine x_enter 131 Try.func4 rfl rfl (fun a hs hd ha0 => ?_)
  have t0 : a.eval (.tmp 0) = .slice A0 (m) (c0) := ha0 0 _ rfl
  have t1 : a.eval (.tmp 1) = .slice A1 (k) (c1) := ha0 1 _ rfl
  have t2 : a.eval (.tmp 2) = .slice A2 (p) (c2) := ha0 2 _ rfl
  have t3 : a.eval (.tmp 3) = .slice A3 (q) (c3) := ha0 3 _ rfl
  have t4 : a.eval (.tmp 4) = .int .i64 (z) := ha0 4 _ rfl
  have t5 : a.eval (.tmp 5) = .int .u8 ((x : Nat) : Int) := ha0 5 _ rfl
  clear ha0
  refine w2_seq (fun K_1 hK_1 => ?_)
  refine x_region (by kernel_rfl) ?_
  refine op_val (d := 12) (v := .bool (false)) rfl rfl (o_assign rfl rfl) ?_
  refine x_nil ?_
  refine hK_1 _ _ ?_
  refine w2_seq (fun K_2 hK_2 => ?_)
  refine w2_seq (fun K_3 hK_3 => ?_)
  refine x_region (by kernel_rfl) ?_
  refine op_val (d := 24) (v := .slice A2 (p) (c2)) rfl rfl (o_move rfl ((pm rfl).trans t2)) ?_
  refine op_val (d := 25) (v := .int .i64 ((p : Nat) : Int)) rfl rfl (o_len rfl (pe hs rfl rfl)) ?_
  refine op_val (d := 26) (v := .bool (false)) rfl rfl (o_eq (o_gtr (m := p) (n := 200) rfl (pe hs rfl rfl) rfl) (by rw [decide_eq_false (by omega)])) ?_
  refine op_val (d := 27) (v := .bool (false)) rfl rfl (o_move rfl (pe hs rfl rfl)) ?_
  refine op_valG (e := 27) (d := 28) (v := .slice A3 (q) (c3)) rfl rfl (by kernel_rfl) (pe hs rfl rfl) (o_move rfl ((pm rfl).trans t3)) ?_
  refine op_valG (e := 27) (d := 29) (v := .int .i64 ((q : Nat) : Int)) rfl rfl (by kernel_rfl) (pe hs rfl rfl) (o_len rfl (pe hs rfl rfl)) ?_
  refine op_valG (e := 27) (d := 30) (v := .bool (true)) rfl rfl (by kernel_rfl) (pe hs rfl rfl) (o_eq (o_gtr (m := q) (n := 400) rfl (pe hs rfl rfl) rfl) (by rw [decide_eq_true hn3])) ?_
  refine op_val (d := 31) (v := .bool (true)) rfl rfl (o_pickF rfl (pe hs rfl rfl) (pe hs rfl rfl)) ?_
  refine x_nil ?_
  refine hK_3 _ _ ?_
  refine w2_condT (pe hs rfl rfl) ?_
  refine w2_seq (fun K_4 hK_4 => ?_)
  refine x_region (by kernel_rfl) ?_
  refine op_call (vs := #[]) rfl rfl (exec_call Try.func22 (by kernel_rfl) (by kernel_rfl) _ rfl _ _ (args0)) (awake_any _) (fun e_1 w_1 hR_1 => ?_)
  obtain ⟨rfl, hb_2⟩ := hR_1
  refine ⟨_, rfl, ?_⟩
  refine op_val (d := 12) (v := .bool (true)) rfl rfl (o_assign rfl (pe hs rfl rfl)) ?_
  refine x_nil ?_
  refine hK_4 _ _ ?_
  refine w2_ret ?_
  refine thn_ret ?_
  refine ret1 rfl hd (pe hs rfl rfl) ?_
  exact ⟨rfl, hb_2⟩
set_option maxHeartbeats 1000000 in
theorem BackC {A0 A1 A2 A3 : Option Addr} {c0 c1 c2 c3 m k p q : Nat} {ks ns zs bs : List Nat} (z : Int) (x : Nat) (hx : x < 256) (w : World) (h0 : Bs w A0 c0 ks) (h1 : Bs w A1 c1 ns) (h2 : Bs w A2 c2 zs) (h3 : Bs w A3 c3 bs) (hm : ks.length = m) (hk : ns.length = k) (hp : zs.length = p) (hq : bs.length = q) (hp2 : p ≤ 200) (hn3 : q ≤ 400) :
    Calls Try.prog 4 #[.slice A0 (m) (c0), .slice A1 (k) (c1), .slice A2 (p) (c2), .slice A3 (q) (c3), .int .i64 (z), .int .u8 ((x : Nat) : Int)] w fun e w' => e = .returned (.bool true) ∧ Below w.heap.size w w' := by
  refine x_enter 131 Try.func4 rfl rfl (fun a hs hd ha0 => ?_)
  have t0 : a.eval (.tmp 0) = .slice A0 (m) (c0) := ha0 0 _ rfl
  have t1 : a.eval (.tmp 1) = .slice A1 (k) (c1) := ha0 1 _ rfl
  have t2 : a.eval (.tmp 2) = .slice A2 (p) (c2) := ha0 2 _ rfl
  have t3 : a.eval (.tmp 3) = .slice A3 (q) (c3) := ha0 3 _ rfl
  have t4 : a.eval (.tmp 4) = .int .i64 (z) := ha0 4 _ rfl
  have t5 : a.eval (.tmp 5) = .int .u8 ((x : Nat) : Int) := ha0 5 _ rfl
  clear ha0
  refine w2_seq (fun K_1 hK_1 => ?_)
  refine x_region (by kernel_rfl) ?_
  refine op_val (d := 12) (v := .bool (false)) rfl rfl (o_assign rfl rfl) ?_
  refine x_nil ?_
  refine hK_1 _ _ ?_
  refine w2_seq (fun K_2 hK_2 => ?_)
  refine w2_seq (fun K_3 hK_3 => ?_)
  refine x_region (by kernel_rfl) ?_
  refine op_val (d := 24) (v := .slice A2 (p) (c2)) rfl rfl (o_move rfl ((pm rfl).trans t2)) ?_
  refine op_val (d := 25) (v := .int .i64 ((p : Nat) : Int)) rfl rfl (o_len rfl (pe hs rfl rfl)) ?_
  refine op_val (d := 26) (v := .bool (false)) rfl rfl (o_eq (o_gtr (m := p) (n := 200) rfl (pe hs rfl rfl) rfl) (by rw [decide_eq_false (by omega)])) ?_
  refine op_val (d := 27) (v := .bool (false)) rfl rfl (o_move rfl (pe hs rfl rfl)) ?_
  refine op_valG (e := 27) (d := 28) (v := .slice A3 (q) (c3)) rfl rfl (by kernel_rfl) (pe hs rfl rfl) (o_move rfl ((pm rfl).trans t3)) ?_
  refine op_valG (e := 27) (d := 29) (v := .int .i64 ((q : Nat) : Int)) rfl rfl (by kernel_rfl) (pe hs rfl rfl) (o_len rfl (pe hs rfl rfl)) ?_
  refine op_valG (e := 27) (d := 30) (v := .bool (false)) rfl rfl (by kernel_rfl) (pe hs rfl rfl) (o_eq (o_gtr (m := q) (n := 400) rfl (pe hs rfl rfl) rfl) (by rw [decide_eq_false (by omega)])) ?_
  refine op_val (d := 31) (v := .bool (false)) rfl rfl (o_pickF rfl (pe hs rfl rfl) (pe hs rfl rfl)) ?_
  refine x_nil ?_
  refine hK_3 _ _ ?_
  refine w2_condF (pe hs rfl rfl) ?_
  refine w2_skip ?_
  refine hK_2 _ _ ?_
  refine w2_seq (fun K_4 hK_4 => ?_)
  refine x_region (by kernel_rfl) ?_
  refine op_val (d := 33) (v := .slice A0 (m) (c0)) rfl rfl (o_move rfl ((pm rfl).trans t0)) ?_
  refine op_call (vs := #[.slice A0 (m) (c0), .int .i64 ((32 : Nat) : Int)]) rfl rfl (exec_call Try.func23 (by kernel_rfl) (by kernel_rfl) _ rfl _ _ (args2 (pe hs rfl rfl) rfl)) (lbytes32 _ h0 hm) (fun e_1 w_1 hR_1 => ?_)
  obtain ⟨A_1, c_1, rfl, ho_1, hb_1⟩ := hR_1
  refine ⟨_, rfl, ?_⟩
  refine op_val (d := 35) (v := .slice A1 (k) (c1)) rfl rfl (o_move rfl ((pm rfl).trans t1)) ?_
  refine op_call (vs := #[.slice A1 (k) (c1), .int .i64 ((12 : Nat) : Int)]) rfl rfl (exec_call Try.func23 (by kernel_rfl) (by kernel_rfl) _ rfl _ _ (args2 (pe hs rfl rfl) rfl)) (lbytes12 _ (h1.below hb_1) hk) (fun e_2 w_2 hR_2 => ?_)
  obtain ⟨A_2, c_2, rfl, ho_2, hb_2⟩ := hR_2
  replace ho_2 := ho_2.mono hb_1.size
  replace ho_1 := ho_1.nx hb_2
  have HB_1 := below_from hb_1 hb_2
  refine ⟨_, rfl, ?_⟩
  refine op_val (d := 13) (v := .slice A_1 (32) (c_1)) rfl rfl (o_assign rfl (pe hs rfl rfl)) ?_
  refine op_val (d := 14) (v := .slice A_2 (12) (c_2)) rfl rfl (o_assign rfl (pe hs rfl rfl)) ?_
  refine x_nil ?_
  refine hK_4 _ _ ?_
  refine w2_seq (fun K_5 hK_5 => ?_)
  refine x_region (by kernel_rfl) ?_
  refine op_val (d := 38) (v := .slice A_1 (32) (c_1)) rfl rfl (o_move rfl (pe hs rfl rfl)) ?_
  refine op_val (d := 39) (v := .slice A_2 (12) (c_2)) rfl rfl (o_move rfl (pe hs rfl rfl)) ?_
  refine op_val (d := 40) (v := .slice A2 (p) (c2)) rfl rfl (o_move rfl ((pm rfl).trans t2)) ?_
  refine op_val (d := 41) (v := .slice A3 (q) (c3)) rfl rfl (o_move rfl ((pm rfl).trans t3)) ?_
  refine op_call (vs := #[.slice A_1 (32) (c_1), .slice A_2 (12) (c_2), .slice A2 (p) (c2), .slice A3 (q) (c3)]) rfl rfl (exec_call Try.func24 (by kernel_rfl) (by kernel_rfl) _ rfl _ _ (args4 (pe hs rfl rfl) (pe hs rfl rfl) (pe hs rfl rfl) (pe hs rfl rfl))) (Seal_full _ (ho_1).bs (ho_2).bs (h2.below HB_1) (h3.below HB_1) (by simp only [padTo_length]) (by simp only [padTo_length]) hp hq rfl rfl (by omega) (by omega)) (fun e_3 w_3 hR_3 => ?_)
  obtain ⟨A_3, c_3, rfl, ho_3, hb_3⟩ := hR_3
  replace ho_3 := ho_3.mono HB_1.size
  replace ho_1 := ho_1.nx hb_3
  replace ho_2 := ho_2.nx hb_3
  have HB_2 := below_from HB_1 hb_3
  refine ⟨_, rfl, ?_⟩
  refine op_val (d := 37) (v := .tuple #[.slice A_3 (q + 16) (c_3), .int .i64 ((0 : Nat) : Int)]) rfl rfl (o_move rfl (pe hs rfl rfl)) ?_
  refine op_val (d := 43) (v := .slice A_3 (q + 16) (c_3)) rfl rfl (o_extract rfl (pe hs rfl rfl) rfl) ?_
  refine op_val (d := 44) (v := .int .i64 ((0 : Nat) : Int)) rfl rfl (o_extract rfl (pe hs rfl rfl) rfl) ?_
  refine op_val (d := 15) (v := .slice A_3 (q + 16) (c_3)) rfl rfl (o_assign rfl (pe hs rfl rfl)) ?_
  refine op_val (d := 16) (v := .int .i64 ((0 : Nat) : Int)) rfl rfl (o_assign rfl (pe hs rfl rfl)) ?_
  refine x_nil ?_
  refine hK_5 _ _ ?_
  refine w2_seq (fun K_6 hK_6 => ?_)
  refine x_region (by kernel_rfl) ?_
  refine op_val (d := 46) (v := .slice A_1 (32) (c_1)) rfl rfl (o_move rfl (pe hs rfl rfl)) ?_
  refine op_val (d := 47) (v := .slice A_2 (12) (c_2)) rfl rfl (o_move rfl (pe hs rfl rfl)) ?_
  refine op_val (d := 48) (v := .slice A2 (p) (c2)) rfl rfl (o_move rfl ((pm rfl).trans t2)) ?_
  refine op_val (d := 49) (v := .slice A_3 (q + 16) (c_3)) rfl rfl (o_move rfl (pe hs rfl rfl)) ?_
  refine op_call (vs := #[.slice A_1 (32) (c_1), .slice A_2 (12) (c_2), .slice A2 (p) (c2), .slice A_3 (q + 16) (c_3)]) rfl rfl (exec_call Try.func29 (by kernel_rfl) (by kernel_rfl) _ rfl _ _ (args4 (pe hs rfl rfl) (pe hs rfl rfl) (pe hs rfl rfl) (pe hs rfl rfl))) (Open_back _ (ho_1).bs (ho_2).bs (h2.below HB_2) (ho_3).bs (by simp only [padTo_length]) (by simp only [padTo_length]) hp (by simp only [sealL_length, hq]) rfl rfl (by omega) (by omega)) (fun e_4 w_4 hR_4 => ?_)
  obtain ⟨A_4, c_4, rfl, ho_4, hb_4⟩ := hR_4
  replace ho_4 := ho_4.mono HB_2.size
  replace ho_1 := ho_1.nx hb_4
  replace ho_2 := ho_2.nx hb_4
  replace ho_3 := ho_3.nx hb_4
  have HB_3 := below_from HB_2 hb_4
  refine ⟨_, rfl, ?_⟩
  refine op_val (d := 45) (v := .tuple #[.slice A_4 (q) (c_4), .int .i64 ((0 : Nat) : Int)]) rfl rfl (o_move rfl (pe hs rfl rfl)) ?_
  refine op_val (d := 51) (v := .slice A_4 (q) (c_4)) rfl rfl (o_extract rfl (pe hs rfl rfl) rfl) ?_
  refine op_val (d := 52) (v := .int .i64 ((0 : Nat) : Int)) rfl rfl (o_extract rfl (pe hs rfl rfl) rfl) ?_
  refine op_val (d := 17) (v := .slice A_4 (q) (c_4)) rfl rfl (o_assign rfl (pe hs rfl rfl)) ?_
  refine op_val (d := 18) (v := .int .i64 ((0 : Nat) : Int)) rfl rfl (o_assign rfl (pe hs rfl rfl)) ?_
  refine x_nil ?_
  refine hK_6 _ _ ?_
  refine w2_seq (fun K_7 hK_7 => ?_)
  refine w2_seq (fun K_8 hK_8 => ?_)
  refine x_region (by kernel_rfl) ?_
  refine op_val (d := 53) (v := .int .i64 ((0 : Nat) : Int)) rfl rfl (o_move rfl (pe hs rfl rfl)) ?_
  refine op_val (d := 54) (v := .bool (false)) rfl rfl (o_eq (o_neq (m := 0) (n := 0) rfl (pe hs rfl rfl) rfl) rfl) ?_
  refine op_val (d := 55) (v := .bool (false)) rfl rfl (o_move rfl (pe hs rfl rfl)) ?_
  refine op_valG (e := 55) (d := 56) (v := .int .i64 ((0 : Nat) : Int)) rfl rfl (by kernel_rfl) (pe hs rfl rfl) (o_move rfl (pe hs rfl rfl)) ?_
  refine op_valG (e := 55) (d := 57) (v := .bool (false)) rfl rfl (by kernel_rfl) (pe hs rfl rfl) (o_eq (o_neq (m := 0) (n := 0) rfl (pe hs rfl rfl) rfl) rfl) ?_
  refine op_val (d := 58) (v := .bool (false)) rfl rfl (o_pickF rfl (pe hs rfl rfl) (pe hs rfl rfl)) ?_
  refine op_val (d := 59) (v := .bool (false)) rfl rfl (o_move rfl (pe hs rfl rfl)) ?_
  refine op_valG (e := 59) (d := 60) (v := .slice A_3 (q + 16) (c_3)) rfl rfl (by kernel_rfl) (pe hs rfl rfl) (o_move rfl (pe hs rfl rfl)) ?_
  refine op_valG (e := 59) (d := 61) (v := .int .i64 ((q + 16 : Nat) : Int)) rfl rfl (by kernel_rfl) (pe hs rfl rfl) (o_len rfl (pe hs rfl rfl)) ?_
  refine op_valG (e := 59) (d := 62) (v := .slice A3 (q) (c3)) rfl rfl (by kernel_rfl) (pe hs rfl rfl) (o_move rfl ((pm rfl).trans t3)) ?_
  refine op_valG (e := 59) (d := 63) (v := .int .i64 ((q : Nat) : Int)) rfl rfl (by kernel_rfl) (pe hs rfl rfl) (o_len rfl (pe hs rfl rfl)) ?_
  refine op_valG (e := 59) (d := 64) (v := .int .i64 ((q + 16 : Nat) : Int)) rfl rfl (by kernel_rfl) (pe hs rfl rfl) (o_add64 (m := q) (n := 16) rfl (pe hs rfl rfl) rfl (by omega)) ?_
  refine op_valG (e := 59) (d := 65) (v := .bool (false)) rfl rfl (by kernel_rfl) (pe hs rfl rfl) (o_eq (o_neq (m := (q + 16)) (n := (q + 16)) rfl (pe hs rfl rfl) (pe hs rfl rfl)) (by simp)) ?_
  refine op_val (d := 66) (v := .bool (false)) rfl rfl (o_pickF rfl (pe hs rfl rfl) (pe hs rfl rfl)) ?_
  refine op_val (d := 67) (v := .bool (false)) rfl rfl (o_move rfl (pe hs rfl rfl)) ?_
  refine op_valG (e := 67) (d := 68) (v := .slice A_4 (q) (c_4)) rfl rfl (by kernel_rfl) (pe hs rfl rfl) (o_move rfl (pe hs rfl rfl)) ?_
  refine op_valG (e := 67) (d := 69) (v := .string (strB bs)) rfl rfl (by kernel_rfl) (pe hs rfl rfl) (o_str rfl (pe hs rfl rfl) (ho_4).bs hq) ?_
  refine op_valG (e := 67) (d := 70) (v := .slice A3 (q) (c3)) rfl rfl (by kernel_rfl) (pe hs rfl rfl) (o_move rfl ((pm rfl).trans t3)) ?_
  refine op_valG (e := 67) (d := 71) (v := .string (strB bs)) rfl rfl (by kernel_rfl) (pe hs rfl rfl) (o_str rfl (pe hs rfl rfl) (h3.below HB_3) hq) ?_
  refine op_valG (e := 67) (d := 72) (v := .bool (false)) rfl rfl (by kernel_rfl) (pe hs rfl rfl) (o_neS rfl (pe hs rfl rfl) (pe hs rfl rfl) rfl) ?_
  refine op_val (d := 73) (v := .bool (false)) rfl rfl (o_pickF rfl (pe hs rfl rfl) (pe hs rfl rfl)) ?_
  refine x_nil ?_
  refine hK_8 _ _ ?_
  refine w2_condF (pe hs rfl rfl) ?_
  refine w2_skip ?_
  refine hK_7 _ _ ?_
  refine w2_seq (fun K_9 hK_9 => ?_)
  refine x_region (by kernel_rfl) ?_
  refine op_val (d := 75) (v := .slice A_1 (32) (c_1)) rfl rfl (o_move rfl (pe hs rfl rfl)) ?_
  refine op_val (d := 76) (v := .slice A_2 (12) (c_2)) rfl rfl (o_move rfl (pe hs rfl rfl)) ?_
  refine op_val (d := 77) (v := .slice A2 (p) (c2)) rfl rfl (o_move rfl ((pm rfl).trans t2)) ?_
  refine op_val (d := 78) (v := .slice A_3 (q + 16) (c_3)) rfl rfl (o_move rfl (pe hs rfl rfl)) ?_
  refine op_val (d := 79) (v := .slice A_3 (q + 16) (c_3)) rfl rfl (o_move rfl (pe hs rfl rfl)) ?_
  refine op_val (d := 80) (v := .int .i64 ((q + 16 : Nat) : Int)) rfl rfl (o_len rfl (pe hs rfl rfl)) ?_
  refine op_val (d := 81) (v := .int .i64 ((15 : Nat) : Int)) rfl rfl (o_eq (o_min rfl rfl (pe hs rfl rfl)) (show Value.int .i64 ((min 15 (q + 16) : Nat) : Int) = .int .i64 ((15 : Nat) : Int) by rw [Nat.min_eq_left (by omega)])) ?_
  have hsl : (sealL (padTo 32 ks) (padTo 12 ns) zs bs).length = q + 16 := by rw [sealL_length, hq]
  have hsh : ((sealL (padTo 32 ks) (padTo 12 ns) zs bs).take 15).length < 16 := by rw [List.length_take]; omega
  have hS_1 := Bs.sub (ho_3).bs (l := 0) (q := 15) (m := c_3) (by omega) (by have := (ho_3).bs.le; omega) (Nat.le_refl _)
  rw [subA_zero, List.drop_zero, Nat.sub_zero, Nat.sub_zero] at hS_1
  refine op_val (d := 82) (v := .slice A_3 (15) (c_3)) rfl rfl (o_eq (o_sliceH (h := 15) rfl (pe hs rfl rfl) (pe hs rfl rfl) (by have := (ho_3).bs.le; omega)) (by rw [subA_zero])) ?_
  refine op_call (vs := #[.slice A_1 (32) (c_1), .slice A_2 (12) (c_2), .slice A2 (p) (c2), .slice A_3 (15) (c_3)]) rfl rfl (exec_call Try.func29 (by kernel_rfl) (by kernel_rfl) _ rfl _ _ (args4 (pe hs rfl rfl) (pe hs rfl rfl) (pe hs rfl rfl) (pe hs rfl rfl))) (Open_as (r := 2) _ (openL_short _ _ _ _ hsh) (ho_1).bs (ho_2).bs (h2.below HB_3) hS_1 (by simp only [padTo_length]) (by simp only [padTo_length]) hp (by rw [List.length_take]; omega) rfl rfl (by omega) (by omega)) (fun e_5 w_5 hR_5 => ?_)
  obtain ⟨A_5, c_5, rfl, ho_5, hb_5⟩ := hR_5
  replace ho_5 := ho_5.mono HB_3.size
  replace ho_1 := ho_1.nx hb_5
  replace ho_2 := ho_2.nx hb_5
  replace ho_3 := ho_3.nx hb_5
  replace ho_4 := ho_4.nx hb_5
  replace hS_1 := hS_1.nx hb_5
  have HB_4 := below_from HB_3 hb_5
  refine ⟨_, rfl, ?_⟩
  refine op_val (d := 74) (v := .tuple #[.slice A_5 (0) (c_5), .int .i64 ((2 : Nat) : Int)]) rfl rfl (o_move rfl (pe hs rfl rfl)) ?_
  refine op_val (d := 84) (v := .slice A_5 (0) (c_5)) rfl rfl (o_extract rfl (pe hs rfl rfl) rfl) ?_
  refine op_val (d := 85) (v := .int .i64 ((2 : Nat) : Int)) rfl rfl (o_extract rfl (pe hs rfl rfl) rfl) ?_
  refine op_val (d := 19) (v := .slice A_5 (0) (c_5)) rfl rfl (o_assign rfl (pe hs rfl rfl)) ?_
  refine op_val (d := 20) (v := .int .i64 ((2 : Nat) : Int)) rfl rfl (o_assign rfl (pe hs rfl rfl)) ?_
  refine x_nil ?_
  refine hK_9 _ _ ?_
  refine w2_seq (fun K_10 hK_10 => ?_)
  refine w2_seq (fun K_11 hK_11 => ?_)
  refine x_region (by kernel_rfl) ?_
  refine op_val (d := 86) (v := .int .u8 ((x : Nat) : Int)) rfl rfl (o_move rfl ((pm rfl).trans t5)) ?_
  refine op_val (d := 87) (v := .bool (decide (x = 0))) rfl rfl (o_eql (m := x) (n := 0) rfl (pe hs rfl rfl) rfl) ?_
  refine x_nil ?_
  refine hK_11 _ _ ?_
  refine w2_split (pe hs rfl rfl) (fun h_1 => ?_) (fun h_1 => ?_)
  · simp only [decide_eq_true_eq, decide_eq_false_iff_not, Bool.not_eq_true', Bool.not_eq_false', Bool.not_true, Bool.not_false, Nat.not_lt, Nat.not_le] at h_1
    refine w2_seq (fun K_12 hK_12 => ?_)
    refine x_region (by kernel_rfl) ?_
    refine op_val (d := 88) (v := .int .i64 ((2 : Nat) : Int)) rfl rfl (o_move rfl (pe hs rfl rfl)) ?_
    refine op_val (d := 89) (v := .bool (true)) rfl rfl (o_eq (o_eql (m := 2) (n := 2) rfl (pe hs rfl rfl) rfl) rfl) ?_
    refine op_val (d := 90) (v := .bool (true)) rfl rfl (o_move rfl (pe hs rfl rfl)) ?_
    refine op_callG (e := 90) (vs := #[]) rfl rfl (by kernel_rfl) (pe hs rfl rfl) (exec_call Try.func22 (by kernel_rfl) (by kernel_rfl) _ rfl _ _ (args0)) (awake_any _) (fun e_6 w_6 hR_6 => ?_)
    obtain ⟨rfl, hb_7⟩ := hR_6
    replace ho_1 := ho_1.nx hb_7
    replace ho_2 := ho_2.nx hb_7
    replace ho_3 := ho_3.nx hb_7
    replace ho_4 := ho_4.nx hb_7
    replace ho_5 := ho_5.nx hb_7
    have HB_5 := below_from HB_4 hb_7
    refine ⟨_, rfl, ?_⟩
    refine op_val (d := 92) (v := .bool (true)) rfl rfl (o_pickT rfl (pe hs rfl rfl) (pe hs rfl rfl)) ?_
    refine op_val (d := 12) (v := .bool (true)) rfl rfl (o_assign rfl (pe hs rfl rfl)) ?_
    refine x_nil ?_
    refine hK_12 _ _ ?_
    refine w2_ret ?_
    refine thn_ret ?_
    refine ret1 rfl hd (pe hs rfl rfl) ?_
    exact ⟨rfl, HB_5⟩
  · simp only [decide_eq_true_eq, decide_eq_false_iff_not, Bool.not_eq_true', Bool.not_eq_false', Bool.not_true, Bool.not_false, Nat.not_lt, Nat.not_le] at h_1
    have hx0 : x ≠ 0 := h_1
    refine w2_skip ?_
    refine hK_10 _ _ ?_
    refine w2_seq (fun K_13 hK_13 => ?_)
    replace h0 := h0.below HB_4
    replace h1 := h1.below HB_4
    replace h2 := h2.below HB_4
    replace h3 := h3.below HB_4
    obtain ⟨wz, hwz⟩ : ∃ q : World, q = w := ⟨w, rfl⟩
    subst hwz
    obtain ⟨w, hw⟩ : ∃ q : World, q = w_5 := ⟨w_5, rfl⟩
    subst hw
    refine x_region (by kernel_rfl) ?_
    refine op_ex (d := 93) rfl rfl (o_build0  rfl  ) (fun v_1 w_7 hR_7 => ?_)
    obtain ⟨g_1, rfl, ho_6, hb_8⟩ := hR_7
    refine op_val (d := 94) (v := .slice A_3 (q + 16) (c_3)) rfl rfl (o_move rfl (pe hs rfl rfl)) ?_
    refine op_ex (d := 95) rfl rfl (o_append rfl (pe hs rfl rfl) (pe hs rfl rfl) ho_6 ((ho_3.below hb_8)).bs (by rw [List.length_nil]) (by simp only [sealL_length, hq]) (by omega) hb_8.size) (fun v_2 w_8 hR_8 => ?_)
    obtain ⟨A_6, c_6, rfl, ho_7, hb_9, hg_1, hat_1⟩ := hR_8
    have HB_6 : Below w.heap.size w w_8 := (hb_8).trans hb_9
    clear hg_1 hat_1 ho_6
    refine op_val (d := 21) (v := .slice A_6 (0 + (q + 16)) (c_6)) rfl rfl (o_assign rfl (pe hs rfl rfl)) ?_
    refine x_nil ?_
    refine hK_13 _ _ ?_
    refine w2_seq (fun K_14 hK_14 => ?_)
    have b1 := getD8 ho_7.b8 (q + at64 z % 16)
    have hz := at64_lt z
    have htag := openL_tag (padTo 32 ks) (padTo 12 ns) zs bs (at64 z % 16) x (Nat.mod_lt _ (by omega)) hx0
    rw [hq] at htag
    refine x_region (by kernel_rfl) ?_
    refine op_val (d := 96) (v := .slice A_6 (0 + (q + 16)) (c_6)) rfl rfl (o_move rfl (pe hs rfl rfl)) ?_
    refine op_val (d := 97) (v := .slice A3 (q) (c3)) rfl rfl (o_move rfl ((pm rfl).trans t3)) ?_
    refine op_val (d := 98) (v := .int .i64 ((q : Nat) : Int)) rfl rfl (o_len rfl (pe hs rfl rfl)) ?_
    refine op_val (d := 99) (v := .int .i64 (z)) rfl rfl (o_move rfl ((pm rfl).trans t4)) ?_
    refine op_val (d := 100) (v := .int .u64 ((at64 z : Nat) : Int)) rfl rfl (o_convZ rfl (pe hs rfl rfl) ⟨.int .i64, fun _ => by kernel_rfl⟩ (fun _ => by kernel_rfl)) ?_
    refine op_val (d := 101) (v := .int .u64 (((at64 z) % 16 : Nat) : Int)) rfl rfl (o_rem (m := (at64 z)) (n := 16) rfl (pe hs rfl rfl) rfl (by omega) (by rw [IntKind.wrap_u64]; omega)) ?_
    refine op_val (d := 102) (v := .int .i64 (((at64 z) % 16 : Nat) : Int)) rfl rfl (o_conv (m := ((at64 z) % 16)) (r := (at64 z) % 16) rfl (pe hs rfl rfl) ⟨.int .u64, fun _ => by kernel_rfl⟩ (fun _ => by kernel_rfl) (IntWalk.i64_in _ (by omega))) ?_
    refine op_val (d := 103) (v := .int .i64 ((q + ((at64 z) % 16) : Nat) : Int)) rfl rfl (o_add64 (m := q) (n := ((at64 z) % 16)) rfl (pe hs rfl rfl) (pe hs rfl rfl) (by omega)) ?_
    refine op_val (d := 104) (v := .pointer (atA A_6 (q + ((at64 z) % 16)))) rfl rfl (o_ix (k := q + ((at64 z) % 16)) rfl (pe hs rfl rfl) (pe hs rfl rfl) (by omega) ((ho_7).bs.some (by show 0 < (sealL (padTo 32 ks) (padTo 12 ns) zs bs).length; omega))) ?_
    refine op_val (d := 105) (v := .int .u8 (((([]) ++ (sealL (padTo 32 ks) (padTo 12 ns) zs bs)).getD (q + ((at64 z) % 16)) 0 : Nat) : Int)) rfl rfl (o_ld8 rfl (pe hs rfl rfl) (ho_7).bs (by show q + at64 z % 16 < (sealL (padTo 32 ks) (padTo 12 ns) zs bs).length; omega) rfl) ?_
    refine op_val (d := 106) (v := .int .u8 ((x : Nat) : Int)) rfl rfl (o_move rfl ((pm rfl).trans t5)) ?_
    refine op_val (d := 107) (v := .int .u8 ((((([]) ++ (sealL (padTo 32 ks) (padTo 12 ns) zs bs)).getD (q + ((at64 z) % 16)) 0) ^^^ x : Nat) : Int)) rfl rfl (o_bits (m := ((([]) ++ (sealL (padTo 32 ks) (padTo 12 ns) zs bs)).getD (q + ((at64 z) % 16)) 0)) (n := x) (((([]) ++ (sealL (padTo 32 ks) (padTo 12 ns) zs bs)).getD (q + ((at64 z) % 16)) 0) ^^^ x) rfl (pe hs rfl rfl) (pe hs rfl rfl) (by decide) (u8_xor_nat _ _ (by omega) (by omega))) ?_
    refine op_val (d := 108) (v := .pointer (atA A_6 (q + ((at64 z) % 16)))) rfl rfl (o_ix (k := q + ((at64 z) % 16)) rfl (pe hs rfl rfl) (pe hs rfl rfl) (by omega) ((ho_7).bs.some (by show 0 < (sealL (padTo 32 ks) (padTo 12 ns) zs bs).length; omega))) ?_
    refine op_do rfl rfl (o_st8 rfl (pe hs rfl rfl) (pe hs rfl rfl) ho_7 (by show q + at64 z % 16 < (sealL (padTo 32 ks) (padTo 12 ns) zs bs).length; omega) (Nat.xor_lt_two_pow (n := 8) b1 hx) ⟨by kernel_rfl, by kernel_rfl⟩) (fun w_9 hR_9 => ?_)
    obtain ⟨ho_8, hb_10⟩ := hR_9
    have HB_7 := HB_6.trans hb_10
    refine x_nil ?_
    refine hK_14 _ _ ?_
    refine w2_seq (fun K_15 hK_15 => ?_)
    refine x_region (by kernel_rfl) ?_
    refine op_val (d := 110) (v := .slice A_1 (32) (c_1)) rfl rfl (o_move rfl (pe hs rfl rfl)) ?_
    refine op_val (d := 111) (v := .slice A_2 (12) (c_2)) rfl rfl (o_move rfl (pe hs rfl rfl)) ?_
    refine op_val (d := 112) (v := .slice A2 (p) (c2)) rfl rfl (o_move rfl ((pm rfl).trans t2)) ?_
    refine op_val (d := 113) (v := .slice A_6 (0 + (q + 16)) (c_6)) rfl rfl (o_move rfl (pe hs rfl rfl)) ?_
    refine op_call (vs := #[.slice A_1 (32) (c_1), .slice A_2 (12) (c_2), .slice A2 (p) (c2), .slice A_6 (0 + (q + 16)) (c_6)]) rfl rfl (exec_call Try.func29 (by kernel_rfl) (by kernel_rfl) _ rfl _ _ (args4 (pe hs rfl rfl) (pe hs rfl rfl) (pe hs rfl rfl) (pe hs rfl rfl))) (Open_as (r := 4) _ htag ((ho_1.below HB_7)).bs ((ho_2.below HB_7)).bs (h2.below HB_7) (ho_8).bs (by simp only [padTo_length]) (by simp only [padTo_length]) hp (by rw [List.length_set]; show (sealL (padTo 32 ks) (padTo 12 ns) zs bs).length = _; omega) rfl rfl (by omega) (by omega)) (fun e_7 w_10 hR_10 => ?_)
    obtain ⟨A_7, c_7, rfl, ho_9, hb_11⟩ := hR_10
    replace ho_9 := ho_9.mono HB_7.size
    replace ho_8 := ho_8.nx hb_11
    have HB_8 := below_from HB_7 hb_11
    refine ⟨_, rfl, ?_⟩
    refine op_val (d := 109) (v := .tuple #[.slice A_7 (0) (c_7), .int .i64 ((4 : Nat) : Int)]) rfl rfl (o_move rfl (pe hs rfl rfl)) ?_
    refine op_val (d := 115) (v := .slice A_7 (0) (c_7)) rfl rfl (o_extract rfl (pe hs rfl rfl) rfl) ?_
    refine op_val (d := 116) (v := .int .i64 ((4 : Nat) : Int)) rfl rfl (o_extract rfl (pe hs rfl rfl) rfl) ?_
    refine op_val (d := 22) (v := .slice A_7 (0) (c_7)) rfl rfl (o_assign rfl (pe hs rfl rfl)) ?_
    refine op_val (d := 23) (v := .int .i64 ((4 : Nat) : Int)) rfl rfl (o_assign rfl (pe hs rfl rfl)) ?_
    refine x_nil ?_
    refine hK_15 _ _ ?_
    refine w2_seq (fun K_16 hK_16 => ?_)
    refine x_region (by kernel_rfl) ?_
    refine op_val (d := 117) (v := .int .i64 ((2 : Nat) : Int)) rfl rfl (o_move rfl (pe hs rfl rfl)) ?_
    refine op_val (d := 118) (v := .bool (true)) rfl rfl (o_eq (o_eql (m := 2) (n := 2) rfl (pe hs rfl rfl) rfl) rfl) ?_
    refine op_val (d := 119) (v := .bool (true)) rfl rfl (o_move rfl (pe hs rfl rfl)) ?_
    refine op_valG (e := 119) (d := 120) (v := .int .i64 ((4 : Nat) : Int)) rfl rfl (by kernel_rfl) (pe hs rfl rfl) (o_move rfl (pe hs rfl rfl)) ?_
    refine op_valG (e := 119) (d := 121) (v := .bool (true)) rfl rfl (by kernel_rfl) (pe hs rfl rfl) (o_eq (o_eql (m := 4) (n := 4) rfl (pe hs rfl rfl) rfl) rfl) ?_
    refine op_val (d := 122) (v := .bool (true)) rfl rfl (o_pickT rfl (pe hs rfl rfl) (pe hs rfl rfl)) ?_
    refine op_val (d := 123) (v := .bool (true)) rfl rfl (o_move rfl (pe hs rfl rfl)) ?_
    refine op_valG (e := 123) (d := 124) (v := .slice A_7 (0) (c_7)) rfl rfl (by kernel_rfl) (pe hs rfl rfl) (o_move rfl (pe hs rfl rfl)) ?_
    refine op_valG (e := 123) (d := 125) (v := .int .i64 ((0 : Nat) : Int)) rfl rfl (by kernel_rfl) (pe hs rfl rfl) (o_len rfl (pe hs rfl rfl)) ?_
    refine op_valG (e := 123) (d := 126) (v := .bool (true)) rfl rfl (by kernel_rfl) (pe hs rfl rfl) (o_eq (o_eql (m := 0) (n := 0) rfl (pe hs rfl rfl) rfl) rfl) ?_
    refine op_val (d := 127) (v := .bool (true)) rfl rfl (o_pickT rfl (pe hs rfl rfl) (pe hs rfl rfl)) ?_
    refine op_val (d := 128) (v := .bool (true)) rfl rfl (o_move rfl (pe hs rfl rfl)) ?_
    refine op_callG (e := 128) (vs := #[]) rfl rfl (by kernel_rfl) (pe hs rfl rfl) (exec_call Try.func22 (by kernel_rfl) (by kernel_rfl) _ rfl _ _ (args0)) (awake_any _) (fun e_8 w_11 hR_11 => ?_)
    obtain ⟨rfl, hb_13⟩ := hR_11
    replace ho_8 := ho_8.nx hb_13
    replace ho_9 := ho_9.nx hb_13
    have HB_9 := below_from HB_8 hb_13
    refine ⟨_, rfl, ?_⟩
    refine op_val (d := 130) (v := .bool (true)) rfl rfl (o_pickT rfl (pe hs rfl rfl) (pe hs rfl rfl)) ?_
    refine op_val (d := 12) (v := .bool (true)) rfl rfl (o_assign rfl (pe hs rfl rfl)) ?_
    refine x_nil ?_
    refine hK_16 _ _ ?_
    refine w2_ret ?_
    refine ret1 rfl hd (pe hs rfl rfl) ?_
    exact ⟨rfl, below_from HB_4 HB_9⟩
end Go.Proofs.Ytoiamaljkodlnaa
