/-
  WALKS: sapperlaw12.RecordDead.
-/
import Derived.Test.YtoiamaljkodlnaaAwake12
import Derived.Test.YtoiamaljkodlnaaRow
namespace Go.Proofs.Ytoiamaljkodlnaa
open Go.RowKit
set_option linter.unusedVariables false
set_option linter.unusedSimpArgs false
set_option maxRecDepth 100000
attribute [local irreducible] wpList wpListIn putsR

theorem openL_tagD (ks ns ad bs : List Nat) (j x : Nat) (hj : j < 16) (hx : x ≠ 0) :
    openL ks ns ad ((sealL ks ns ad bs).set (bs.length + j) ((sealL ks ns ad bs).getD (bs.length + j) 0 ^^^ x)) = ([], 4) := by
  have hxl := xorS_length ks ns 1 bs
  have hml := macL_length ks ns ad (xorS ks ns 1 bs)
  have h1 : ((sealL ks ns ad bs).set (bs.length + j) ((sealL ks ns ad bs).getD (bs.length + j) 0 ^^^ x)).length - 16 = bs.length := by
    rw [List.length_set, sealL_length]; omega
  have h2 : (sealL ks ns ad bs).getD (bs.length + j) 0 = (macL ks ns ad (xorS ks ns 1 bs)).getD j 0 := by
    rw [sealL, List.getD_eq_getElem?_getD, List.getElem?_append_right (by omega), ← List.getD_eq_getElem?_getD, hxl, Nat.add_sub_cancel_left]
  unfold openL
  rw [if_neg (by rw [List.length_set, sealL_length]; omega), h1, h2]
  have h3 : ((sealL ks ns ad bs).set (bs.length + j) ((macL ks ns ad (xorS ks ns 1 bs)).getD j 0 ^^^ x)) = xorS ks ns 1 bs ++ (macL ks ns ad (xorS ks ns 1 bs)).set j ((macL ks ns ad (xorS ks ns 1 bs)).getD j 0 ^^^ x) := by
    rw [sealL, List.set_append_right _ _ (by omega), hxl, Nat.add_sub_cancel_left]
  rw [h3]
  have h4 : (xorS ks ns 1 bs ++ (macL ks ns ad (xorS ks ns 1 bs)).set j ((macL ks ns ad (xorS ks ns 1 bs)).getD j 0 ^^^ x)).take bs.length = xorS ks ns 1 bs := by
    rw [← hxl, List.take_left]
  have h5 : (xorS ks ns 1 bs ++ (macL ks ns ad (xorS ks ns 1 bs)).set j ((macL ks ns ad (xorS ks ns 1 bs)).getD j 0 ^^^ x)).drop bs.length = (macL ks ns ad (xorS ks ns 1 bs)).set j ((macL ks ns ad (xorS ks ns 1 bs)).getD j 0 ^^^ x) := by
    rw [← hxl, List.drop_left]
  rw [h4, h5, if_neg]
  intro h
  generalize macL ks ns ad (xorS ks ns 1 bs) = ms at h hml
  have h6 := congrArg (fun l : List Nat => l.getD j 0) h
  simp only [List.getD_eq_getElem?_getD] at h6
  rw [List.getElem?_set_self (by omega)] at h6
  simp only [Option.getD_some] at h6
  generalize ms[j]?.getD 0 = v at h6
  have h7 : v ^^^ v = v ^^^ (v ^^^ x) := by rw [← h6]
  rw [← Nat.xor_assoc, Nat.xor_self, Nat.zero_xor] at h7
  exact hx h7.symm
theorem getD_appL {xs ys : List Nat} {i : Nat} (h : i < xs.length) : (xs ++ ys).getD i 0 = xs.getD i 0 := by
  simp only [List.getD_eq_getElem?_getD]
  rw [List.getElem?_append_left h]
theorem feed_tag (c : Co) (b : List Nat) (j x : Nat) (hj : j < 16) (hx : x ≠ 0) : feedR (Rd.at0 c []) ((recL c b).set (2 + j) ((recL c b).getD (2 + j) 0 ^^^ x)) = (⟨c, [], 0, true⟩, 4, []) := by
  have h18 := headL_length c b
  have e0 : (recL c b).set (2 + j) ((recL c b).getD (2 + j) 0 ^^^ x) = (headL c b).set (2 + j) ((headL c b).getD (2 + j) 0 ^^^ x) ++ bodyL c b := by
    unfold recL
    rw [getD_appL (by omega), List.set_append_left _ _ (by omega)]
  have ho : openL c.k (nonceL c.n) [] ((headL c b).set (2 + j) ((headL c b).getD (2 + j) 0 ^^^ x)) = ([], 4) := openL_tagD c.k (nonceL c.n) [] (lenL (sizeN b.length)) j x hj hx
  have hs : stepR (Rd.at0 c ((headL c b).set (2 + j) ((headL c b).getD (2 + j) 0 ^^^ x) ++ bodyL c b)) = some (⟨c, bodyL c b, 0, false⟩, 4, []) := by
    unfold stepR Rd.at0
    have hl : ((headL c b).set (2 + j) ((headL c b).getD (2 + j) 0 ^^^ x)).length = 18 := by rw [List.length_set]; exact h18
    rw [if_pos rfl, if_neg (by show ¬ (_ ++ _ : List Nat).length < 18; rw [List.length_append]; omega)]
    dsimp only
    rw [List.take_left' hl, List.drop_left' hl, ho]
    dsimp only
    rw [if_pos (by decide)]
  unfold feedR
  rw [e0]
  show runR (([] ++ _ : List Nat).length + 1) (Rd.at0 c ([] ++ _)) [] = _
  rw [List.nil_append, runR, hs]
  dsimp only
  rw [if_pos (by decide)]
  rfl
theorem feed_dead (c : Co) {a b : List Nat} (ha : a.length ≤ 4096) (j x : Nat) (hj : j < 16) (hx : x ≠ 0) : feedR (Rd.at0 c []) (([] ++ recL c a) ++ (recL c.put b).set (2 + j) ((recL c.put b).getD (2 + j) 0 ^^^ x)) = (⟨c.put, [], 0, true⟩, 4, [a]) := by
  rw [List.nil_append, feed_rec c ha, feed_tag _ _ _ _ hj hx]
  rfl
theorem RecDead0 {A0 A1 A2 : Option Addr} {c0 c1 c2 m la lb : Nat} {ks xa xb : List Nat} (z : Int) (x : Nat) (hx8 : x < 256) (w : World) (h0 : Bs w A0 c0 ks) (h1 : Bs w A1 c1 xa) (h2 : Bs w A2 c2 xb) (hm : ks.length = m) (hla : xa.length = la) (hlb : xb.length = lb) (hq : 500 < la) :
    Calls Try.prog 10 #[.slice A0 (m) (c0), .slice A1 (la) (c1), .slice A2 (lb) (c2), .int .i64 (z), .int .u8 ((x : Nat) : Int)] w fun e w' => e = .returned (.bool true) ∧ Below w.heap.size w w' := by
  refine x_enter 148 Try.func10 rfl rfl (fun a hs hd ha0 => ?_)
  have t0 : a.eval (.tmp 0) = .slice A0 (m) (c0) := ha0 0 _ rfl
  have t1 : a.eval (.tmp 1) = .slice A1 (la) (c1) := ha0 1 _ rfl
  have t2 : a.eval (.tmp 2) = .slice A2 (lb) (c2) := ha0 2 _ rfl
  have t3 : a.eval (.tmp 3) = .int .i64 (z) := ha0 3 _ rfl
  have t4 : a.eval (.tmp 4) = .int .u8 ((x : Nat) : Int) := ha0 4 _ rfl
  clear ha0
  refine w2_seq (fun K_1 hK_1 => ?_)
  refine x_region (by kernel_rfl) ?_
  refine op_val (d := 10) (v := .bool (false)) rfl rfl (o_assign rfl rfl) ?_
  refine x_nil ?_
  refine hK_1 _ _ ?_
  refine w2_seq (fun K_2 hK_2 => ?_)
  refine w2_seq (fun K_3 hK_3 => ?_)
  refine x_region (by kernel_rfl) ?_
  refine op_val (d := 26) (v := .slice A1 (la) (c1)) rfl rfl (o_move rfl ((pm rfl).trans t1)) ?_
  refine op_val (d := 27) (v := .int .i64 ((la : Nat) : Int)) rfl rfl (o_len rfl (pe hs rfl rfl)) ?_
  refine op_val (d := 28) (v := .bool (true)) rfl rfl (o_eq (o_gtr (m := la) (n := 500) rfl (pe hs rfl rfl) rfl) (by rw [decide_eq_true hq])) ?_
  refine op_val (d := 29) (v := .bool (true)) rfl rfl (o_move rfl (pe hs rfl rfl)) ?_
  refine op_left (e := 29) rfl rfl (by kernel_rfl) (pe hs rfl rfl) rfl ?_
  refine op_left (e := 29) rfl rfl (by kernel_rfl) (pe hs rfl rfl) rfl ?_
  refine op_left (e := 29) rfl rfl (by kernel_rfl) (pe hs rfl rfl) rfl ?_
  refine op_val (d := 33) (v := .bool (true)) rfl rfl (o_pickT rfl (pe hs rfl rfl) rfl) ?_
  refine op_val (d := 34) (v := .bool (true)) rfl rfl (o_move rfl (pe hs rfl rfl)) ?_
  refine op_left (e := 34) rfl rfl (by kernel_rfl) (pe hs rfl rfl) rfl ?_
  refine op_left (e := 34) rfl rfl (by kernel_rfl) (pe hs rfl rfl) rfl ?_
  refine op_val (d := 37) (v := .bool (true)) rfl rfl (o_pickT rfl (pe hs rfl rfl) rfl) ?_
  refine x_nil ?_
  refine hK_3 _ _ ?_
  refine w2_condT (pe hs rfl rfl) ?_
  refine w2_seq (fun K_4 hK_4 => ?_)
  refine x_region (by kernel_rfl) ?_
  refine op_call (vs := #[]) rfl rfl (exec_call Try.func34 (by kernel_rfl) (by kernel_rfl) _ rfl _ _ (args0)) (awake12_any _) (fun e_1 w_1 hR_1 => ?_)
  obtain ⟨rfl, hb_2⟩ := hR_1
  refine ⟨_, rfl, ?_⟩
  refine op_val (d := 10) (v := .bool (true)) rfl rfl (o_assign rfl (pe hs rfl rfl)) ?_
  refine x_nil ?_
  refine hK_4 _ _ ?_
  refine w2_ret ?_
  refine thn_ret ?_
  refine ret1 rfl hd (pe hs rfl rfl) ?_
  exact ⟨rfl, hb_2⟩
theorem RecDead1 {A0 A1 A2 : Option Addr} {c0 c1 c2 m la lb : Nat} {ks xa xb : List Nat} (z : Int) (x : Nat) (hx8 : x < 256) (w : World) (h0 : Bs w A0 c0 ks) (h1 : Bs w A1 c1 xa) (h2 : Bs w A2 c2 xb) (hm : ks.length = m) (hla : xa.length = la) (hlb : xb.length = lb) (hp : la ≤ 500) (hq : 500 < lb) :
    Calls Try.prog 10 #[.slice A0 (m) (c0), .slice A1 (la) (c1), .slice A2 (lb) (c2), .int .i64 (z), .int .u8 ((x : Nat) : Int)] w fun e w' => e = .returned (.bool true) ∧ Below w.heap.size w w' := by
  refine x_enter 148 Try.func10 rfl rfl (fun a hs hd ha0 => ?_)
  have t0 : a.eval (.tmp 0) = .slice A0 (m) (c0) := ha0 0 _ rfl
  have t1 : a.eval (.tmp 1) = .slice A1 (la) (c1) := ha0 1 _ rfl
  have t2 : a.eval (.tmp 2) = .slice A2 (lb) (c2) := ha0 2 _ rfl
  have t3 : a.eval (.tmp 3) = .int .i64 (z) := ha0 3 _ rfl
  have t4 : a.eval (.tmp 4) = .int .u8 ((x : Nat) : Int) := ha0 4 _ rfl
  clear ha0
  refine w2_seq (fun K_1 hK_1 => ?_)
  refine x_region (by kernel_rfl) ?_
  refine op_val (d := 10) (v := .bool (false)) rfl rfl (o_assign rfl rfl) ?_
  refine x_nil ?_
  refine hK_1 _ _ ?_
  refine w2_seq (fun K_2 hK_2 => ?_)
  refine w2_seq (fun K_3 hK_3 => ?_)
  refine x_region (by kernel_rfl) ?_
  refine op_val (d := 26) (v := .slice A1 (la) (c1)) rfl rfl (o_move rfl ((pm rfl).trans t1)) ?_
  refine op_val (d := 27) (v := .int .i64 ((la : Nat) : Int)) rfl rfl (o_len rfl (pe hs rfl rfl)) ?_
  refine op_val (d := 28) (v := .bool (false)) rfl rfl (o_eq (o_gtr (m := la) (n := 500) rfl (pe hs rfl rfl) rfl) (by rw [decide_eq_false (by omega)])) ?_
  refine op_val (d := 29) (v := .bool (false)) rfl rfl (o_move rfl (pe hs rfl rfl)) ?_
  refine op_valG (e := 29) (d := 30) (v := .slice A2 (lb) (c2)) rfl rfl (by kernel_rfl) (pe hs rfl rfl) (o_move rfl ((pm rfl).trans t2)) ?_
  refine op_valG (e := 29) (d := 31) (v := .int .i64 ((lb : Nat) : Int)) rfl rfl (by kernel_rfl) (pe hs rfl rfl) (o_len rfl (pe hs rfl rfl)) ?_
  refine op_valG (e := 29) (d := 32) (v := .bool (true)) rfl rfl (by kernel_rfl) (pe hs rfl rfl) (o_eq (o_gtr (m := lb) (n := 500) rfl (pe hs rfl rfl) rfl) (by rw [decide_eq_true hq])) ?_
  refine op_val (d := 33) (v := .bool (true)) rfl rfl (o_pickF rfl (pe hs rfl rfl) (pe hs rfl rfl)) ?_
  refine op_val (d := 34) (v := .bool (true)) rfl rfl (o_move rfl (pe hs rfl rfl)) ?_
  refine op_left (e := 34) rfl rfl (by kernel_rfl) (pe hs rfl rfl) rfl ?_
  refine op_left (e := 34) rfl rfl (by kernel_rfl) (pe hs rfl rfl) rfl ?_
  refine op_val (d := 37) (v := .bool (true)) rfl rfl (o_pickT rfl (pe hs rfl rfl) rfl) ?_
  refine x_nil ?_
  refine hK_3 _ _ ?_
  refine w2_condT (pe hs rfl rfl) ?_
  refine w2_seq (fun K_4 hK_4 => ?_)
  refine x_region (by kernel_rfl) ?_
  refine op_call (vs := #[]) rfl rfl (exec_call Try.func34 (by kernel_rfl) (by kernel_rfl) _ rfl _ _ (args0)) (awake12_any _) (fun e_1 w_1 hR_1 => ?_)
  obtain ⟨rfl, hb_2⟩ := hR_1
  refine ⟨_, rfl, ?_⟩
  refine op_val (d := 10) (v := .bool (true)) rfl rfl (o_assign rfl (pe hs rfl rfl)) ?_
  refine x_nil ?_
  refine hK_4 _ _ ?_
  refine w2_ret ?_
  refine thn_ret ?_
  refine ret1 rfl hd (pe hs rfl rfl) ?_
  exact ⟨rfl, hb_2⟩
theorem RecDead2 {A0 A1 A2 : Option Addr} {c0 c1 c2 m la lb : Nat} {ks xa xb : List Nat} (z : Int) (x : Nat) (hx8 : x < 256) (w : World) (h0 : Bs w A0 c0 ks) (h1 : Bs w A1 c1 xa) (h2 : Bs w A2 c2 xb) (hm : ks.length = m) (hla : xa.length = la) (hlb : xb.length = lb) (hp : la ≤ 500) (hp2 : lb ≤ 500) (hq : x = 0) :
    Calls Try.prog 10 #[.slice A0 (m) (c0), .slice A1 (la) (c1), .slice A2 (lb) (c2), .int .i64 (z), .int .u8 ((x : Nat) : Int)] w fun e w' => e = .returned (.bool true) ∧ Below w.heap.size w w' := by
  refine x_enter 148 Try.func10 rfl rfl (fun a hs hd ha0 => ?_)
  have t0 : a.eval (.tmp 0) = .slice A0 (m) (c0) := ha0 0 _ rfl
  have t1 : a.eval (.tmp 1) = .slice A1 (la) (c1) := ha0 1 _ rfl
  have t2 : a.eval (.tmp 2) = .slice A2 (lb) (c2) := ha0 2 _ rfl
  have t3 : a.eval (.tmp 3) = .int .i64 (z) := ha0 3 _ rfl
  have t4 : a.eval (.tmp 4) = .int .u8 ((x : Nat) : Int) := ha0 4 _ rfl
  clear ha0
  refine w2_seq (fun K_1 hK_1 => ?_)
  refine x_region (by kernel_rfl) ?_
  refine op_val (d := 10) (v := .bool (false)) rfl rfl (o_assign rfl rfl) ?_
  refine x_nil ?_
  refine hK_1 _ _ ?_
  refine w2_seq (fun K_2 hK_2 => ?_)
  refine w2_seq (fun K_3 hK_3 => ?_)
  refine x_region (by kernel_rfl) ?_
  refine op_val (d := 26) (v := .slice A1 (la) (c1)) rfl rfl (o_move rfl ((pm rfl).trans t1)) ?_
  refine op_val (d := 27) (v := .int .i64 ((la : Nat) : Int)) rfl rfl (o_len rfl (pe hs rfl rfl)) ?_
  refine op_val (d := 28) (v := .bool (false)) rfl rfl (o_eq (o_gtr (m := la) (n := 500) rfl (pe hs rfl rfl) rfl) (by rw [decide_eq_false (by omega)])) ?_
  refine op_val (d := 29) (v := .bool (false)) rfl rfl (o_move rfl (pe hs rfl rfl)) ?_
  refine op_valG (e := 29) (d := 30) (v := .slice A2 (lb) (c2)) rfl rfl (by kernel_rfl) (pe hs rfl rfl) (o_move rfl ((pm rfl).trans t2)) ?_
  refine op_valG (e := 29) (d := 31) (v := .int .i64 ((lb : Nat) : Int)) rfl rfl (by kernel_rfl) (pe hs rfl rfl) (o_len rfl (pe hs rfl rfl)) ?_
  refine op_valG (e := 29) (d := 32) (v := .bool (false)) rfl rfl (by kernel_rfl) (pe hs rfl rfl) (o_eq (o_gtr (m := lb) (n := 500) rfl (pe hs rfl rfl) rfl) (by rw [decide_eq_false (by omega)])) ?_
  refine op_val (d := 33) (v := .bool (false)) rfl rfl (o_pickF rfl (pe hs rfl rfl) (pe hs rfl rfl)) ?_
  refine op_val (d := 34) (v := .bool (false)) rfl rfl (o_move rfl (pe hs rfl rfl)) ?_
  refine op_valG (e := 34) (d := 35) (v := .int .u8 ((x : Nat) : Int)) rfl rfl (by kernel_rfl) (pe hs rfl rfl) (o_move rfl ((pm rfl).trans t4)) ?_
  refine op_valG (e := 34) (d := 36) (v := .bool (true)) rfl rfl (by kernel_rfl) (pe hs rfl rfl) (o_eq (o_eql (m := x) (n := 0) rfl (pe hs rfl rfl) rfl) (by rw [decide_eq_true hq])) ?_
  refine op_val (d := 37) (v := .bool (true)) rfl rfl (o_pickF rfl (pe hs rfl rfl) (pe hs rfl rfl)) ?_
  refine x_nil ?_
  refine hK_3 _ _ ?_
  refine w2_condT (pe hs rfl rfl) ?_
  refine w2_seq (fun K_4 hK_4 => ?_)
  refine x_region (by kernel_rfl) ?_
  refine op_call (vs := #[]) rfl rfl (exec_call Try.func34 (by kernel_rfl) (by kernel_rfl) _ rfl _ _ (args0)) (awake12_any _) (fun e_1 w_1 hR_1 => ?_)
  obtain ⟨rfl, hb_2⟩ := hR_1
  refine ⟨_, rfl, ?_⟩
  refine op_val (d := 10) (v := .bool (true)) rfl rfl (o_assign rfl (pe hs rfl rfl)) ?_
  refine x_nil ?_
  refine hK_4 _ _ ?_
  refine w2_ret ?_
  refine thn_ret ?_
  refine ret1 rfl hd (pe hs rfl rfl) ?_
  exact ⟨rfl, hb_2⟩
set_option maxHeartbeats 1000000 in
theorem RecDeadM {A0 A1 A2 : Option Addr} {c0 c1 c2 m la lb : Nat} {ks xa xb : List Nat} (z : Int) (x : Nat) (hx8 : x < 256) (w : World) (h0 : Bs w A0 c0 ks) (h1 : Bs w A1 c1 xa) (h2 : Bs w A2 c2 xb) (hm : ks.length = m) (hla : xa.length = la) (hlb : xb.length = lb) (hp : la ≤ 500) (hp2 : lb ≤ 500) (hx : ¬ x = 0) :
    Calls Try.prog 10 #[.slice A0 (m) (c0), .slice A1 (la) (c1), .slice A2 (lb) (c2), .int .i64 (z), .int .u8 ((x : Nat) : Int)] w fun e w' => e = .returned (.bool true) ∧ Below w.heap.size w w' := by
  have hs1 := sizeN_top la
  have hs2 := sizeN_top lb
  obtain ⟨co, hco⟩ : ∃ q : Co, q = ⟨padTo 32 ks, 0, everyN ((9 : Nat) : Int), 0⟩ := ⟨_, rfl⟩
  have hn0 : co.n = 0 := by rw [hco]
  have hc0 : co.cnt = 0 := by rw [hco]
  refine x_enter 148 Try.func10 rfl rfl (fun a hs hd ha0 => ?_)
  have t0 : a.eval (.tmp 0) = .slice A0 (m) (c0) := ha0 0 _ rfl
  have t1 : a.eval (.tmp 1) = .slice A1 (la) (c1) := ha0 1 _ rfl
  have t2 : a.eval (.tmp 2) = .slice A2 (lb) (c2) := ha0 2 _ rfl
  have t3 : a.eval (.tmp 3) = .int .i64 (z) := ha0 3 _ rfl
  have t4 : a.eval (.tmp 4) = .int .u8 ((x : Nat) : Int) := ha0 4 _ rfl
  clear ha0
  refine w2_seq (fun K_1 hK_1 => ?_)
  refine x_region (by kernel_rfl) ?_
  refine op_val (d := 10) (v := .bool (false)) rfl rfl (o_assign rfl rfl) ?_
  refine x_nil ?_
  refine hK_1 _ _ ?_
  refine w2_seq (fun K_2 hK_2 => ?_)
  refine w2_seq (fun K_3 hK_3 => ?_)
  refine x_region (by kernel_rfl) ?_
  refine op_val (d := 26) (v := .slice A1 (la) (c1)) rfl rfl (o_move rfl ((pm rfl).trans t1)) ?_
  refine op_val (d := 27) (v := .int .i64 ((la : Nat) : Int)) rfl rfl (o_len rfl (pe hs rfl rfl)) ?_
  refine op_val (d := 28) (v := .bool (false)) rfl rfl (o_eq (o_gtr (m := la) (n := 500) rfl (pe hs rfl rfl) rfl) (by rw [decide_eq_false (by omega)])) ?_
  refine op_val (d := 29) (v := .bool (false)) rfl rfl (o_move rfl (pe hs rfl rfl)) ?_
  refine op_valG (e := 29) (d := 30) (v := .slice A2 (lb) (c2)) rfl rfl (by kernel_rfl) (pe hs rfl rfl) (o_move rfl ((pm rfl).trans t2)) ?_
  refine op_valG (e := 29) (d := 31) (v := .int .i64 ((lb : Nat) : Int)) rfl rfl (by kernel_rfl) (pe hs rfl rfl) (o_len rfl (pe hs rfl rfl)) ?_
  refine op_valG (e := 29) (d := 32) (v := .bool (false)) rfl rfl (by kernel_rfl) (pe hs rfl rfl) (o_eq (o_gtr (m := lb) (n := 500) rfl (pe hs rfl rfl) rfl) (by rw [decide_eq_false (by omega)])) ?_
  refine op_val (d := 33) (v := .bool (false)) rfl rfl (o_pickF rfl (pe hs rfl rfl) (pe hs rfl rfl)) ?_
  refine op_val (d := 34) (v := .bool (false)) rfl rfl (o_move rfl (pe hs rfl rfl)) ?_
  refine op_valG (e := 34) (d := 35) (v := .int .u8 ((x : Nat) : Int)) rfl rfl (by kernel_rfl) (pe hs rfl rfl) (o_move rfl ((pm rfl).trans t4)) ?_
  refine op_valG (e := 34) (d := 36) (v := .bool (false)) rfl rfl (by kernel_rfl) (pe hs rfl rfl) (o_eq (o_eql (m := x) (n := 0) rfl (pe hs rfl rfl) rfl) (by rw [decide_eq_false (by omega)])) ?_
  refine op_val (d := 37) (v := .bool (false)) rfl rfl (o_pickF rfl (pe hs rfl rfl) (pe hs rfl rfl)) ?_
  refine x_nil ?_
  refine hK_3 _ _ ?_
  refine w2_condF (pe hs rfl rfl) ?_
  refine w2_skip ?_
  refine hK_2 _ _ ?_
  refine w2_seq (fun K_4 hK_4 => ?_)
  refine x_region (by kernel_rfl) ?_
  refine op_val (d := 39) (v := .slice A0 (m) (c0)) rfl rfl (o_move rfl ((pm rfl).trans t0)) ?_
  refine op_call (vs := #[.slice A0 (m) (c0)]) rfl rfl (exec_call Try.func35 (by kernel_rfl) (by kernel_rfl) _ rfl _ _ (args1 (pe hs rfl rfl))) (Key_any _ h0 hm) (fun e_1 w_1 hR_1 => ?_)
  obtain ⟨A_1, c_1, rfl, ho_1, hb_1⟩ := hR_1
  refine ⟨_, rfl, ?_⟩
  refine op_val (d := 11) (v := .slice A_1 (32) (c_1)) rfl rfl (o_assign rfl (pe hs rfl rfl)) ?_
  refine x_nil ?_
  refine hK_4 _ _ ?_
  refine w2_seq (fun K_5 hK_5 => ?_)
  refine x_region (by kernel_rfl) ?_
  refine op_val (d := 42) (v := .slice A_1 (32) (c_1)) rfl rfl (o_move rfl (pe hs rfl rfl)) ?_
  refine op_call (vs := #[.slice A_1 (32) (c_1)]) rfl rfl (exec_call Try.func36 (by kernel_rfl) (by kernel_rfl) _ rfl _ _ (args1 (pe hs rfl rfl))) (NewCipher_any _ (ho_1).bs (by simp only [padTo_length]) rfl) (fun e_2 w_2 hR_2 => ?_)
  obtain ⟨M_1, g_1, rfl, hC_1, hge_1, hb_2⟩ := hR_2
  have sp_1 : Sep (blkA A_1) M_1 := Sep.new ho_1.lt hge_1
  have gg_1 := hge_1.down hb_1.size
  replace ho_1 := ho_1.nx hb_2
  have HB_1 := below_from hb_1 hb_2
  refine ⟨_, rfl, ?_⟩
  refine op_val (d := 41) (v := .tuple #[.pointer (some ⟨g_1, 0, none⟩), .int .i64 ((0 : Nat) : Int)]) rfl rfl (o_move rfl (pe hs rfl rfl)) ?_
  refine op_val (d := 44) (v := .pointer (some ⟨g_1, 0, none⟩)) rfl rfl (o_extract rfl (pe hs rfl rfl) rfl) ?_
  refine op_val (d := 45) (v := .int .i64 ((0 : Nat) : Int)) rfl rfl (o_extract rfl (pe hs rfl rfl) rfl) ?_
  refine op_val (d := 12) (v := .pointer (some ⟨g_1, 0, none⟩)) rfl rfl (o_assign rfl (pe hs rfl rfl)) ?_
  refine op_val (d := 13) (v := .int .i64 ((0 : Nat) : Int)) rfl rfl (o_assign rfl (pe hs rfl rfl)) ?_
  refine x_nil ?_
  refine hK_5 _ _ ?_
  refine w2_seq (fun K_6 hK_6 => ?_)
  refine x_region (by kernel_rfl) ?_
  refine op_val (d := 47) (v := .slice A_1 (32) (c_1)) rfl rfl (o_move rfl (pe hs rfl rfl)) ?_
  refine op_call (vs := #[.slice A_1 (32) (c_1)]) rfl rfl (exec_call Try.func36 (by kernel_rfl) (by kernel_rfl) _ rfl _ _ (args1 (pe hs rfl rfl))) (NewCipher_any _ (ho_1).bs (by simp only [padTo_length]) rfl) (fun e_3 w_3 hR_3 => ?_)
  obtain ⟨M_2, g_2, rfl, hC_2, hge_2, hb_3⟩ := hR_3
  have sp_2 : Sep (blkA A_1) M_2 := Sep.new ho_1.lt hge_2
  have sp_3 : Sep M_1 M_2 := Sep.new hC_1.lt hge_2
  have gg_2 := hge_2.down HB_1.size
  replace ho_1 := ho_1.nx hb_3
  replace hC_1 := hC_1.nx hb_3
  have HB_2 := below_from HB_1 hb_3
  refine ⟨_, rfl, ?_⟩
  refine op_val (d := 46) (v := .tuple #[.pointer (some ⟨g_2, 0, none⟩), .int .i64 ((0 : Nat) : Int)]) rfl rfl (o_move rfl (pe hs rfl rfl)) ?_
  refine op_val (d := 49) (v := .pointer (some ⟨g_2, 0, none⟩)) rfl rfl (o_extract rfl (pe hs rfl rfl) rfl) ?_
  refine op_val (d := 50) (v := .int .i64 ((0 : Nat) : Int)) rfl rfl (o_extract rfl (pe hs rfl rfl) rfl) ?_
  refine op_val (d := 14) (v := .pointer (some ⟨g_2, 0, none⟩)) rfl rfl (o_assign rfl (pe hs rfl rfl)) ?_
  refine op_val (d := 15) (v := .int .i64 ((0 : Nat) : Int)) rfl rfl (o_assign rfl (pe hs rfl rfl)) ?_
  refine x_nil ?_
  refine hK_6 _ _ ?_
  refine w2_seq (fun K_7 hK_7 => ?_)
  refine w2_seq (fun K_8 hK_8 => ?_)
  refine x_region (by kernel_rfl) ?_
  refine op_val (d := 51) (v := .int .i64 ((0 : Nat) : Int)) rfl rfl (o_move rfl (pe hs rfl rfl)) ?_
  refine op_val (d := 52) (v := .bool (false)) rfl rfl (o_eq (o_neq (m := 0) (n := 0) rfl (pe hs rfl rfl) rfl) rfl) ?_
  refine op_val (d := 53) (v := .bool (false)) rfl rfl (o_move rfl (pe hs rfl rfl)) ?_
  refine op_valG (e := 53) (d := 54) (v := .int .i64 ((0 : Nat) : Int)) rfl rfl (by kernel_rfl) (pe hs rfl rfl) (o_move rfl (pe hs rfl rfl)) ?_
  refine op_valG (e := 53) (d := 55) (v := .bool (false)) rfl rfl (by kernel_rfl) (pe hs rfl rfl) (o_eq (o_neq (m := 0) (n := 0) rfl (pe hs rfl rfl) rfl) rfl) ?_
  refine op_val (d := 56) (v := .bool (false)) rfl rfl (o_pickF rfl (pe hs rfl rfl) (pe hs rfl rfl)) ?_
  refine x_nil ?_
  refine hK_8 _ _ ?_
  refine w2_condF (pe hs rfl rfl) ?_
  refine w2_skip ?_
  refine hK_7 _ _ ?_
  refine w2_seq (fun K_9 hK_9 => ?_)
  refine x_region (by kernel_rfl) ?_
  refine op_val (d := 57) (v := .pointer (some ⟨g_1, 0, none⟩)) rfl rfl (o_move rfl (pe hs rfl rfl)) ?_
  refine op_call (vs := #[.pointer (some ⟨g_1, 0, none⟩), .int .i64 ((9 : Nat) : Int)]) rfl rfl (exec_call Try.func37 (by kernel_rfl) (by kernel_rfl) _ rfl _ _ (args2 (pe hs rfl rfl) rfl)) (NewWriter_any (((9 : Nat) : Int) : Int) _ hC_1) (fun e_4 w_4 hR_4 => ?_)
  obtain ⟨M_3, g_3, rfl, hW_1, hN_1, hb_4⟩ := hR_4
  rw [← hco] at hW_1
  have sp_4 : Sep (blkA A_1) M_3 := hN_1.sep (sp_1) ho_1.lt
  have sp_5 : Sep M_2 M_3 := hN_1.sep (sp_3.symm) hC_2.lt
  have gg_3 := hN_1.ge gg_1 HB_2.size
  replace ho_1 := ho_1.nx hb_4
  replace hC_2 := hC_2.nx hb_4
  have HB_3 := below_from HB_2 hb_4
  refine ⟨_, rfl, ?_⟩
  refine op_val (d := 59) (v := .pointer (some ⟨g_2, 0, none⟩)) rfl rfl (o_move rfl (pe hs rfl rfl)) ?_
  refine op_call (vs := #[.pointer (some ⟨g_2, 0, none⟩), .int .i64 ((9 : Nat) : Int)]) rfl rfl (exec_call Try.func40 (by kernel_rfl) (by kernel_rfl) _ rfl _ _ (args2 (pe hs rfl rfl) rfl)) (NewReader_any (((9 : Nat) : Int) : Int) _ hC_2) (fun e_5 w_5 hR_5 => ?_)
  obtain ⟨M_4, g_4, rfl, hW_2, hN_2, hb_5⟩ := hR_5
  rw [← hco] at hW_2
  have sp_6 : Sep (blkA A_1) M_4 := hN_2.sep (sp_2) ho_1.lt
  have sp_7 : Sep M_3 M_4 := hN_2.sep (sp_5.symm) hW_1.lt
  have gg_4 := hN_2.ge gg_2 HB_3.size
  replace ho_1 := ho_1.nx hb_5
  replace hW_1 := hW_1.nx hb_5
  have HB_4 := below_from HB_3 hb_5
  refine ⟨_, rfl, ?_⟩
  refine op_val (d := 16) (v := .pointer (some ⟨g_3, 0, none⟩)) rfl rfl (o_assign rfl (pe hs rfl rfl)) ?_
  refine op_val (d := 17) (v := .pointer (some ⟨g_4, 0, none⟩)) rfl rfl (o_assign rfl (pe hs rfl rfl)) ?_
  refine x_nil ?_
  refine hK_9 _ _ ?_
  refine w2_seq (fun K_10 hK_10 => ?_)
  refine x_region (by kernel_rfl) ?_
  refine op_val (d := 62) (v := .pointer (some ⟨g_3, 0, none⟩)) rfl rfl (o_move rfl (pe hs rfl rfl)) ?_
  refine op_val (d := 63) (v := .slice A1 (la) (c1)) rfl rfl (o_move rfl ((pm rfl).trans t1)) ?_
  refine op_call (vs := #[.pointer (some ⟨g_3, 0, none⟩), .slice A1 (la) (c1)]) rfl rfl (exec_call Try.func38 (by kernel_rfl) (by kernel_rfl) _ rfl _ _ (args2 (pe hs rfl rfl) (pe hs rfl rfl))) (Put_any _ hW_1 (h1.below HB_4) hla (by omega) (by omega) (by omega)) (fun e_6 w_6 hR_6 => ?_)
  obtain ⟨A_2, c_2, rfl, ho_2, ⟨M_5, hW_3, hN_3, hs_1⟩, hX_1⟩ := hR_6
  have hl_1 : (recL co xa).length = sizeN la + 34 := by rw [recL_length _ (by have h9 : (xa).length = la := hla; omega)]; rw [show (xa).length = la from hla]
  have sp_8 : Sep (blkA A_1) M_5 := hN_3.sep (sp_4) ho_1.lt
  have sp_9 : Sep (blkA A_2) (blkA A_1) := (Sep.new ho_1.lt ho_2.ge').symm
  have sp_10 : Sep M_4 M_5 := hN_3.sep (sp_7.symm) hW_2.lt
  have sp_11 : Sep (blkA A_2) M_4 := (Sep.new hW_2.lt ho_2.ge').symm
  replace ho_1 := ho_1.keepM hX_1 (sp_4)
  replace hW_2 := hW_2.keepM hX_1 (sp_7.symm)
  have gg_5 := hN_3.ge gg_3 HB_4.size
  replace ho_2 := ho_2.mono HB_4.size
  have HB_5 := hX_1.below HB_4 HB_4.size gg_3
  refine ⟨_, rfl, ?_⟩
  refine op_val (d := 61) (v := .tuple #[.slice A_2 (sizeN la + 34) (c_2), .int .i64 ((0 : Nat) : Int)]) rfl rfl (o_move rfl (pe hs rfl rfl)) ?_
  refine op_val (d := 65) (v := .slice A_2 (sizeN la + 34) (c_2)) rfl rfl (o_extract rfl (pe hs rfl rfl) rfl) ?_
  refine op_val (d := 66) (v := .int .i64 ((0 : Nat) : Int)) rfl rfl (o_extract rfl (pe hs rfl rfl) rfl) ?_
  refine op_val (d := 18) (v := .slice A_2 (sizeN la + 34) (c_2)) rfl rfl (o_assign rfl (pe hs rfl rfl)) ?_
  refine op_val (d := 19) (v := .int .i64 ((0 : Nat) : Int)) rfl rfl (o_assign rfl (pe hs rfl rfl)) ?_
  refine x_nil ?_
  refine hK_10 _ _ ?_
  refine w2_seq (fun K_11 hK_11 => ?_)
  refine x_region (by kernel_rfl) ?_
  refine op_val (d := 68) (v := .pointer (some ⟨g_3, 0, none⟩)) rfl rfl (o_move rfl (pe hs rfl rfl)) ?_
  refine op_val (d := 69) (v := .slice A2 (lb) (c2)) rfl rfl (o_move rfl ((pm rfl).trans t2)) ?_
  refine op_call (vs := #[.pointer (some ⟨g_3, 0, none⟩), .slice A2 (lb) (c2)]) rfl rfl (exec_call Try.func38 (by kernel_rfl) (by kernel_rfl) _ rfl _ _ (args2 (pe hs rfl rfl) (pe hs rfl rfl))) (Put_any _ hW_3 (h2.below HB_5) hlb (by omega) (by show co.n + 2 < _; omega) (by show co.cnt + 1 < _; omega)) (fun e_7 w_7 hR_7 => ?_)
  obtain ⟨A_3, c_3, rfl, ho_3, ⟨M_6, hW_4, hN_4, hs_2⟩, hX_2⟩ := hR_7
  have hl_2 : (recL co.put xb).length = sizeN lb + 34 := by rw [recL_length _ (by have h9 : (xb).length = lb := hlb; omega)]; rw [show (xb).length = lb from hlb]
  have sp_12 : Sep (blkA A_1) M_6 := hN_4.sep (sp_8) ho_1.lt
  have sp_13 : Sep (blkA A_3) (blkA A_1) := (Sep.new ho_1.lt ho_3.ge').symm
  have sp_14 : Sep M_4 M_6 := hN_4.sep (sp_10) hW_2.lt
  have sp_15 : Sep (blkA A_3) M_4 := (Sep.new hW_2.lt ho_3.ge').symm
  have sp_16 : Sep (blkA A_2) M_6 := hN_4.sep (hs_1) ho_2.lt
  have sp_17 : Sep (blkA A_3) (blkA A_2) := (Sep.new ho_2.lt ho_3.ge').symm
  replace ho_1 := ho_1.keepM hX_2 (sp_8)
  replace hW_2 := hW_2.keepM hX_2 (sp_10)
  replace ho_2 := ho_2.keepM hX_2 (hs_1)
  have gg_6 := hN_4.ge gg_5 HB_5.size
  replace ho_3 := ho_3.mono HB_5.size
  have HB_6 := hX_2.below HB_5 HB_5.size gg_5
  refine ⟨_, rfl, ?_⟩
  refine op_val (d := 67) (v := .tuple #[.slice A_3 (sizeN lb + 34) (c_3), .int .i64 ((0 : Nat) : Int)]) rfl rfl (o_move rfl (pe hs rfl rfl)) ?_
  refine op_val (d := 71) (v := .slice A_3 (sizeN lb + 34) (c_3)) rfl rfl (o_extract rfl (pe hs rfl rfl) rfl) ?_
  refine op_val (d := 72) (v := .int .i64 ((0 : Nat) : Int)) rfl rfl (o_extract rfl (pe hs rfl rfl) rfl) ?_
  refine op_val (d := 20) (v := .slice A_3 (sizeN lb + 34) (c_3)) rfl rfl (o_assign rfl (pe hs rfl rfl)) ?_
  refine op_val (d := 21) (v := .int .i64 ((0 : Nat) : Int)) rfl rfl (o_assign rfl (pe hs rfl rfl)) ?_
  refine x_nil ?_
  refine hK_11 _ _ ?_
  refine w2_seq (fun K_12 hK_12 => ?_)
  refine w2_seq (fun K_13 hK_13 => ?_)
  refine x_region (by kernel_rfl) ?_
  refine op_val (d := 73) (v := .int .i64 ((0 : Nat) : Int)) rfl rfl (o_move rfl (pe hs rfl rfl)) ?_
  refine op_val (d := 74) (v := .bool (false)) rfl rfl (o_eq (o_neq (m := 0) (n := 0) rfl (pe hs rfl rfl) rfl) rfl) ?_
  refine op_val (d := 75) (v := .bool (false)) rfl rfl (o_move rfl (pe hs rfl rfl)) ?_
  refine op_valG (e := 75) (d := 76) (v := .int .i64 ((0 : Nat) : Int)) rfl rfl (by kernel_rfl) (pe hs rfl rfl) (o_move rfl (pe hs rfl rfl)) ?_
  refine op_valG (e := 75) (d := 77) (v := .bool (false)) rfl rfl (by kernel_rfl) (pe hs rfl rfl) (o_eq (o_neq (m := 0) (n := 0) rfl (pe hs rfl rfl) rfl) rfl) ?_
  refine op_val (d := 78) (v := .bool (false)) rfl rfl (o_pickF rfl (pe hs rfl rfl) (pe hs rfl rfl)) ?_
  refine op_val (d := 79) (v := .bool (false)) rfl rfl (o_move rfl (pe hs rfl rfl)) ?_
  refine op_valG (e := 79) (d := 80) (v := .slice A_3 (sizeN lb + 34) (c_3)) rfl rfl (by kernel_rfl) (pe hs rfl rfl) (o_move rfl (pe hs rfl rfl)) ?_
  refine op_valG (e := 79) (d := 81) (v := .int .i64 ((sizeN lb + 34 : Nat) : Int)) rfl rfl (by kernel_rfl) (pe hs rfl rfl) (o_len rfl (pe hs rfl rfl)) ?_
  refine op_valG (e := 79) (d := 82) (v := .bool (false)) rfl rfl (by kernel_rfl) (pe hs rfl rfl) (o_eq (o_lss (m := (sizeN lb + 34)) (n := 34) rfl (pe hs rfl rfl) rfl) (by rw [decide_eq_false (by omega)])) ?_
  refine op_val (d := 83) (v := .bool (false)) rfl rfl (o_pickF rfl (pe hs rfl rfl) (pe hs rfl rfl)) ?_
  refine x_nil ?_
  refine hK_13 _ _ ?_
  refine w2_condF (pe hs rfl rfl) ?_
  refine w2_skip ?_
  refine hK_12 _ _ ?_
  refine w2_seq (fun K_14 hK_14 => ?_)
  have hz := at64_lt z
  have b1 := getD_lt ho_3.b8 (2 + (at64 z % 16))
  refine x_region (by kernel_rfl) ?_
  refine op_val (d := 84) (v := .slice A_3 (sizeN lb + 34) (c_3)) rfl rfl (o_move rfl (pe hs rfl rfl)) ?_
  refine op_val (d := 85) (v := .int .i64 (z)) rfl rfl (o_move rfl ((pm rfl).trans t3)) ?_
  refine op_val (d := 86) (v := .int .u64 ((at64 z : Nat) : Int)) rfl rfl (o_convZ rfl (pe hs rfl rfl) ⟨.int .i64, fun _ => by kernel_rfl⟩ (fun _ => by kernel_rfl)) ?_
  refine op_val (d := 87) (v := .int .u64 (((at64 z) % 16 : Nat) : Int)) rfl rfl (o_rem (m := (at64 z)) (n := 16) rfl (pe hs rfl rfl) rfl (by omega) (by rw [IntKind.wrap_u64]; omega)) ?_
  refine op_val (d := 88) (v := .int .i64 (((at64 z) % 16 : Nat) : Int)) rfl rfl (o_conv (m := ((at64 z) % 16)) (r := (at64 z) % 16) rfl (pe hs rfl rfl) ⟨.int .u64, fun _ => by kernel_rfl⟩ (fun _ => by kernel_rfl) (IntWalk.i64_in _ (by omega))) ?_
  refine op_val (d := 89) (v := .int .i64 ((2 + ((at64 z) % 16) : Nat) : Int)) rfl rfl (o_add64 (m := 2) (n := ((at64 z) % 16)) rfl rfl (pe hs rfl rfl) (by omega)) ?_
  refine op_val (d := 90) (v := .pointer (atA A_3 (2 + ((at64 z) % 16)))) rfl rfl (o_ix (k := 2 + ((at64 z) % 16)) rfl (pe hs rfl rfl) (pe hs rfl rfl) (by omega) ((ho_3).bs.some (by rw [hl_2]; omega))) ?_
  refine op_val (d := 91) (v := .int .u8 (((recL co.put xb).getD (2 + ((at64 z) % 16)) 0 : Nat) : Int)) rfl rfl (o_ld8 rfl (pe hs rfl rfl) (ho_3).bs (by rw [hl_2]; omega) rfl) ?_
  refine op_val (d := 92) (v := .int .u8 ((x : Nat) : Int)) rfl rfl (o_move rfl ((pm rfl).trans t4)) ?_
  refine op_val (d := 93) (v := .int .u8 ((((recL co.put xb).getD (2 + ((at64 z) % 16)) 0) ^^^ x : Nat) : Int)) rfl rfl (o_bits (m := ((recL co.put xb).getD (2 + ((at64 z) % 16)) 0)) (n := x) (((recL co.put xb).getD (2 + ((at64 z) % 16)) 0) ^^^ x) rfl (pe hs rfl rfl) (pe hs rfl rfl) (by decide) (u8_xor_nat _ _ b1 hx8)) ?_
  refine op_val (d := 94) (v := .pointer (atA A_3 (2 + ((at64 z) % 16)))) rfl rfl (o_ix (k := 2 + ((at64 z) % 16)) rfl (pe hs rfl rfl) (pe hs rfl rfl) (by omega) ((ho_3).bs.some (by rw [hl_2]; omega))) ?_
  refine op_do rfl rfl (o_st8X rfl (pe hs rfl rfl) (pe hs rfl rfl) ho_3 (by have h9 : (recL co.put xb).length = sizeN lb + 34 := hl_2; omega) (Nat.xor_lt_two_pow (n := 8) b1 hx8) ⟨by kernel_rfl, by kernel_rfl⟩) (fun w_8 hR_8 => ?_)
  obtain ⟨ho_4, hX_3⟩ := hR_8
  replace ho_1 := ho_1.keepM hX_3 (sp_13.symm)
  replace hW_2 := hW_2.keepM hX_3 (sp_15.symm)
  replace ho_2 := ho_2.keepM hX_3 (sp_17.symm)
  replace hW_4 := hW_4.keepM hX_3 (hs_2.symm)
  have HB_7 := hX_3.below HB_6 HB_6.size ho_3.ge'
  refine x_nil ?_
  refine hK_14 _ _ ?_
  refine w2_seq (fun K_15 hK_15 => ?_)
  refine x_region (by kernel_rfl) ?_
  refine op_val (d := 96) (v := .pointer (some ⟨g_4, 0, none⟩)) rfl rfl (o_move rfl (pe hs rfl rfl)) ?_
  refine op_ex (d := 97) rfl rfl (o_build0  rfl  ) (fun v_1 w_9 hR_9 => ?_)
  obtain ⟨g_5, rfl, ho_5, hb_7⟩ := hR_9
  have hob_1 := ho_5
  have lt_1 := ho_1.lt
  have lt_2 := hW_2.lt
  have lt_3 := ho_2.lt
  have lt_4 := hW_4.lt
  have lt_5 := ho_4.lt
  replace ho_5 := ho_5.mono HB_7.size
  replace ho_1 := ho_1.nx hb_7
  replace hW_2 := hW_2.nx hb_7
  replace ho_2 := ho_2.nx hb_7
  replace hW_4 := hW_4.nx hb_7
  replace ho_4 := ho_4.nx hb_7
  have HB_8 := below_from HB_7 hb_7
  refine op_val (d := 98) (v := .slice A_2 (sizeN la + 34) (c_2)) rfl rfl (o_move rfl (pe hs rfl rfl)) ?_
  have sz_1 : w_8.heap.size ≤ w_9.heap.size := hb_7.size
  refine op_ex (d := 99) rfl rfl (o_append rfl (pe hs rfl rfl) (pe hs rfl rfl) hob_1 (ho_2).bs (by simp only [List.length_nil]) hl_1 (by omega) sz_1) (fun v_2 w_10 hR_10 => ?_)
  obtain ⟨A_4, c_4, rfl, ho_6, hb_8, hg_1, hat_1⟩ := hR_10
  replace ho_1 := ho_1.keep (fun k hk => hb_8.block k (lt_1 k hk))
  replace hW_2 := hW_2.keep (fun k hk => hb_8.block k (lt_2 k hk)) hb_8.size
  replace ho_2 := ho_2.keep (fun k hk => hb_8.block k (lt_3 k hk))
  replace hW_4 := hW_4.keep (fun k hk => hb_8.block k (lt_4 k hk)) hb_8.size
  replace ho_4 := ho_4.keep (fun k hk => hb_8.block k (lt_5 k hk))
  have HB_9 := HB_8.trans (hb_8.mono HB_7.size)
  have hob_2 := ho_6
  replace ho_6 := ho_6.mono HB_7.size
  have hl_3 : (([]) ++ (recL co xa)).length = 0 + (sizeN la + 34) := by rw [List.length_append]; have h8 : (([] : List Nat)).length = 0 := (by simp only [List.length_nil]); have h9 : (recL co xa).length = sizeN la + 34 := hl_1; omega
  have sz_2 : w_8.heap.size ≤ w_10.heap.size := Nat.le_trans sz_1 hb_8.size
  refine op_val (d := 100) (v := .slice A_3 (sizeN lb + 34) (c_3)) rfl rfl (o_move rfl (pe hs rfl rfl)) ?_
  have sz_3 : w_8.heap.size ≤ w_10.heap.size := sz_2
  refine op_ex (d := 101) rfl rfl (o_append rfl (pe hs rfl rfl) (pe hs rfl rfl) hob_2 (ho_4).bs hl_3 (by rw [List.length_set]; exact hl_2) (by omega) sz_3) (fun v_3 w_11 hR_11 => ?_)
  obtain ⟨A_5, c_5, rfl, ho_7, hb_9, hg_2, hat_2⟩ := hR_11
  replace ho_1 := ho_1.keep (fun k hk => hb_9.block k (lt_1 k hk))
  replace hW_2 := hW_2.keep (fun k hk => hb_9.block k (lt_2 k hk)) hb_9.size
  replace ho_2 := ho_2.keep (fun k hk => hb_9.block k (lt_3 k hk))
  replace hW_4 := hW_4.keep (fun k hk => hb_9.block k (lt_4 k hk)) hb_9.size
  replace ho_4 := ho_4.keep (fun k hk => hb_9.block k (lt_5 k hk))
  have HB_10 := HB_9.trans (hb_9.mono HB_7.size)
  have hob_3 := ho_7
  replace ho_7 := ho_7.mono HB_7.size
  have hl_4 : ((([]) ++ (recL co xa)) ++ ((recL co.put xb).set (2 + ((at64 z) % 16)) (((recL co.put xb).getD (2 + ((at64 z) % 16)) 0) ^^^ x))).length = (0 + (sizeN la + 34)) + (sizeN lb + 34) := by rw [List.length_append]; have h8 : (([]) ++ (recL co xa)).length = 0 + (sizeN la + 34) := hl_3; have h9 : ((recL co.put xb).set (2 + ((at64 z) % 16)) (((recL co.put xb).getD (2 + ((at64 z) % 16)) 0) ^^^ x)).length = sizeN lb + 34 := (by rw [List.length_set]; exact hl_2); omega
  have sz_4 : w_8.heap.size ≤ w_11.heap.size := Nat.le_trans sz_3 hb_9.size
  refine op_call (vs := #[.pointer (some ⟨g_4, 0, none⟩), .slice A_5 ((0 + (sizeN la + 34)) + (sizeN lb + 34)) (c_5)]) rfl rfl (exec_call Try.func41 (by kernel_rfl) (by kernel_rfl) _ rfl _ _ (args2 (pe hs rfl rfl) (pe hs rfl rfl))) (Feed_any _ hW_2 rfl (ho_7).bs hl_4 (feed_dead _ (by omega) _ _ (Nat.mod_lt _ (by omega)) (by omega)) (by show co.n + (0 + (0 + (sizeN la + 34) + (sizeN lb + 34))) < _; omega) (by show co.cnt + (0 + (0 + (sizeN la + 34) + (sizeN lb + 34))) < _; omega) (by show (0 + (0 + (sizeN la + 34) + (sizeN lb + 34))) ≤ _; omega)) (fun e_8 w_12 hR_12 => ?_)
  obtain ⟨ps_1, A_6, c_6, rfl, hm_1, hRw_1, hAO_1, ⟨M_7, hR_13, hN_5, hs_3, hs_4⟩, hX_4⟩ := hR_12
  obtain ⟨p_1, rfl, hp_1⟩ := map_one hm_1
  have sp_18 : Sep (blkA A_1) M_7 := hN_5.sep (sp_6) ho_1.lt
  have sp_19 : Sep (blkA A_6) (blkA A_1) := (Sep.new ho_1.lt hRw_1.ge').symm
  have sp_20 : Sep (blkP ([p_1])) (blkA A_1) := (Sep.new ho_1.lt hAO_1.ge').symm
  have sp_21 : Sep (blkA A_2) M_7 := hN_5.sep (sp_11) ho_2.lt
  have sp_22 : Sep (blkA A_6) (blkA A_2) := (Sep.new ho_2.lt hRw_1.ge').symm
  have sp_23 : Sep (blkP ([p_1])) (blkA A_2) := (Sep.new ho_2.lt hAO_1.ge').symm
  have sp_24 : Sep M_6 M_7 := hN_5.sep (sp_14.symm) hW_4.lt
  have sp_25 : Sep (blkA A_6) M_6 := (Sep.new hW_4.lt hRw_1.ge').symm
  have sp_26 : Sep (blkP ([p_1])) M_6 := (Sep.new hW_4.lt hAO_1.ge').symm
  have sp_27 : Sep (blkA A_3) M_7 := hN_5.sep (sp_15.symm.symm) ho_4.lt
  have sp_28 : Sep (blkA A_6) (blkA A_3) := (Sep.new ho_4.lt hRw_1.ge').symm
  have sp_29 : Sep (blkP ([p_1])) (blkA A_3) := (Sep.new ho_4.lt hAO_1.ge').symm
  replace ho_1 := ho_1.keepM hX_4 (sp_6)
  replace ho_2 := ho_2.keepM hX_4 (sp_11)
  replace hW_4 := hW_4.keepM hX_4 (sp_14.symm)
  replace ho_4 := ho_4.keepM hX_4 (sp_15.symm.symm)
  have gg_7 := hN_5.ge gg_4 HB_10.size
  replace hRw_1 := hRw_1.mono HB_10.size
  replace hAO_1 := hAO_1.mono HB_10.size
  have HB_11 := hX_4.below HB_10 HB_10.size gg_4
  obtain ⟨g_6, cur_1, rfl, hB_1, hcu_1⟩ := hRw_1.at (i := 0) (by simp)
  have hOp_1 := hAO_1 p_1 (by simp)
  refine ⟨_, rfl, ?_⟩
  refine op_val (d := 95) (v := .tuple #[.slice ((some ⟨g_6, 0, none⟩)) (1) (c_6), .int .i64 ((4 : Nat) : Int)]) rfl rfl (o_move rfl (pe hs rfl rfl)) ?_
  refine op_val (d := 103) (v := .slice ((some ⟨g_6, 0, none⟩)) (1) (c_6)) rfl rfl (o_extract rfl (pe hs rfl rfl) rfl) ?_
  refine op_val (d := 104) (v := .int .i64 ((4 : Nat) : Int)) rfl rfl (o_extract rfl (pe hs rfl rfl) rfl) ?_
  refine op_val (d := 22) (v := .slice ((some ⟨g_6, 0, none⟩)) (1) (c_6)) rfl rfl (o_assign rfl (pe hs rfl rfl)) ?_
  refine op_val (d := 23) (v := .int .i64 ((4 : Nat) : Int)) rfl rfl (o_assign rfl (pe hs rfl rfl)) ?_
  refine x_nil ?_
  refine hK_15 _ _ ?_
  refine w2_seq (fun K_16 hK_16 => ?_)
  refine x_region (by kernel_rfl) ?_
  refine op_val (d := 106) (v := .pointer (some ⟨g_4, 0, none⟩)) rfl rfl (o_move rfl (pe hs rfl rfl)) ?_
  refine op_val (d := 107) (v := .slice A_2 (sizeN la + 34) (c_2)) rfl rfl (o_move rfl (pe hs rfl rfl)) ?_
  obtain ⟨N_1, _, _, hP_1, _⟩ := hR_13.row
  have hB_2 := hP_1.blk
  refine op_call (vs := #[.pointer (some ⟨g_4, 0, none⟩), .slice A_2 (sizeN la + 34) (c_2)]) rfl rfl (exec_call Try.func41 (by kernel_rfl) (by kernel_rfl) _ rfl _ _ (args2 (pe hs rfl rfl) (pe hs rfl rfl))) (Feed_dead _ hB_2) (fun e_9 w_13 hR_14 => ?_)
  obtain ⟨rfl, rfl⟩ := hR_14
  refine ⟨_, rfl, ?_⟩
  refine op_val (d := 105) (v := .tuple #[.slice none (0) (0), .int .i64 ((10 : Nat) : Int)]) rfl rfl (o_move rfl (pe hs rfl rfl)) ?_
  refine op_val (d := 109) (v := .slice none (0) (0)) rfl rfl (o_extract rfl (pe hs rfl rfl) rfl) ?_
  refine op_val (d := 110) (v := .int .i64 ((10 : Nat) : Int)) rfl rfl (o_extract rfl (pe hs rfl rfl) rfl) ?_
  refine op_val (d := 24) (v := .slice none (0) (0)) rfl rfl (o_assign rfl (pe hs rfl rfl)) ?_
  refine op_val (d := 25) (v := .int .i64 ((10 : Nat) : Int)) rfl rfl (o_assign rfl (pe hs rfl rfl)) ?_
  refine x_nil ?_
  refine hK_16 _ _ ?_
  refine w2_seq (fun K_17 hK_17 => ?_)
  refine x_drawn 14 [fun _ v => v = .int .i64 ((4 : Nat) : Int), fun _ v => v = .bool (true), fun _ v => v = .bool (true), fun _ v => v = .slice ((some ⟨g_6, 0, none⟩)) (1) (c_6), fun _ v => v = .int .i64 ((1 : Nat) : Int), fun _ v => v = .bool (true), fun _ v => v = .bool (true), fun _ v => v = .bool (true), fun _ v => v = .slice ((some ⟨g_6, 0, none⟩)) (1) (c_6), fun _ v => v = .pointer (some ⟨g_6, 0, none⟩), fun _ v => v = .slice p_1.A (p_1.xs.length) (p_1.c), fun _ v => v = .string (strB p_1.xs), fun _ v => v = .slice A1 (la) (c1), fun _ v => v = .string (strB xa)] [111, 112, 113, 114, 115, 116, 117, 118, 119, 120, 121, 122, 123, 124] hs hd (by kernel_rfl) (by kernel_rfl) (by kernel_rfl) (by kernel_rfl) (by kernel_rfl) ⟨stLit, stLit, stLit, stLit, stLit, stLit, stLit, stLit, stLit, stLit, stLit, stLit, stLit, stLit, trivial⟩ ⟨(step_ok rfl (fun a' w' hb' hO hD => by
      have d_1 : a'.eval (.tmp 23) = .int .i64 ((4 : Nat) : Int) := (hO 23 (by decide)).trans (pe hs rfl rfl)
      exact .inl ⟨_, _, (o_move rfl d_1), rfl, Below.refl _ _⟩)),
(step_ok rfl (fun a' w' hb' hO hD => by
      have d_2 : a'.eval (.tmp 111) = .int .i64 ((4 : Nat) : Int) := hD 0 111 (by kernel_rfl) rfl
      exact .inl ⟨_, _, (o_eq (o_eql (m := 4) (n := 4) rfl d_2 rfl) rfl), rfl, Below.refl _ _⟩)),
(step_ok rfl (fun a' w' hb' hO hD => by
      have d_3 : a'.eval (.tmp 112) = .bool (true) := hD 1 112 (by kernel_rfl) rfl
      exact .inl ⟨_, _, (o_move rfl d_3), rfl, Below.refl _ _⟩)),
(step_yes 2 true 113 rfl rfl (by kernel_rfl) (fun _ _ h => h) (fun a' w' hb' hO hD => by
      have d_4 : a'.eval (.tmp 22) = .slice ((some ⟨g_6, 0, none⟩)) (1) (c_6) := (hO 22 (by decide)).trans (pe hs rfl rfl)
      exact .inl ⟨_, _, (o_move rfl d_4), rfl, Below.refl _ _⟩)),
(step_yes 2 true 113 rfl rfl (by kernel_rfl) (fun _ _ h => h) (fun a' w' hb' hO hD => by
      have d_5 : a'.eval (.tmp 114) = .slice ((some ⟨g_6, 0, none⟩)) (1) (c_6) := hD 3 114 (by kernel_rfl) rfl
      exact .inl ⟨_, _, (o_lenS rfl d_5), rfl, Below.refl _ _⟩)),
(step_yes 2 true 113 rfl rfl (by kernel_rfl) (fun _ _ h => h) (fun a' w' hb' hO hD => by
      have d_6 : a'.eval (.tmp 115) = .int .i64 ((1 : Nat) : Int) := hD 4 115 (by kernel_rfl) rfl
      exact .inl ⟨_, _, (o_eq (o_eql (m := 1) (n := 1) rfl d_6 rfl) rfl), rfl, Below.refl _ _⟩)),
(step_ok rfl (fun a' w' hb' hO hD => by
      have d_7 : a'.eval (.tmp 113) = .bool (true) := hD 2 113 (by kernel_rfl) rfl
      have d_8 : a'.eval (.tmp 116) = .bool (true) := hD 5 116 (by kernel_rfl) rfl
      exact .inl ⟨_, _, (o_pickT rfl d_7 d_8), rfl, Below.refl _ _⟩)),
(step_ok rfl (fun a' w' hb' hO hD => by
      have d_9 : a'.eval (.tmp 117) = .bool (true) := hD 6 117 (by kernel_rfl) rfl
      exact .inl ⟨_, _, (o_move rfl d_9), rfl, Below.refl _ _⟩)),
(step_yes 7 true 118 rfl rfl (by kernel_rfl) (fun _ _ h => h) (fun a' w' hb' hO hD => by
      have d_10 : a'.eval (.tmp 22) = .slice ((some ⟨g_6, 0, none⟩)) (1) (c_6) := (hO 22 (by decide)).trans (pe hs rfl rfl)
      exact .inl ⟨_, _, (o_move rfl d_10), rfl, Below.refl _ _⟩)),
(step_yes 7 true 118 rfl rfl (by kernel_rfl) (fun _ _ h => h) (fun a' w' hb' hO hD => by
      have d_11 : a'.eval (.tmp 119) = .slice ((some ⟨g_6, 0, none⟩)) (1) (c_6) := hD 8 119 (by kernel_rfl) rfl
      exact .inl ⟨_, _, (zero_off (o_ixS (off := 0) (i := 0) rfl d_11 rfl (by omega))), rfl, Below.refl _ _⟩)),
(step_yes 7 true 118 rfl rfl (by kernel_rfl) (fun _ _ h => h) (fun a' w' hb' hO hD => by
      have d_12 : a'.eval (.tmp 120) = .pointer (some ⟨g_6, 0, none⟩) := hD 9 120 (by kernel_rfl) rfl
      exact .inl ⟨_, _, (o_load1 rfl d_12 (hB_1.nx hb') hcu_1 ⟨by kernel_rfl, by kernel_rfl⟩), rfl, Below.refl _ _⟩)),
(step_yes 7 true 118 rfl rfl (by kernel_rfl) (fun _ _ h => h) (fun a' w' hb' hO hD => by
      have d_13 : a'.eval (.tmp 121) = .slice p_1.A (p_1.xs.length) (p_1.c) := hD 10 121 (by kernel_rfl) rfl
      exact .inl ⟨_, _, (o_str rfl d_13 ((hOp_1.nx hb')).bs rfl), rfl, Below.refl _ _⟩)),
(step_yes 7 true 118 rfl rfl (by kernel_rfl) (fun _ _ h => h) (fun a' w' hb' hO hD => by
      have d_14 : a'.eval (.tmp 1) = .slice A1 (la) (c1) := (hO 1 (by decide)).trans ((pm rfl).trans t1)
      exact .inl ⟨_, _, (o_move rfl d_14), rfl, Below.refl _ _⟩)),
(step_yes 7 true 118 rfl rfl (by kernel_rfl) (fun _ _ h => h) (fun a' w' hb' hO hD => by
      have d_15 : a'.eval (.tmp 123) = .slice A1 (la) (c1) := hD 12 123 (by kernel_rfl) rfl
      exact .inl ⟨_, _, (o_str rfl d_15 (h1.below (below_from HB_11 hb')) hla), rfl, Below.refl _ _⟩)), trivial⟩ (fun a_1 w_14 hs_5 hd_1 hb_11 hO_1 hV_1 => ?_)
  have ta_1_0 : a_1.eval (.tmp 0) = .slice A0 (m) (c0) := (hO_1 0 (by decide)).trans ((pm rfl).trans t0)
  have ta_1_1 : a_1.eval (.tmp 1) = .slice A1 (la) (c1) := (hO_1 1 (by decide)).trans ((pm rfl).trans t1)
  have ta_1_2 : a_1.eval (.tmp 2) = .slice A2 (lb) (c2) := (hO_1 2 (by decide)).trans ((pm rfl).trans t2)
  have ta_1_3 : a_1.eval (.tmp 3) = .int .i64 (z) := (hO_1 3 (by decide)).trans ((pm rfl).trans t3)
  have ta_1_4 : a_1.eval (.tmp 4) = .int .u8 ((x : Nat) : Int) := (hO_1 4 (by decide)).trans ((pm rfl).trans t4)
  have ta_1_10 : a_1.eval (.tmp 10) = .bool (false) := (hO_1 10 (by decide)).trans (pe hs rfl rfl)
  have ta_1_26 : a_1.eval (.tmp 26) = .slice A1 (la) (c1) := (hO_1 26 (by decide)).trans (pe hs rfl rfl)
  have ta_1_27 : a_1.eval (.tmp 27) = .int .i64 ((la : Nat) : Int) := (hO_1 27 (by decide)).trans (pe hs rfl rfl)
  have ta_1_28 : a_1.eval (.tmp 28) = .bool (false) := (hO_1 28 (by decide)).trans (pe hs rfl rfl)
  have ta_1_29 : a_1.eval (.tmp 29) = .bool (false) := (hO_1 29 (by decide)).trans (pe hs rfl rfl)
  have ta_1_30 : a_1.eval (.tmp 30) = .slice A2 (lb) (c2) := (hO_1 30 (by decide)).trans (pe hs rfl rfl)
  have ta_1_31 : a_1.eval (.tmp 31) = .int .i64 ((lb : Nat) : Int) := (hO_1 31 (by decide)).trans (pe hs rfl rfl)
  have ta_1_32 : a_1.eval (.tmp 32) = .bool (false) := (hO_1 32 (by decide)).trans (pe hs rfl rfl)
  have ta_1_33 : a_1.eval (.tmp 33) = .bool (false) := (hO_1 33 (by decide)).trans (pe hs rfl rfl)
  have ta_1_34 : a_1.eval (.tmp 34) = .bool (false) := (hO_1 34 (by decide)).trans (pe hs rfl rfl)
  have ta_1_35 : a_1.eval (.tmp 35) = .int .u8 ((x : Nat) : Int) := (hO_1 35 (by decide)).trans (pe hs rfl rfl)
  have ta_1_36 : a_1.eval (.tmp 36) = .bool (false) := (hO_1 36 (by decide)).trans (pe hs rfl rfl)
  have ta_1_37 : a_1.eval (.tmp 37) = .bool (false) := (hO_1 37 (by decide)).trans (pe hs rfl rfl)
  have ta_1_39 : a_1.eval (.tmp 39) = .slice A0 (m) (c0) := (hO_1 39 (by decide)).trans (pe hs rfl rfl)
  have ta_1_40 : a_1.eval (.tmp 40) = .slice A_1 (32) (c_1) := (hO_1 40 (by decide)).trans (pe hs rfl rfl)
  have ta_1_11 : a_1.eval (.tmp 11) = .slice A_1 (32) (c_1) := (hO_1 11 (by decide)).trans (pe hs rfl rfl)
  have ta_1_42 : a_1.eval (.tmp 42) = .slice A_1 (32) (c_1) := (hO_1 42 (by decide)).trans (pe hs rfl rfl)
  have ta_1_43 : a_1.eval (.tmp 43) = .tuple #[.pointer (some ⟨g_1, 0, none⟩), .int .i64 ((0 : Nat) : Int)] := (hO_1 43 (by decide)).trans (pe hs rfl rfl)
  have ta_1_41 : a_1.eval (.tmp 41) = .tuple #[.pointer (some ⟨g_1, 0, none⟩), .int .i64 ((0 : Nat) : Int)] := (hO_1 41 (by decide)).trans (pe hs rfl rfl)
  have ta_1_44 : a_1.eval (.tmp 44) = .pointer (some ⟨g_1, 0, none⟩) := (hO_1 44 (by decide)).trans (pe hs rfl rfl)
  have ta_1_45 : a_1.eval (.tmp 45) = .int .i64 ((0 : Nat) : Int) := (hO_1 45 (by decide)).trans (pe hs rfl rfl)
  have ta_1_12 : a_1.eval (.tmp 12) = .pointer (some ⟨g_1, 0, none⟩) := (hO_1 12 (by decide)).trans (pe hs rfl rfl)
  have ta_1_13 : a_1.eval (.tmp 13) = .int .i64 ((0 : Nat) : Int) := (hO_1 13 (by decide)).trans (pe hs rfl rfl)
  have ta_1_47 : a_1.eval (.tmp 47) = .slice A_1 (32) (c_1) := (hO_1 47 (by decide)).trans (pe hs rfl rfl)
  have ta_1_48 : a_1.eval (.tmp 48) = .tuple #[.pointer (some ⟨g_2, 0, none⟩), .int .i64 ((0 : Nat) : Int)] := (hO_1 48 (by decide)).trans (pe hs rfl rfl)
  have ta_1_46 : a_1.eval (.tmp 46) = .tuple #[.pointer (some ⟨g_2, 0, none⟩), .int .i64 ((0 : Nat) : Int)] := (hO_1 46 (by decide)).trans (pe hs rfl rfl)
  have ta_1_49 : a_1.eval (.tmp 49) = .pointer (some ⟨g_2, 0, none⟩) := (hO_1 49 (by decide)).trans (pe hs rfl rfl)
  have ta_1_50 : a_1.eval (.tmp 50) = .int .i64 ((0 : Nat) : Int) := (hO_1 50 (by decide)).trans (pe hs rfl rfl)
  have ta_1_14 : a_1.eval (.tmp 14) = .pointer (some ⟨g_2, 0, none⟩) := (hO_1 14 (by decide)).trans (pe hs rfl rfl)
  have ta_1_15 : a_1.eval (.tmp 15) = .int .i64 ((0 : Nat) : Int) := (hO_1 15 (by decide)).trans (pe hs rfl rfl)
  have ta_1_51 : a_1.eval (.tmp 51) = .int .i64 ((0 : Nat) : Int) := (hO_1 51 (by decide)).trans (pe hs rfl rfl)
  have ta_1_52 : a_1.eval (.tmp 52) = .bool (false) := (hO_1 52 (by decide)).trans (pe hs rfl rfl)
  have ta_1_53 : a_1.eval (.tmp 53) = .bool (false) := (hO_1 53 (by decide)).trans (pe hs rfl rfl)
  have ta_1_54 : a_1.eval (.tmp 54) = .int .i64 ((0 : Nat) : Int) := (hO_1 54 (by decide)).trans (pe hs rfl rfl)
  have ta_1_55 : a_1.eval (.tmp 55) = .bool (false) := (hO_1 55 (by decide)).trans (pe hs rfl rfl)
  have ta_1_56 : a_1.eval (.tmp 56) = .bool (false) := (hO_1 56 (by decide)).trans (pe hs rfl rfl)
  have ta_1_57 : a_1.eval (.tmp 57) = .pointer (some ⟨g_1, 0, none⟩) := (hO_1 57 (by decide)).trans (pe hs rfl rfl)
  have ta_1_58 : a_1.eval (.tmp 58) = .pointer (some ⟨g_3, 0, none⟩) := (hO_1 58 (by decide)).trans (pe hs rfl rfl)
  have ta_1_59 : a_1.eval (.tmp 59) = .pointer (some ⟨g_2, 0, none⟩) := (hO_1 59 (by decide)).trans (pe hs rfl rfl)
  have ta_1_60 : a_1.eval (.tmp 60) = .pointer (some ⟨g_4, 0, none⟩) := (hO_1 60 (by decide)).trans (pe hs rfl rfl)
  have ta_1_16 : a_1.eval (.tmp 16) = .pointer (some ⟨g_3, 0, none⟩) := (hO_1 16 (by decide)).trans (pe hs rfl rfl)
  have ta_1_17 : a_1.eval (.tmp 17) = .pointer (some ⟨g_4, 0, none⟩) := (hO_1 17 (by decide)).trans (pe hs rfl rfl)
  have ta_1_62 : a_1.eval (.tmp 62) = .pointer (some ⟨g_3, 0, none⟩) := (hO_1 62 (by decide)).trans (pe hs rfl rfl)
  have ta_1_63 : a_1.eval (.tmp 63) = .slice A1 (la) (c1) := (hO_1 63 (by decide)).trans (pe hs rfl rfl)
  have ta_1_64 : a_1.eval (.tmp 64) = .tuple #[.slice A_2 (sizeN la + 34) (c_2), .int .i64 ((0 : Nat) : Int)] := (hO_1 64 (by decide)).trans (pe hs rfl rfl)
  have ta_1_61 : a_1.eval (.tmp 61) = .tuple #[.slice A_2 (sizeN la + 34) (c_2), .int .i64 ((0 : Nat) : Int)] := (hO_1 61 (by decide)).trans (pe hs rfl rfl)
  have ta_1_65 : a_1.eval (.tmp 65) = .slice A_2 (sizeN la + 34) (c_2) := (hO_1 65 (by decide)).trans (pe hs rfl rfl)
  have ta_1_66 : a_1.eval (.tmp 66) = .int .i64 ((0 : Nat) : Int) := (hO_1 66 (by decide)).trans (pe hs rfl rfl)
  have ta_1_18 : a_1.eval (.tmp 18) = .slice A_2 (sizeN la + 34) (c_2) := (hO_1 18 (by decide)).trans (pe hs rfl rfl)
  have ta_1_19 : a_1.eval (.tmp 19) = .int .i64 ((0 : Nat) : Int) := (hO_1 19 (by decide)).trans (pe hs rfl rfl)
  have ta_1_68 : a_1.eval (.tmp 68) = .pointer (some ⟨g_3, 0, none⟩) := (hO_1 68 (by decide)).trans (pe hs rfl rfl)
  have ta_1_69 : a_1.eval (.tmp 69) = .slice A2 (lb) (c2) := (hO_1 69 (by decide)).trans (pe hs rfl rfl)
  have ta_1_70 : a_1.eval (.tmp 70) = .tuple #[.slice A_3 (sizeN lb + 34) (c_3), .int .i64 ((0 : Nat) : Int)] := (hO_1 70 (by decide)).trans (pe hs rfl rfl)
  have ta_1_67 : a_1.eval (.tmp 67) = .tuple #[.slice A_3 (sizeN lb + 34) (c_3), .int .i64 ((0 : Nat) : Int)] := (hO_1 67 (by decide)).trans (pe hs rfl rfl)
  have ta_1_71 : a_1.eval (.tmp 71) = .slice A_3 (sizeN lb + 34) (c_3) := (hO_1 71 (by decide)).trans (pe hs rfl rfl)
  have ta_1_72 : a_1.eval (.tmp 72) = .int .i64 ((0 : Nat) : Int) := (hO_1 72 (by decide)).trans (pe hs rfl rfl)
  have ta_1_20 : a_1.eval (.tmp 20) = .slice A_3 (sizeN lb + 34) (c_3) := (hO_1 20 (by decide)).trans (pe hs rfl rfl)
  have ta_1_21 : a_1.eval (.tmp 21) = .int .i64 ((0 : Nat) : Int) := (hO_1 21 (by decide)).trans (pe hs rfl rfl)
  have ta_1_73 : a_1.eval (.tmp 73) = .int .i64 ((0 : Nat) : Int) := (hO_1 73 (by decide)).trans (pe hs rfl rfl)
  have ta_1_74 : a_1.eval (.tmp 74) = .bool (false) := (hO_1 74 (by decide)).trans (pe hs rfl rfl)
  have ta_1_75 : a_1.eval (.tmp 75) = .bool (false) := (hO_1 75 (by decide)).trans (pe hs rfl rfl)
  have ta_1_76 : a_1.eval (.tmp 76) = .int .i64 ((0 : Nat) : Int) := (hO_1 76 (by decide)).trans (pe hs rfl rfl)
  have ta_1_77 : a_1.eval (.tmp 77) = .bool (false) := (hO_1 77 (by decide)).trans (pe hs rfl rfl)
  have ta_1_78 : a_1.eval (.tmp 78) = .bool (false) := (hO_1 78 (by decide)).trans (pe hs rfl rfl)
  have ta_1_79 : a_1.eval (.tmp 79) = .bool (false) := (hO_1 79 (by decide)).trans (pe hs rfl rfl)
  have ta_1_80 : a_1.eval (.tmp 80) = .slice A_3 (sizeN lb + 34) (c_3) := (hO_1 80 (by decide)).trans (pe hs rfl rfl)
  have ta_1_81 : a_1.eval (.tmp 81) = .int .i64 ((sizeN lb + 34 : Nat) : Int) := (hO_1 81 (by decide)).trans (pe hs rfl rfl)
  have ta_1_82 : a_1.eval (.tmp 82) = .bool (false) := (hO_1 82 (by decide)).trans (pe hs rfl rfl)
  have ta_1_83 : a_1.eval (.tmp 83) = .bool (false) := (hO_1 83 (by decide)).trans (pe hs rfl rfl)
  have ta_1_84 : a_1.eval (.tmp 84) = .slice A_3 (sizeN lb + 34) (c_3) := (hO_1 84 (by decide)).trans (pe hs rfl rfl)
  have ta_1_85 : a_1.eval (.tmp 85) = .int .i64 (z) := (hO_1 85 (by decide)).trans (pe hs rfl rfl)
  have ta_1_86 : a_1.eval (.tmp 86) = .int .u64 ((at64 z : Nat) : Int) := (hO_1 86 (by decide)).trans (pe hs rfl rfl)
  have ta_1_87 : a_1.eval (.tmp 87) = .int .u64 (((at64 z) % 16 : Nat) : Int) := (hO_1 87 (by decide)).trans (pe hs rfl rfl)
  have ta_1_88 : a_1.eval (.tmp 88) = .int .i64 (((at64 z) % 16 : Nat) : Int) := (hO_1 88 (by decide)).trans (pe hs rfl rfl)
  have ta_1_89 : a_1.eval (.tmp 89) = .int .i64 ((2 + ((at64 z) % 16) : Nat) : Int) := (hO_1 89 (by decide)).trans (pe hs rfl rfl)
  have ta_1_90 : a_1.eval (.tmp 90) = .pointer (atA A_3 (2 + ((at64 z) % 16))) := (hO_1 90 (by decide)).trans (pe hs rfl rfl)
  have ta_1_91 : a_1.eval (.tmp 91) = .int .u8 (((recL co.put xb).getD (2 + ((at64 z) % 16)) 0 : Nat) : Int) := (hO_1 91 (by decide)).trans (pe hs rfl rfl)
  have ta_1_92 : a_1.eval (.tmp 92) = .int .u8 ((x : Nat) : Int) := (hO_1 92 (by decide)).trans (pe hs rfl rfl)
  have ta_1_93 : a_1.eval (.tmp 93) = .int .u8 ((((recL co.put xb).getD (2 + ((at64 z) % 16)) 0) ^^^ x : Nat) : Int) := (hO_1 93 (by decide)).trans (pe hs rfl rfl)
  have ta_1_94 : a_1.eval (.tmp 94) = .pointer (atA A_3 (2 + ((at64 z) % 16))) := (hO_1 94 (by decide)).trans (pe hs rfl rfl)
  have ta_1_96 : a_1.eval (.tmp 96) = .pointer (some ⟨g_4, 0, none⟩) := (hO_1 96 (by decide)).trans (pe hs rfl rfl)
  have ta_1_97 : a_1.eval (.tmp 97) = .slice ((some ⟨g_5, 0, none⟩)) (0) (0) := (hO_1 97 (by decide)).trans (pe hs rfl rfl)
  have ta_1_98 : a_1.eval (.tmp 98) = .slice A_2 (sizeN la + 34) (c_2) := (hO_1 98 (by decide)).trans (pe hs rfl rfl)
  have ta_1_99 : a_1.eval (.tmp 99) = .slice A_4 (0 + (sizeN la + 34)) (c_4) := (hO_1 99 (by decide)).trans (pe hs rfl rfl)
  have ta_1_100 : a_1.eval (.tmp 100) = .slice A_3 (sizeN lb + 34) (c_3) := (hO_1 100 (by decide)).trans (pe hs rfl rfl)
  have ta_1_101 : a_1.eval (.tmp 101) = .slice A_5 ((0 + (sizeN la + 34)) + (sizeN lb + 34)) (c_5) := (hO_1 101 (by decide)).trans (pe hs rfl rfl)
  have ta_1_102 : a_1.eval (.tmp 102) = .tuple #[.slice ((some ⟨g_6, 0, none⟩)) (1) (c_6), .int .i64 ((4 : Nat) : Int)] := (hO_1 102 (by decide)).trans (pe hs rfl rfl)
  have ta_1_95 : a_1.eval (.tmp 95) = .tuple #[.slice ((some ⟨g_6, 0, none⟩)) (1) (c_6), .int .i64 ((4 : Nat) : Int)] := (hO_1 95 (by decide)).trans (pe hs rfl rfl)
  have ta_1_103 : a_1.eval (.tmp 103) = .slice ((some ⟨g_6, 0, none⟩)) (1) (c_6) := (hO_1 103 (by decide)).trans (pe hs rfl rfl)
  have ta_1_104 : a_1.eval (.tmp 104) = .int .i64 ((4 : Nat) : Int) := (hO_1 104 (by decide)).trans (pe hs rfl rfl)
  have ta_1_22 : a_1.eval (.tmp 22) = .slice ((some ⟨g_6, 0, none⟩)) (1) (c_6) := (hO_1 22 (by decide)).trans (pe hs rfl rfl)
  have ta_1_23 : a_1.eval (.tmp 23) = .int .i64 ((4 : Nat) : Int) := (hO_1 23 (by decide)).trans (pe hs rfl rfl)
  have ta_1_106 : a_1.eval (.tmp 106) = .pointer (some ⟨g_4, 0, none⟩) := (hO_1 106 (by decide)).trans (pe hs rfl rfl)
  have ta_1_107 : a_1.eval (.tmp 107) = .slice A_2 (sizeN la + 34) (c_2) := (hO_1 107 (by decide)).trans (pe hs rfl rfl)
  have ta_1_108 : a_1.eval (.tmp 108) = .tuple #[.slice none (0) (0), .int .i64 ((10 : Nat) : Int)] := (hO_1 108 (by decide)).trans (pe hs rfl rfl)
  have ta_1_105 : a_1.eval (.tmp 105) = .tuple #[.slice none (0) (0), .int .i64 ((10 : Nat) : Int)] := (hO_1 105 (by decide)).trans (pe hs rfl rfl)
  have ta_1_109 : a_1.eval (.tmp 109) = .slice none (0) (0) := (hO_1 109 (by decide)).trans (pe hs rfl rfl)
  have ta_1_110 : a_1.eval (.tmp 110) = .int .i64 ((10 : Nat) : Int) := (hO_1 110 (by decide)).trans (pe hs rfl rfl)
  have ta_1_24 : a_1.eval (.tmp 24) = .slice none (0) (0) := (hO_1 24 (by decide)).trans (pe hs rfl rfl)
  have ta_1_25 : a_1.eval (.tmp 25) = .int .i64 ((10 : Nat) : Int) := (hO_1 25 (by decide)).trans (pe hs rfl rfl)
  clear t0 t1 t2 t3 t4 hd
  replace ho_1 := ho_1.nx hb_11
  replace ho_2 := ho_2.nx hb_11
  replace hW_4 := hW_4.nx hb_11
  replace ho_4 := ho_4.nx hb_11
  replace hR_13 := hR_13.nx hb_11
  replace hRw_1 := hRw_1.nx hb_11
  replace hAO_1 := hAO_1.nx hb_11
  replace hB_1 := hB_1.nx hb_11
  replace hOp_1 := hOp_1.nx hb_11
  have HB_12 := below_from HB_11 hb_11
  have ta_1_111 : a_1.eval (.tmp 111) = .int .i64 ((4 : Nat) : Int) := hV_1 0 111 rfl rfl
  have ta_1_112 : a_1.eval (.tmp 112) = .bool (true) := hV_1 1 112 rfl rfl
  have ta_1_113 : a_1.eval (.tmp 113) = .bool (true) := hV_1 2 113 rfl rfl
  have ta_1_114 : a_1.eval (.tmp 114) = .slice ((some ⟨g_6, 0, none⟩)) (1) (c_6) := hV_1 3 114 rfl rfl
  have ta_1_115 : a_1.eval (.tmp 115) = .int .i64 ((1 : Nat) : Int) := hV_1 4 115 rfl rfl
  have ta_1_116 : a_1.eval (.tmp 116) = .bool (true) := hV_1 5 116 rfl rfl
  have ta_1_117 : a_1.eval (.tmp 117) = .bool (true) := hV_1 6 117 rfl rfl
  have ta_1_118 : a_1.eval (.tmp 118) = .bool (true) := hV_1 7 118 rfl rfl
  have ta_1_119 : a_1.eval (.tmp 119) = .slice ((some ⟨g_6, 0, none⟩)) (1) (c_6) := hV_1 8 119 rfl rfl
  have ta_1_120 : a_1.eval (.tmp 120) = .pointer (some ⟨g_6, 0, none⟩) := hV_1 9 120 rfl rfl
  have ta_1_121 : a_1.eval (.tmp 121) = .slice p_1.A (p_1.xs.length) (p_1.c) := hV_1 10 121 rfl rfl
  have ta_1_122 : a_1.eval (.tmp 122) = .string (strB p_1.xs) := hV_1 11 122 rfl rfl
  have ta_1_123 : a_1.eval (.tmp 123) = .slice A1 (la) (c1) := hV_1 12 123 rfl rfl
  have ta_1_124 : a_1.eval (.tmp 124) = .string (strB xa) := hV_1 13 124 rfl rfl
  clear hV_1 hO_1
  simp only [List.drop_succ_cons, List.drop_zero]
  refine op_valG (e := 118) (d := 125) (v := .bool (true)) rfl rfl (by kernel_rfl) ((pm rfl).trans ta_1_118) (o_eqS rfl ((pm rfl).trans ta_1_122) ((pm rfl).trans ta_1_124) (by rw [hp_1])) ?_
  refine op_val (d := 126) (v := .bool (true)) rfl rfl (o_pickT rfl ((pm rfl).trans ta_1_118) (pe hs_5 rfl rfl)) ?_
  refine op_val (d := 127) (v := .bool (true)) rfl rfl (o_move rfl (pe hs_5 rfl rfl)) ?_
  refine op_valG (e := 127) (d := 128) (v := .pointer (some ⟨g_4, 0, none⟩)) rfl rfl (by kernel_rfl) (pe hs_5 rfl rfl) (o_move rfl ((pm rfl).trans ta_1_17)) ?_
  refine op_callG (e := 127) (vs := #[.pointer (some ⟨g_4, 0, none⟩)]) rfl rfl (by kernel_rfl) (pe hs_5 rfl rfl) (exec_call Try.func43 (by kernel_rfl) (by kernel_rfl) _ rfl _ _ (args1 (pe hs_5 rfl rfl))) (Dead_any _ hR_13) (fun e_10 w_15 hR_15 => ?_)
  obtain ⟨rfl, rfl⟩ := hR_15
  refine ⟨_, rfl, ?_⟩
  refine op_val (d := 130) (v := .bool (true)) rfl rfl (o_pickT rfl (pe hs_5 rfl rfl) (pe hs_5 rfl rfl)) ?_
  refine op_val (d := 131) (v := .bool (true)) rfl rfl (o_move rfl (pe hs_5 rfl rfl)) ?_
  refine op_valG (e := 131) (d := 132) (v := .int .i64 ((10 : Nat) : Int)) rfl rfl (by kernel_rfl) (pe hs_5 rfl rfl) (o_move rfl ((pm rfl).trans ta_1_25)) ?_
  refine op_valG (e := 131) (d := 133) (v := .bool (true)) rfl rfl (by kernel_rfl) (pe hs_5 rfl rfl) (o_eq (o_eql (m := 10) (n := 10) rfl (pe hs_5 rfl rfl) rfl) rfl) ?_
  refine op_val (d := 134) (v := .bool (true)) rfl rfl (o_pickT rfl (pe hs_5 rfl rfl) (pe hs_5 rfl rfl)) ?_
  refine op_val (d := 135) (v := .bool (true)) rfl rfl (o_move rfl (pe hs_5 rfl rfl)) ?_
  refine op_valG (e := 135) (d := 136) (v := .slice none (0) (0)) rfl rfl (by kernel_rfl) (pe hs_5 rfl rfl) (o_move rfl ((pm rfl).trans ta_1_24)) ?_
  refine op_valG (e := 135) (d := 137) (v := .int .i64 ((0 : Nat) : Int)) rfl rfl (by kernel_rfl) (pe hs_5 rfl rfl) (o_lenS rfl (pe hs_5 rfl rfl)) ?_
  refine op_valG (e := 135) (d := 138) (v := .bool (true)) rfl rfl (by kernel_rfl) (pe hs_5 rfl rfl) (o_eq (o_eql (m := 0) (n := 0) rfl (pe hs_5 rfl rfl) rfl) rfl) ?_
  refine op_val (d := 139) (v := .bool (true)) rfl rfl (o_pickT rfl (pe hs_5 rfl rfl) (pe hs_5 rfl rfl)) ?_
  refine op_val (d := 140) (v := .bool (true)) rfl rfl (o_move rfl (pe hs_5 rfl rfl)) ?_
  refine op_valG (e := 140) (d := 141) (v := .pointer (some ⟨g_4, 0, none⟩)) rfl rfl (by kernel_rfl) (pe hs_5 rfl rfl) (o_move rfl ((pm rfl).trans ta_1_17)) ?_
  refine op_callG (e := 140) (vs := #[.pointer (some ⟨g_4, 0, none⟩)]) rfl rfl (by kernel_rfl) (pe hs_5 rfl rfl) (exec_call Try.func42 (by kernel_rfl) (by kernel_rfl) _ rfl _ _ (args1 (pe hs_5 rfl rfl))) (RLeft_any _ hR_13) (fun e_11 w_16 hR_16 => ?_)
  obtain ⟨rfl, rfl⟩ := hR_16
  refine ⟨_, rfl, ?_⟩
  refine op_valG (e := 140) (d := 143) (v := .bool (true)) rfl rfl (by kernel_rfl) (pe hs_5 rfl rfl) (o_eq (o_eql (m := 0) (n := 0) rfl (pe hs_5 rfl rfl) rfl) rfl) ?_
  refine op_val (d := 144) (v := .bool (true)) rfl rfl (o_pickT rfl (pe hs_5 rfl rfl) (pe hs_5 rfl rfl)) ?_
  refine op_val (d := 145) (v := .bool (true)) rfl rfl (o_move rfl (pe hs_5 rfl rfl)) ?_
  refine op_callG (e := 145) (vs := #[]) rfl rfl (by kernel_rfl) (pe hs_5 rfl rfl) (exec_call Try.func34 (by kernel_rfl) (by kernel_rfl) _ rfl _ _ (args0)) (awake12_any _) (fun e_12 w_17 hR_17 => ?_)
  obtain ⟨rfl, hb_15⟩ := hR_17
  replace ho_1 := ho_1.nx hb_15
  replace ho_2 := ho_2.nx hb_15
  replace hW_4 := hW_4.nx hb_15
  replace ho_4 := ho_4.nx hb_15
  replace hR_13 := hR_13.nx hb_15
  replace hRw_1 := hRw_1.nx hb_15
  replace hAO_1 := hAO_1.nx hb_15
  replace hB_1 := hB_1.nx hb_15
  replace hOp_1 := hOp_1.nx hb_15
  have HB_13 := below_from HB_12 hb_15
  refine ⟨_, rfl, ?_⟩
  refine op_val (d := 147) (v := .bool (true)) rfl rfl (o_pickT rfl (pe hs_5 rfl rfl) (pe hs_5 rfl rfl)) ?_
  refine op_val (d := 10) (v := .bool (true)) rfl rfl (o_assign rfl (pe hs_5 rfl rfl)) ?_
  refine x_nil ?_
  refine hK_17 _ _ ?_
  refine w2_ret ?_
  refine ret1 rfl hd_1 (pe hs_5 rfl rfl) ?_
  exact ⟨rfl, HB_13⟩
end Go.Proofs.Ytoiamaljkodlnaa
