/-
 WALKS: sapperlaw10.CipherCounts.
-/
import Derived.Test.YtbgonhmaeekkaaaAwake10
namespace Go.Proofs.Ytbgonhmaeekkaaa
open Go.RowKit
set_option linter.unusedVariables false
set_option linter.unusedSimpArgs false
set_option maxRecDepth 100000
attribute [local irreducible] wpList wpListIn putsR

theorem openL_tag (ks ns ad bs : List Nat) (j x : Nat) (hj : j < 16) (hx : x ≠ 0) :
  openL ks ns ad ((sealL ks ns ad bs).set (bs.length + j) ((sealL ks ns ad bs).getD (bs.length + j) 0 ^^^ x)) = ([], 4) := by
 have hxl := xorS_length ks ns 1 bs
 have hml := macL_length ks ns ad (xorS ks ns 1 bs)
 have h1 : ((sealL ks ns ad bs).set (bs.length + j) ((sealL ks ns ad bs).getD (bs.length + j) 0 ^^^ x)).length - 16 = bs.length := by
  rw [List.length_set, sealL_length]; omega
 have h2 : (sealL ks ns ad bs).getD (bs.length + j) 0 = (macL ks ns ad (xorS ks ns 1 bs)).getD j 0 := by
  rw [sealL, List.getD_eq_getElem?_getD, List.getElem?_append_right (by omega), ← List.getD_eq_getElem?_getD, hxl, Nat.add_sub_cancel_left]
 unfold openL
 rw [if_neg (by rw [List.length_set, sealL_length]; omega), h1, h2]
 have h3 : ((sealL ks ns ad bs).set (bs.length + j) ((macL ks ns ad (xorS ks ns 1 bs)).getD j 0 ^^^ x)) = xorS ks ns 1 bs ++ (macL ks ns ad (xorS ks ns 1 bs)).set j ((macL ks ns ad (xorS ks ns 1 bs)).getD j 0 ^^^ x) := by
  rw [sealL, List.set_append_right _ _ (by omega), hxl, Nat.add_sub_cancel_left]
 rw [h3]
 have h4 : (xorS ks ns 1 bs ++ (macL ks ns ad (xorS ks ns 1 bs)).set j ((macL ks ns ad (xorS ks ns 1 bs)).getD j 0 ^^^ x)).take bs.length = xorS ks ns 1 bs := by
  rw [← hxl, List.take_left]
 have h5 : (xorS ks ns 1 bs ++ (macL ks ns ad (xorS ks ns 1 bs)).set j ((macL ks ns ad (xorS ks ns 1 bs)).getD j 0 ^^^ x)).drop bs.length = (macL ks ns ad (xorS ks ns 1 bs)).set j ((macL ks ns ad (xorS ks ns 1 bs)).getD j 0 ^^^ x) := by
  rw [← hxl, List.drop_left]
 rw [h4, h5, if_neg]
 intro h
 generalize macL ks ns ad (xorS ks ns 1 bs) = ms at h hml
 have h6 := congrArg (fun l : List Nat => l.getD j 0) h
 simp only [List.getD_eq_getElem?_getD] at h6
 rw [List.getElem?_set_self (by omega)] at h6
 simp only [Option.getD_some] at h6
 generalize ms[j]?.getD 0 = v at h6
 have h7 : v ^^^ v = v ^^^ (v ^^^ x) := by rw [← h6]
 rw [← Nat.xor_assoc, Nat.xor_self, Nat.zero_xor] at h7
 exact hx h7.symm
theorem tag_cnt (k n ad : List Nat) {bs : List Nat} {q : Nat} (hq : bs.length = q) : openL k n ad ((sealL k n ad bs).set (q + 15) ((sealL k n ad bs).getD (q + 15) 0 ^^^ 1)) = ([], 4) := by
 subst hq
 exact openL_tag k n ad bs 15 1 (by decide) (by decide)
theorem cnt_last (xs : List Nat) (q : Nat) : ([] ++ xs).set (0 + (q + 16) - 1) (([] ++ xs).getD (0 + (q + 16) - 1) 0 ^^^ 1) = xs.set (q + 15) (xs.getD (q + 15) 0 ^^^ 1) := by
 rw [List.nil_append, show 0 + (q + 16) - 1 = q + 15 by omega]
section
variable {P : Program} {Q : Exit → Act → World → Prop} {a : Act} {w : World} {ops : Array Oper} {rest : List Oper} {l : List (Tmp × Value)} {o : Oper}
theorem wanted_un {g : Nat} {b : Bool} {d : Tmp} {a : Act} (hg : o.guard = some (g, b)) (hd : ((ops[g]?).bind (·.dst)) = some d) (hv : a.eval (.tmp d) = undef) : Region.wanted o (yielded ops a.tmps) = false := by
 have hy : yielded ops a.tmps g = none := by
  unfold yielded
  rw [hd]
  simp only [Act.eval] at hv
  cases hx : a.tmps[d]? with
  | none => simp [hx]
  | some u =>
   simp [hx] at hv
   subst hv
   simp [hx, undef]
 simp [Region.wanted, hg, hy]
theorem op_leftU {g : Nat} {b : Bool} {e d : Tmp} (hd : o.dst = some d) (hg : o.guard = some (g, b)) (he : ((ops[g]?).bind (·.dst)) = some e) (hb : (putsR a l).eval (.tmp e) = undef) (h : wpList P ops Q rest (putsR a ((d, undef) :: l)) w) : wpList P ops Q (o :: rest) (putsR a l) w := by
 refine wpList_step (fun K hK => ?_)
 rw [if_neg (by rw [wanted_un hg he hb]; simp), hd]
 rw [putsR] at h
 exact hK _ _ h
end
theorem Counts0 {A1 A2 : Option Addr} {c1 c2 n1 n2 : Nat} {ks xb : List Nat} (z : Int) (w : World) (h1 : Bs w A1 c1 ks) (l1 : ks.length = n1) (h2 : Bs w A2 c2 xb) (l2 : xb.length = n2) (hbig : 100 < n2) :
  Calls Try.prog 5 #[.slice A1 (n1) (c1), .int .i64 (z), .slice A2 (n2) (c2)] w fun e w' => e = .returned (.bool true) ∧ Below w.heap.size w w' := by
 refine x_enter 135 Try.func5 rfl rfl (fun a hs hd ha0 => ?_)
 have t2 : a.eval (.tmp 2) = .slice A2 (n2) (c2) := ha0 2 _ rfl
 clear ha0
 refine w2_sr (fun K_1 hK_1 => ?_)
 refine q_as (.bool (false)) rfl ?_
 refine x_nil (hK_1 _ _ ?_)
 refine w2_seq (fun K_2 hK_2 => ?_)
 refine w2_sr (fun K_3 hK_3 => ?_)
 refine q_mv ((pm rfl).trans t2) ?_
 refine q_v 20 (.int .i64 ((n2 : Nat) : Int)) (o_len rfl (pe hs rfl rfl)) ?_
 refine q_v 21 (.bool (true)) (o_eq (o_gtr (m := n2) (n := 100) rfl (pe hs rfl rfl) rfl) (by rw [decide_eq_true hbig])) ?_
 refine x_nil (hK_3 _ _ ?_)
 refine w2_condT (pe hs rfl rfl) ?_
 refine w2_sr (fun K_4 hK_4 => ?_)
 refine q_ca (vs := #[]) Try.func10 (args0) (awake10_any _) (fun e_1 w_1 hR_1 => ?_)
 obtain ⟨rfl, hb_2⟩ := hR_1
 refine ⟨_, rfl, ?_⟩
 refine q_at (pe hs rfl rfl) ?_
 refine x_nil (hK_4 _ _ ?_)
 refine w2_ret ?_
 refine thn_ret ?_
 refine ret1 rfl hd (pe hs rfl rfl) ?_
 exact ⟨rfl, hb_2⟩
set_option maxHeartbeats 1000000 in
theorem CountsM {A1 A2 : Option Addr} {c1 c2 n1 n2 : Nat} {ks xb : List Nat} (z : Int) (w : World) (h1 : Bs w A1 c1 ks) (l1 : ks.length = n1) (h2 : Bs w A2 c2 xb) (l2 : xb.length = n2) (p2 : n2 ≤ 100) :
  Calls Try.prog 5 #[.slice A1 (n1) (c1), .int .i64 (z), .slice A2 (n2) (c2)] w fun e w' => e = .returned (.bool true) ∧ Below w.heap.size w w' := by
 obtain ⟨N9, hN9⟩ : ∃ q, at64 z % 30 = q := ⟨_, rfl⟩
 have hN30 : N9 < 30 := by omega
 refine x_enter 135 Try.func5 rfl rfl (fun a hs hd ha0 => ?_)
 have t0 : a.eval (.tmp 0) = .slice A1 (n1) (c1) := ha0 0 _ rfl
 have t1 : a.eval (.tmp 1) = .int .i64 (z) := ha0 1 _ rfl
 have t2 : a.eval (.tmp 2) = .slice A2 (n2) (c2) := ha0 2 _ rfl
 clear ha0
 refine w2_sr (fun K_1 hK_1 => ?_)
 refine q_as (.bool (false)) rfl ?_
 refine x_nil (hK_1 _ _ ?_)
 refine w2_seq (fun K_2 hK_2 => ?_)
 refine w2_sr (fun K_3 hK_3 => ?_)
 refine q_mv ((pm rfl).trans t2) ?_
 refine q_v 20 (.int .i64 ((n2 : Nat) : Int)) (o_len rfl (pe hs rfl rfl)) ?_
 refine q_v 21 (.bool (false)) (o_eq (o_gtr (m := n2) (n := 100) rfl (pe hs rfl rfl) rfl) (by rw [decide_eq_false (by omega)])) ?_
 refine x_nil (hK_3 _ _ ?_)
 refine w2_condF (pe hs rfl rfl) ?_
 refine w2_skip ?_
 refine hK_2 _ _ ?_
 refine w2_seq (fun K_4 hK_4 => ?_)
 have hz := at64_lt z
 refine x_region (by kernel_rfl) ?_
 refine q_mv ((pm rfl).trans t1) ?_
 refine q_v 24 (.int .u64 ((at64 z : Nat) : Int)) (o_convZ rfl (pe hs rfl rfl) ⟨.int .i64, fun _ => by kernel_rfl⟩ (fun _ => by kernel_rfl)) ?_
 refine q_v 25 (.int .u64 (((at64 z) % 30 : Nat) : Int)) (o_rem (m := (at64 z)) (n := 30) rfl (pe hs rfl rfl) rfl (by omega) (by rw [IntKind.wrap_u64]; omega)) ?_
 refine q_v 26 (.int .i64 ((N9 : Nat) : Int)) (o_eq (o_conv (m := ((at64 z) % 30)) (r := (at64 z) % 30) rfl (pe hs rfl rfl) ⟨.int .u64, fun _ => by kernel_rfl⟩ (fun _ => by kernel_rfl) (IntWalk.i64_in _ (by omega))) (by rw [hN9])) ?_
 refine q_at (pe hs rfl rfl) ?_
 refine x_nil (hK_4 _ _ ?_)
 refine w2_sr (fun K_5 hK_5 => ?_)
 refine q_mv ((pm rfl).trans t0) ?_
 refine q_ca (vs := #[.slice A1 (n1) (c1)]) Try.func12 (args1 (pe hs rfl rfl)) (Key_any _ h1 (by simp only [l1])) (fun e_1 w_1 hR_1 => ?_)
 obtain ⟨A_1, c_1, rfl, ho_1, hb_1⟩ := hR_1
 refine ⟨_, rfl, ?_⟩
 refine q_ca (vs := #[.slice A_1 (32) (c_1)]) Try.func11 (args1 (pe hs rfl rfl)) (NewCipher_any _ (ho_1).bs (by simp only [padTo_length]) rfl) (fun e_2 w_2 hR_2 => ?_)
 obtain ⟨M_1, g_1, rfl, hC_1, hge_1, hb_2⟩ := hR_2
 have gg_1 := hge_1.down hb_1.size
 replace ho_1 := ho_1.nx hb_2
 have HB_1 := below_from hb_1 hb_2
 refine ⟨_, rfl, ?_⟩
 refine q_mv (pe hs rfl rfl) ?_
 refine q_ex (v := .pointer (some ⟨g_1, 0, none⟩)) (pe hs rfl rfl) rfl ?_
 refine q_ex (v := .int .i64 ((0 : Nat) : Int)) (pe hs rfl rfl) rfl ?_
 refine q_at (pe hs rfl rfl) ?_
 refine q_at (v := .int .i64 ((0 : Nat) : Int)) (pe hs rfl rfl) ?_
 refine x_nil (hK_5 _ _ ?_)
 refine w2_sr (fun K_6 hK_6 => ?_)
 refine q_mv ((pm rfl).trans t0) ?_
 refine q_ca (vs := #[.slice A1 (n1) (c1)]) Try.func12 (args1 (pe hs rfl rfl)) (Key_any _ (h1.below HB_1) (by simp only [l1])) (fun e_3 w_3 hR_3 => ?_)
 obtain ⟨A_2, c_2, rfl, ho_2, hb_3⟩ := hR_3
 replace ho_2 := ho_2.mono HB_1.size
 replace ho_1 := ho_1.nx hb_3
 replace hC_1 := hC_1.nx hb_3
 have HB_2 := below_from HB_1 hb_3
 refine ⟨_, rfl, ?_⟩
 refine q_ca (vs := #[.slice A_2 (32) (c_2)]) Try.func11 (args1 (pe hs rfl rfl)) (NewCipher_any _ (ho_2).bs (by simp only [padTo_length]) rfl) (fun e_4 w_4 hR_4 => ?_)
 obtain ⟨M_2, g_2, rfl, hC_2, hge_2, hb_4⟩ := hR_4
 have sp_3 : Sep M_1 M_2 := Sep.new hC_1.lt hge_2
 have gg_2 := hge_2.down HB_2.size
 replace ho_1 := ho_1.nx hb_4
 replace hC_1 := hC_1.nx hb_4
 replace ho_2 := ho_2.nx hb_4
 have HB_3 := below_from HB_2 hb_4
 refine ⟨_, rfl, ?_⟩
 refine q_mv (pe hs rfl rfl) ?_
 refine q_ex (v := .pointer (some ⟨g_2, 0, none⟩)) (pe hs rfl rfl) rfl ?_
 refine q_ex (v := .int .i64 ((0 : Nat) : Int)) (pe hs rfl rfl) rfl ?_
 refine q_at (pe hs rfl rfl) ?_
 refine q_at (v := .int .i64 ((0 : Nat) : Int)) (pe hs rfl rfl) ?_
 refine x_nil (hK_6 _ _ ?_)
 refine w2_seq (fun K_7 hK_7 => ?_)
 refine w2_sr (fun K_8 hK_8 => ?_)
 refine q_mv (v := .int .i64 ((0 : Nat) : Int)) (pe hs rfl rfl) ?_
 refine q_v 40 (.bool (false)) (o_eq (o_neq (m := 0) (n := 0) rfl (pe hs rfl rfl) rfl) rfl) ?_
 refine q_mv (pe hs rfl rfl) ?_
 refine op_valG (e := 41) (d := 42) (v := .int .i64 ((0 : Nat) : Int)) rfl rfl (by kernel_rfl) (pe hs rfl rfl) (o_move rfl (pe hs rfl rfl)) ?_
 refine op_valG (e := 41) (d := 43) (v := .bool (false)) rfl rfl (by kernel_rfl) (pe hs rfl rfl) (o_eq (o_neq (m := 0) (n := 0) rfl (pe hs rfl rfl) rfl) rfl) ?_
 refine q_v 44 (.bool (false)) (o_pickF rfl (pe hs rfl rfl) (pe hs rfl rfl)) ?_
 refine q_mv (pe hs rfl rfl) ?_
 refine op_valG (e := 45) (d := 46) (v := .pointer (some ⟨g_1, 0, none⟩)) rfl rfl (by kernel_rfl) (pe hs rfl rfl) (o_move rfl (pe hs rfl rfl)) ?_
 refine op_valG (e := 45) (d := 47) (v := .bool (false)) rfl rfl (by kernel_rfl) (pe hs rfl rfl) (o_nil (b := false) rfl (pe hs rfl rfl) rfl rfl ⟨52, fun _ => by kernel_rfl⟩) ?_
 refine q_v 48 (.bool (false)) (o_pickF rfl (pe hs rfl rfl) (pe hs rfl rfl)) ?_
 refine q_mv (pe hs rfl rfl) ?_
 refine op_valG (e := 49) (d := 50) (v := .pointer (some ⟨g_2, 0, none⟩)) rfl rfl (by kernel_rfl) (pe hs rfl rfl) (o_move rfl (pe hs rfl rfl)) ?_
 refine op_valG (e := 49) (d := 51) (v := .bool (false)) rfl rfl (by kernel_rfl) (pe hs rfl rfl) (o_nil (b := false) rfl (pe hs rfl rfl) rfl rfl ⟨52, fun _ => by kernel_rfl⟩) ?_
 refine q_v 52 (.bool (false)) (o_pickF rfl (pe hs rfl rfl) (pe hs rfl rfl)) ?_
 refine x_nil (hK_8 _ _ ?_)
 refine w2_condF (pe hs rfl rfl) ?_
 refine w2_skip ?_
 refine hK_7 _ _ ?_
 refine w2_seq (fun K_9 hK_9 => ?_)
 refine w2_sr (fun K_10 hK_10 => ?_)
 refine q_mv (pe hs rfl rfl) ?_
 refine q_v 54 (.int .i64 ((0 : Nat) : Int)) (o_move rfl rfl) ?_
 refine x_nil (hK_10 _ _ ?_)
 refine w2_block (fun K_11 hK_11 => ?_)
 refine x_loop (fun nn aa ww => ∃ (K : Nat) (kk : List Nat) (Mc Md : Nat → Prop), nn = N9 - K ∧ aa.tmps.size = 135 ∧ aa.defers = [] ∧ aa.eval (.tmp 0) = .slice A1 (n1) (c1) ∧ aa.eval (.tmp 1) = .int .i64 ((N9 : Nat) : Int) ∧ aa.eval (.tmp 2) = .slice A2 (n2) (c2) ∧ aa.eval (.tmp 7) = .pointer (some ⟨g_1, 0, none⟩) ∧ aa.eval (.tmp 8) = .int .i64 ((0 : Nat) : Int) ∧ aa.eval (.tmp 9) = .pointer (some ⟨g_2, 0, none⟩) ∧ aa.eval (.tmp 10) = .int .i64 ((0 : Nat) : Int) ∧ aa.eval (.tmp 19) = .slice A2 (n2) (c2) ∧ aa.eval (.tmp 20) = .int .i64 ((n2 : Nat) : Int) ∧ aa.eval (.tmp 21) = .bool (false) ∧ aa.eval (.tmp 23) = .int .i64 (z) ∧ aa.eval (.tmp 24) = .int .u64 ((at64 z : Nat) : Int) ∧ aa.eval (.tmp 25) = .int .u64 (((at64 z) % 30 : Nat) : Int) ∧ aa.eval (.tmp 26) = .int .i64 ((N9 : Nat) : Int) ∧ aa.eval (.tmp 27) = .tuple #[.pointer (some ⟨g_1, 0, none⟩), .int .i64 ((0 : Nat) : Int)] ∧ aa.eval (.tmp 28) = .slice A1 (n1) (c1) ∧ aa.eval (.tmp 29) = .slice A_1 (32) (c_1) ∧ aa.eval (.tmp 30) = .tuple #[.pointer (some ⟨g_1, 0, none⟩), .int .i64 ((0 : Nat) : Int)] ∧ aa.eval (.tmp 31) = .pointer (some ⟨g_1, 0, none⟩) ∧ aa.eval (.tmp 32) = .int .i64 ((0 : Nat) : Int) ∧ aa.eval (.tmp 33) = .tuple #[.pointer (some ⟨g_2, 0, none⟩), .int .i64 ((0 : Nat) : Int)] ∧ aa.eval (.tmp 34) = .slice A1 (n1) (c1) ∧ aa.eval (.tmp 35) = .slice A_2 (32) (c_2) ∧ aa.eval (.tmp 36) = .tuple #[.pointer (some ⟨g_2, 0, none⟩), .int .i64 ((0 : Nat) : Int)] ∧ aa.eval (.tmp 37) = .pointer (some ⟨g_2, 0, none⟩) ∧ aa.eval (.tmp 38) = .int .i64 ((0 : Nat) : Int) ∧ aa.eval (.tmp 39) = .int .i64 ((0 : Nat) : Int) ∧ aa.eval (.tmp 40) = .bool (false) ∧ aa.eval (.tmp 41) = .bool (false) ∧ aa.eval (.tmp 42) = .int .i64 ((0 : Nat) : Int) ∧ aa.eval (.tmp 43) = .bool (false) ∧ aa.eval (.tmp 44) = .bool (false) ∧ aa.eval (.tmp 45) = .bool (false) ∧ aa.eval (.tmp 46) = .pointer (some ⟨g_1, 0, none⟩) ∧ aa.eval (.tmp 47) = .bool (false) ∧ aa.eval (.tmp 48) = .bool (false) ∧ aa.eval (.tmp 49) = .bool (false) ∧ aa.eval (.tmp 50) = .pointer (some ⟨g_2, 0, none⟩) ∧ aa.eval (.tmp 51) = .bool (false) ∧ aa.eval (.tmp 52) = .bool (false) ∧ aa.eval (.tmp 53) = .int .i64 ((N9 : Nat) : Int) ∧ aa.eval (.tmp 54) = .int .i64 ((K : Nat) : Int) ∧ K ≤ N9 ∧ CipherAt ww Mc g_1 kk K ∧ CipherAt ww Md g_2 kk K ∧ Sep Mc Md ∧ Ge w Mc ∧ Ge w Md ∧ Below w.heap.size w ww) (N9 - 0) ?_ ?_
 ·exact ⟨0, (padTo 32 ks), M_1, M_2, rfl, (by rw [putsR_size]; exact hs), (by rw [putsR_defers]; exact hd), ((pm rfl).trans t0), (pe hs rfl rfl), ((pm rfl).trans t2), (pe hs rfl rfl), (pe hs rfl rfl), (pe hs rfl rfl), (pe hs rfl rfl), (pe hs rfl rfl), (pe hs rfl rfl), (pe hs rfl rfl), (pe hs rfl rfl), (pe hs rfl rfl), (pe hs rfl rfl), (pe hs rfl rfl), (pe hs rfl rfl), (pe hs rfl rfl), (pe hs rfl rfl), (pe hs rfl rfl), (pe hs rfl rfl), (pe hs rfl rfl), (pe hs rfl rfl), (pe hs rfl rfl), (pe hs rfl rfl), (pe hs rfl rfl), (pe hs rfl rfl), (pe hs rfl rfl), (pe hs rfl rfl), (pe hs rfl rfl), (pe hs rfl rfl), (pe hs rfl rfl), (pe hs rfl rfl), (pe hs rfl rfl), (pe hs rfl rfl), (pe hs rfl rfl), (pe hs rfl rfl), (pe hs rfl rfl), (pe hs rfl rfl), (pe hs rfl rfl), (pe hs rfl rfl), (pe hs rfl rfl), (pe hs rfl rfl), (pe hs rfl rfl), Nat.zero_le _, hC_1, hC_2, sp_3, gg_1, gg_2, HB_3⟩
 ·skip
  clear t0 t1 t2 hd ho_1 hC_1 ho_2 hC_2 HB_3
  rintro nna_1 a_1 w_5 ⟨K, kk, Mc, Md, hm_1, hs_1, hd_1, ta_1_0, ta_1_1, ta_1_2, ta_1_7, ta_1_8, ta_1_9, ta_1_10, ta_1_19, ta_1_20, ta_1_21, ta_1_23, ta_1_24, ta_1_25, ta_1_26, ta_1_27, ta_1_28, ta_1_29, ta_1_30, ta_1_31, ta_1_32, ta_1_33, ta_1_34, ta_1_35, ta_1_36, ta_1_37, ta_1_38, ta_1_39, ta_1_40, ta_1_41, ta_1_42, ta_1_43, ta_1_44, ta_1_45, ta_1_46, ta_1_47, ta_1_48, ta_1_49, ta_1_50, ta_1_51, ta_1_52, ta_1_53, ta_1_54, hK, hLc, hLd, sLcd, gLc, gLd, HBL⟩ K_12 hK_12
  subst hm_1
  refine w2_sr (fun K_13 hK_13 => ?_)
  refine q_v 55 (.bool (decide (K < N9))) (o_lss (m := K) (n := N9) rfl ((pm rfl).trans ta_1_54) ((pm rfl).trans ta_1_53)) ?_
  refine x_nil (hK_13 _ _ ?_)
  refine w2_seq (fun K_14 hK_14 => ?_)
  refine w2_split (pe hs_1 rfl rfl) (fun h_1 => ?_) (fun h_1 => ?_)
  ·simp only [DD9] at h_1
   have hlt : K < N9 := h_1
   refine w2_skip ?_
   refine hK_14 _ _ ?_
   refine w2_seq (fun K_15 hK_15 => ?_)
   refine w2_block (fun K_16 hK_16 => ?_)
   refine w2_sr (fun K_17 hK_17 => ?_)
   refine q_mv ((pm rfl).trans ta_1_54) ?_
   refine q_at (pe hs_1 rfl rfl) ?_
   refine x_nil (hK_17 _ _ ?_)
   refine w2_seq (fun K_18 hK_18 => ?_)
   refine w2_seq (fun K_19 hK_19 => ?_)
   rcases Classical.em (K % 7 = 6) with q7 | q7
   ·skip
    refine x_region (by kernel_rfl) ?_
    refine q_mv (pe hs_1 rfl rfl) ?_
    refine q_v 58 (.int .i64 ((K % 7 : Nat) : Int)) (o_rem (m := K) (n := 7) rfl (pe hs_1 rfl rfl) rfl (by omega) (IntWalk.i64_in _ (by omega))) ?_
    refine q_v 59 (.bool (true)) (o_eq (o_eql (m := (K % 7)) (n := 6) rfl (pe hs_1 rfl rfl) rfl) (by rw [decide_eq_true q7])) ?_
    refine q_mv (pe hs_1 rfl rfl) ?_
    refine op_valG (e := 60) (d := 61) (v := .pointer (some ⟨g_1, 0, none⟩)) rfl rfl (by kernel_rfl) (pe hs_1 rfl rfl) (o_move rfl ((pm rfl).trans ta_1_7)) ?_
    refine op_callG (e := 60) (vs := #[.pointer (some ⟨g_1, 0, none⟩)]) rfl rfl (by kernel_rfl) (pe hs_1 rfl rfl) (exec_call Try.func13 (by kernel_rfl) (by kernel_rfl) _ rfl _ _ (args1 (pe hs_1 rfl rfl))) (CRekey_any _ hLc) (fun e_5 w_6 hR_5 => ?_)
    obtain ⟨rfl, ⟨M_3, hC_3, hN_1⟩, hX_1⟩ := hR_5
    have hX_2 : BelowX Mc _ _ := hX_1.mono (fun j _ hj => hj ▸ hLc.mem)
    have sp_5 : Sep Md M_3 := hN_1.sep (sLcd.symm) hLd.lt
    replace hLd := hLd.keepM hX_2 (sLcd.symm)
    have gg_3 := hN_1.ge gLc HBL.size
    have HB_4 := hX_2.below HBL HBL.size gLc
    refine ⟨_, rfl, ?_⟩
    refine op_valG (e := 60) (d := 63) (v := .bool (false)) rfl rfl (by kernel_rfl) (pe hs_1 rfl rfl) (o_eq (o_neq (m := 0) (n := 0) rfl (pe hs_1 rfl rfl) rfl) rfl) ?_
    refine op_valG (e := 60) (d := 64) (v := .bool (false)) rfl rfl (by kernel_rfl) (pe hs_1 rfl rfl) (o_move rfl (pe hs_1 rfl rfl)) ?_
    refine op_valG (e := 64) (d := 65) (v := .pointer (some ⟨g_2, 0, none⟩)) rfl rfl (by kernel_rfl) (pe hs_1 rfl rfl) (o_move rfl ((pm rfl).trans ta_1_9)) ?_
    refine op_callG (e := 64) (vs := #[.pointer (some ⟨g_2, 0, none⟩)]) rfl rfl (by kernel_rfl) (pe hs_1 rfl rfl) (exec_call Try.func13 (by kernel_rfl) (by kernel_rfl) _ rfl _ _ (args1 (pe hs_1 rfl rfl))) (CRekey_any _ hLd) (fun e_6 w_7 hR_6 => ?_)
    obtain ⟨rfl, ⟨M_4, hC_4, hN_2⟩, hX_3⟩ := hR_6
    have hX_4 : BelowX Md _ _ := hX_3.mono (fun j _ hj => hj ▸ hLd.mem)
    have sp_6 : Sep M_3 M_4 := hN_2.sep (sp_5.symm) hC_3.lt
    replace hC_3 := hC_3.keepM hX_4 (sp_5.symm)
    have gg_4 := hN_2.ge gLd HB_4.size
    have HB_5 := hX_4.below HB_4 HB_4.size gLd
    refine ⟨_, rfl, ?_⟩
    refine op_valG (e := 64) (d := 67) (v := .bool (false)) rfl rfl (by kernel_rfl) (pe hs_1 rfl rfl) (o_eq (o_neq (m := 0) (n := 0) rfl (pe hs_1 rfl rfl) rfl) rfl) ?_
    refine op_valG (e := 60) (d := 68) (v := .bool (false)) rfl rfl (by kernel_rfl) (pe hs_1 rfl rfl) (o_pickF rfl (pe hs_1 rfl rfl) (pe hs_1 rfl rfl)) ?_
    refine q_v 69 (.bool (false)) (o_pickT rfl (pe hs_1 rfl rfl) (pe hs_1 rfl rfl)) ?_
    refine x_nil (hK_19 _ _ ?_)
    refine w2_condF (pe hs_1 rfl rfl) ?_
    refine w2_skip ?_
    refine hK_18 _ _ ?_
    refine w2_sr (fun K_20 hK_20 => ?_)
    refine q_mv ((pm rfl).trans ta_1_7) ?_
    refine q_mv ((pm rfl).trans ta_1_2) ?_
    refine q_mv ((pm rfl).trans ta_1_2) ?_
    refine q_ca (vs := #[.pointer (some ⟨g_1, 0, none⟩), .slice A2 (n2) (c2), .slice A2 (n2) (c2)]) Try.func16 (args3 (pe hs_1 rfl rfl) (pe hs_1 rfl rfl) (pe hs_1 rfl rfl)) (CSealM_any (num := K) _ hC_3 (h2.below HB_5) (h2.below HB_5) (by simp only [l2]) (by simp only [l2]) (by omega) (by omega) (by omega)) (fun e_7 w_8 hR_7 => ?_)
    obtain ⟨A_3, c_3, rfl, ho_3, hC_5, hX_5⟩ := hR_7
    have hl_1 : (sealL (rekeyL kk) (nonceL K) xb xb).length = n2 + 16 := by rw [sealL_length]; have h9 : (xb : List Nat).length = n2 := (by simp only [l2]); omega
    have hs_2 : Sep (blkA A_3) M_3 := (Sep.new hC_3.lt ho_3.ge').symm
    have hX_6 : BelowX M_3 _ _ := hX_5.mono (fun j _ hj => hj ▸ hC_3.mem)
    have sp_7 : Sep M_4 M_3 := (NextM.refl _ M_3).sep (sp_6.symm) hC_4.lt
    have sp_8 : Sep (blkA A_3) M_4 := (Sep.new hC_4.lt ho_3.ge').symm
    replace hC_4 := hC_4.keepM hX_6 (sp_6.symm)
    have gg_5 := (NextM.refl _ M_3).ge gg_3 HB_5.size
    replace ho_3 := ho_3.mono HB_5.size
    have HB_6 := hX_6.below HB_5 HB_5.size gg_3
    refine ⟨_, rfl, ?_⟩
    refine q_mv (pe hs_1 rfl rfl) ?_
    refine q_ex (v := .slice A_3 (n2 + 16) (c_3)) (pe hs_1 rfl rfl) rfl ?_
    refine q_ex (v := .int .i64 ((0 : Nat) : Int)) (pe hs_1 rfl rfl) rfl ?_
    refine q_at (pe hs_1 rfl rfl) ?_
    refine q_at (v := .int .i64 ((0 : Nat) : Int)) (pe hs_1 rfl rfl) ?_
    refine x_nil (hK_20 _ _ ?_)
    refine w2_seq (fun K_21 hK_21 => ?_)
    refine w2_sr (fun K_22 hK_22 => ?_)
    refine q_mv (v := .int .i64 ((0 : Nat) : Int)) (pe hs_1 rfl rfl) ?_
    refine q_v 78 (.bool (false)) (o_eq (o_neq (m := 0) (n := 0) rfl (pe hs_1 rfl rfl) rfl) rfl) ?_
    refine q_mv (pe hs_1 rfl rfl) ?_
    refine op_valG (e := 79) (d := 80) (v := .pointer (some ⟨g_1, 0, none⟩)) rfl rfl (by kernel_rfl) (pe hs_1 rfl rfl) (o_move rfl ((pm rfl).trans ta_1_7)) ?_
    refine op_callG (e := 79) (vs := #[.pointer (some ⟨g_1, 0, none⟩)]) rfl rfl (by kernel_rfl) (pe hs_1 rfl rfl) (exec_call Try.func23 (by kernel_rfl) (by kernel_rfl) _ rfl _ _ (args1 (pe hs_1 rfl rfl))) (CCount_any (num := K + 1) _ hC_5) (fun e_8 w_9 hR_8 => ?_)
    obtain ⟨rfl, rfl⟩ := hR_8
    refine ⟨_, rfl, ?_⟩
    refine op_valG (e := 79) (d := 82) (v := .int .i64 ((K : Nat) : Int)) rfl rfl (by kernel_rfl) (pe hs_1 rfl rfl) (o_move rfl (pe hs_1 rfl rfl)) ?_
    refine op_valG (e := 79) (d := 83) (v := .int .i64 ((K + 1 : Nat) : Int)) rfl rfl (by kernel_rfl) (pe hs_1 rfl rfl) (o_add64 (m := K) (n := 1) rfl (pe hs_1 rfl rfl) rfl (by omega)) ?_
    refine op_valG (e := 79) (d := 84) (v := .int .u64 ((K + 1 : Nat) : Int)) rfl rfl (by kernel_rfl) (pe hs_1 rfl rfl) (o_conv (m := (K + 1)) (r := K + 1) rfl (pe hs_1 rfl rfl) ⟨.int .i64, fun _ => by kernel_rfl⟩ (fun _ => by kernel_rfl) (by rw [IntKind.wrap_u64]; omega)) ?_
    refine op_valG (e := 79) (d := 85) (v := .bool (false)) rfl rfl (by kernel_rfl) (pe hs_1 rfl rfl) (o_eq (o_neq (m := (K + 1)) (n := (K + 1)) rfl (pe hs_1 rfl rfl) (pe hs_1 rfl rfl)) (by rw [decide_eq_true rfl]; rfl)) ?_
    refine q_v 86 (.bool (false)) (o_pickF rfl (pe hs_1 rfl rfl) (pe hs_1 rfl rfl)) ?_
    refine x_nil (hK_22 _ _ ?_)
    refine w2_condF (pe hs_1 rfl rfl) ?_
    refine w2_skip ?_
    refine hK_21 _ _ ?_
    refine w2_sr (fun K_23 hK_23 => ?_)
    refine op_ex (d := 87) rfl rfl (o_build0  rfl  ) (fun v_1 w_10 hR_9 => ?_)
    obtain ⟨g_3, rfl, ho_4, hb_6⟩ := hR_9
    have hob_1 := ho_4
    have lt_1 := hC_4.lt
    have lt_2 := hC_5.lt
    have lt_3 := ho_3.lt
    replace hC_4 := hC_4.nx hb_6
    replace hC_5 := hC_5.nx hb_6
    replace ho_3 := ho_3.nx hb_6
    have HB_7 := below_from HB_6 hb_6
    refine q_mv (pe hs_1 rfl rfl) ?_
    have sz_1 : w_8.heap.size ≤ w_10.heap.size := hb_6.size
    refine op_ex (d := 89) rfl rfl (o_append rfl (pe hs_1 rfl rfl) (pe hs_1 rfl rfl) hob_1 (ho_3).bs (by simp only [List.length_nil]) hl_1 (by omega) sz_1) (fun v_2 w_11 hR_10 => ?_)
    obtain ⟨A_4, c_4, rfl, ho_5, hb_7, hg_1, hat_1⟩ := hR_10
    replace hC_4 := hC_4.keep (fun k hk => hb_7.block k (lt_1 k hk)) hb_7.size
    replace hC_5 := hC_5.keep (fun k hk => hb_7.block k (lt_2 k hk)) hb_7.size
    replace ho_3 := ho_3.keep (fun k hk => hb_7.block k (lt_3 k hk))
    have HB_8 := HB_7.trans (hb_7.mono HB_6.size)
    have hob_2 := ho_5
    replace ho_5 := ho_5.mono HB_6.size
    have hl_2 : (([]) ++ (sealL (rekeyL kk) (nonceL K) xb xb)).length = 0 + (n2 + 16) := by rw [List.length_append]; have h8 : (([] : List Nat)).length = 0 := (by simp only [List.length_nil]); have h9 : (sealL (rekeyL kk) (nonceL K) xb xb).length = n2 + 16 := hl_1; omega
    have sz_2 : w_8.heap.size ≤ w_11.heap.size := Nat.le_trans sz_1 hb_7.size
    have sp_9 := Sep.new lt_1 hob_2.ge'
    have sp_10 := Sep.new lt_2 hob_2.ge'
    have sp_11 := Sep.new lt_3 hob_2.ge'
    refine q_at (pe hs_1 rfl rfl) ?_
    refine x_nil (hK_23 _ _ ?_)
    refine w2_seq (fun K_24 hK_24 => ?_)
    have b1 := getD_lt ho_5.b8 (0 + (n2 + 16) - 1)
    refine x_region (by kernel_rfl) ?_
    refine q_mv (pe hs_1 rfl rfl) ?_
    refine q_mv (pe hs_1 rfl rfl) ?_
    refine q_v 92 (.int .i64 ((0 + (n2 + 16) : Nat) : Int)) (o_len rfl (pe hs_1 rfl rfl)) ?_
    refine q_v 93 (.int .i64 (((0 + (n2 + 16)) - 1 : Nat) : Int)) (o_sub64 (m := (0 + (n2 + 16))) (n := 1) rfl (pe hs_1 rfl rfl) rfl (by omega) (by omega)) ?_
    refine q_v 94 (.pointer (atA A_4 ((0 + (n2 + 16)) - 1))) (o_ix (k := (0 + (n2 + 16)) - 1) rfl (pe hs_1 rfl rfl) (pe hs_1 rfl rfl) (by omega) ((ho_5).bs.some (by rw [hl_2]; omega))) ?_
    refine q_v 95 (.int .u8 (((([]) ++ (sealL (rekeyL kk) (nonceL K) xb xb)).getD ((0 + (n2 + 16)) - 1) 0 : Nat) : Int)) (o_ld8 rfl (pe hs_1 rfl rfl) (ho_5).bs (by rw [hl_2]; omega) rfl) ?_
    refine q_v 96 (.int .u8 ((((([]) ++ (sealL (rekeyL kk) (nonceL K) xb xb)).getD ((0 + (n2 + 16)) - 1) 0) ^^^ 1 : Nat) : Int)) (o_bits (m := ((([]) ++ (sealL (rekeyL kk) (nonceL K) xb xb)).getD ((0 + (n2 + 16)) - 1) 0)) (n := 1) (((([]) ++ (sealL (rekeyL kk) (nonceL K) xb xb)).getD ((0 + (n2 + 16)) - 1) 0) ^^^ 1) rfl (pe hs_1 rfl rfl) rfl (by decide) (u8_xor_nat _ _ b1 (by decide))) ?_
    refine q_v 97 (.pointer (atA A_4 ((0 + (n2 + 16)) - 1))) (o_ix (k := (0 + (n2 + 16)) - 1) rfl (pe hs_1 rfl rfl) (pe hs_1 rfl rfl) (by omega) ((ho_5).bs.some (by rw [hl_2]; omega))) ?_
    refine op_do rfl rfl (o_st8X rfl (pe hs_1 rfl rfl) (pe hs_1 rfl rfl) ho_5 (by have h9 : (([]) ++ (sealL (rekeyL kk) (nonceL K) xb xb)).length = 0 + (n2 + 16) := hl_2; omega) (Nat.xor_lt_two_pow (n := 8) b1 (by decide)) ⟨by kernel_rfl, by kernel_rfl⟩) (fun w_12 hR_11 => ?_)
    obtain ⟨ho_6, hX_7⟩ := hR_11
    replace hC_4 := hC_4.keepM hX_7 (sp_9)
    replace hC_5 := hC_5.keepM hX_7 (sp_10)
    replace ho_3 := ho_3.keepM hX_7 (sp_11)
    have HB_9 := hX_7.below HB_8 HB_8.size ho_5.ge'
    refine x_nil (hK_24 _ _ ?_)
    refine w2_seq (fun K_25 hK_25 => ?_)
    rw [cnt_last] at ho_6
    have hl_3 : ((sealL (rekeyL kk) (nonceL K) xb xb).set (n2 + 15) ((sealL (rekeyL kk) (nonceL K) xb xb).getD (n2 + 15) 0 ^^^ 1)).length = 0 + (n2 + 16) := by rw [List.length_set, sealL_length]; omega
    refine x_region (by kernel_rfl) ?_
    refine q_mv ((pm rfl).trans ta_1_9) ?_
    refine q_mv ((pm rfl).trans ta_1_2) ?_
    refine q_mv (pe hs_1 rfl rfl) ?_
    refine q_ca (vs := #[.pointer (some ⟨g_2, 0, none⟩), .slice A2 (n2) (c2), .slice A_4 (0 + (n2 + 16)) (c_4)]) Try.func24 (args3 (pe hs_1 rfl rfl) (pe hs_1 rfl rfl) (pe hs_1 rfl rfl)) (COpenM_any (num := K) (r := 4) (xs := ([] : List Nat)) _ hC_4 (h2.below HB_9) (ho_6).bs (by simp only [l2]) hl_3 (by omega) (by omega) (by omega) (tag_cnt _ _ _ l2)) (fun e_9 w_13 hR_12 => ?_)
    obtain ⟨A_5, c_5, rfl, ho_7, hC_6, hX_8⟩ := hR_12
    rw [if_neg (by decide)] at hC_6
    have hs_3 : Sep (blkA A_5) M_4 := (Sep.new hC_4.lt ho_7.ge').symm
    have hX_9 : BelowX M_4 _ _ := hX_8.mono (fun j _ hj => hj ▸ hC_4.mem)
    have sp_12 : Sep M_3 M_4 := (NextM.refl _ M_4).sep (sp_7.symm) hC_5.lt
    replace hC_5 := hC_5.keepM hX_9 (sp_7.symm)
    replace ho_3 := ho_3.keepM hX_9 (sp_8)
    have gg_6 := (NextM.refl _ M_4).ge gg_4 HB_9.size
    have HB_10 := hX_9.below HB_9 HB_9.size gg_4
    refine ⟨_, rfl, ?_⟩
    refine q_mv (pe hs_1 rfl rfl) ?_
    refine q_ex (v := .slice A_5 ((([] : List Nat)).length) (c_5)) (pe hs_1 rfl rfl) rfl ?_
    refine q_ex (v := .int .i64 ((4 : Nat) : Int)) (pe hs_1 rfl rfl) rfl ?_
    refine q_at (pe hs_1 rfl rfl) ?_
    refine q_at (v := .int .i64 ((4 : Nat) : Int)) (pe hs_1 rfl rfl) ?_
    refine x_nil (hK_25 _ _ ?_)
    refine w2_sr (fun K_26 hK_26 => ?_)
    refine q_mv ((pm rfl).trans ta_1_9) ?_
    refine q_mv ((pm rfl).trans ta_1_2) ?_
    refine q_mv (pe hs_1 rfl rfl) ?_
    refine q_ca (vs := #[.pointer (some ⟨g_2, 0, none⟩), .slice A2 (n2) (c2), .slice A_3 (n2 + 16) (c_3)]) Try.func24 (args3 (pe hs_1 rfl rfl) (pe hs_1 rfl rfl) (pe hs_1 rfl rfl)) (COpenM_any (num := K) (r := 0) (xs := xb) _ hC_6 (h2.below HB_10) (ho_3).bs (by simp only [l2]) hl_1 (by omega) (by omega) (by omega) (openL_sealL _ _ _ _)) (fun e_10 w_14 hR_13 => ?_)
    obtain ⟨A_6, c_6, rfl, ho_8, hC_7, hX_10⟩ := hR_13
    rw [if_pos (by decide)] at hC_7
    have hs_4 : Sep (blkA A_6) M_4 := (Sep.new hC_6.lt ho_8.ge').symm
    have hX_11 : BelowX M_4 _ _ := hX_10.mono (fun j _ hj => hj ▸ hC_6.mem)
    have sp_18 : Sep M_3 M_4 := (NextM.refl _ M_4).sep (sp_12) hC_5.lt
    replace hC_5 := hC_5.keepM hX_11 (sp_12)
    have gg_7 := (NextM.refl _ M_4).ge gg_6 HB_10.size
    replace ho_8 := ho_8.mono HB_10.size
    have HB_11 := hX_11.below HB_10 HB_10.size gg_6
    refine ⟨_, rfl, ?_⟩
    refine q_mv (pe hs_1 rfl rfl) ?_
    refine q_ex (v := .slice A_6 ((xb).length) (c_6)) (pe hs_1 rfl rfl) rfl ?_
    refine q_ex (v := .int .i64 ((0 : Nat) : Int)) (pe hs_1 rfl rfl) rfl ?_
    refine q_at (pe hs_1 rfl rfl) ?_
    refine q_at (v := .int .i64 ((0 : Nat) : Int)) (pe hs_1 rfl rfl) ?_
    refine x_nil (hK_26 _ _ ?_)
    refine w2_sr (fun K_27 hK_27 => ?_)
    refine q_mv (v := .int .i64 ((4 : Nat) : Int)) (pe hs_1 rfl rfl) ?_
    refine q_v 113 (.bool (false)) (o_eq (o_neq (m := 4) (n := 4) rfl (pe hs_1 rfl rfl) rfl) rfl) ?_
    refine q_mv (pe hs_1 rfl rfl) ?_
    refine op_valG (e := 114) (d := 115) (v := .int .i64 ((0 : Nat) : Int)) rfl rfl (by kernel_rfl) (pe hs_1 rfl rfl) (o_move rfl (pe hs_1 rfl rfl)) ?_
    refine op_valG (e := 114) (d := 116) (v := .bool (false)) rfl rfl (by kernel_rfl) (pe hs_1 rfl rfl) (o_eq (o_neq (m := 0) (n := 0) rfl (pe hs_1 rfl rfl) rfl) rfl) ?_
    refine q_v 117 (.bool (false)) (o_pickF rfl (pe hs_1 rfl rfl) (pe hs_1 rfl rfl)) ?_
    refine q_mv (pe hs_1 rfl rfl) ?_
    refine op_valG (e := 118) (d := 119) (v := .slice A_6 ((xb).length) (c_6)) rfl rfl (by kernel_rfl) (pe hs_1 rfl rfl) (o_move rfl (pe hs_1 rfl rfl)) ?_
    refine op_valG (e := 118) (d := 120) (v := .string (strB xb)) rfl rfl (by kernel_rfl) (pe hs_1 rfl rfl) (o_str rfl (pe hs_1 rfl rfl) (ho_8).bs rfl) ?_
    refine op_valG (e := 118) (d := 121) (v := .slice A2 (n2) (c2)) rfl rfl (by kernel_rfl) (pe hs_1 rfl rfl) (o_move rfl ((pm rfl).trans ta_1_2)) ?_
    refine op_valG (e := 118) (d := 122) (v := .string (strB xb)) rfl rfl (by kernel_rfl) (pe hs_1 rfl rfl) (o_str rfl (pe hs_1 rfl rfl) (h2.below HB_11) (by simp only [l2])) ?_
    refine op_valG (e := 118) (d := 123) (v := .bool (false)) rfl rfl (by kernel_rfl) (pe hs_1 rfl rfl) (o_neS rfl (pe hs_1 rfl rfl) (pe hs_1 rfl rfl) rfl) ?_
    refine q_v 124 (.bool (false)) (o_pickF rfl (pe hs_1 rfl rfl) (pe hs_1 rfl rfl)) ?_
    refine q_mv (pe hs_1 rfl rfl) ?_
    refine op_valG (e := 125) (d := 126) (v := .pointer (some ⟨g_2, 0, none⟩)) rfl rfl (by kernel_rfl) (pe hs_1 rfl rfl) (o_move rfl ((pm rfl).trans ta_1_9)) ?_
    refine op_callG (e := 125) (vs := #[.pointer (some ⟨g_2, 0, none⟩)]) rfl rfl (by kernel_rfl) (pe hs_1 rfl rfl) (exec_call Try.func23 (by kernel_rfl) (by kernel_rfl) _ rfl _ _ (args1 (pe hs_1 rfl rfl))) (CCount_any (num := K + 1) _ hC_7) (fun e_11 w_15 hR_14 => ?_)
    obtain ⟨rfl, rfl⟩ := hR_14
    refine ⟨_, rfl, ?_⟩
    refine op_valG (e := 125) (d := 128) (v := .int .i64 ((K : Nat) : Int)) rfl rfl (by kernel_rfl) (pe hs_1 rfl rfl) (o_move rfl (pe hs_1 rfl rfl)) ?_
    refine op_valG (e := 125) (d := 129) (v := .int .i64 ((K + 1 : Nat) : Int)) rfl rfl (by kernel_rfl) (pe hs_1 rfl rfl) (o_add64 (m := K) (n := 1) rfl (pe hs_1 rfl rfl) rfl (by omega)) ?_
    refine op_valG (e := 125) (d := 130) (v := .int .u64 ((K + 1 : Nat) : Int)) rfl rfl (by kernel_rfl) (pe hs_1 rfl rfl) (o_conv (m := (K + 1)) (r := K + 1) rfl (pe hs_1 rfl rfl) ⟨.int .i64, fun _ => by kernel_rfl⟩ (fun _ => by kernel_rfl) (by rw [IntKind.wrap_u64]; omega)) ?_
    refine op_valG (e := 125) (d := 131) (v := .bool (false)) rfl rfl (by kernel_rfl) (pe hs_1 rfl rfl) (o_eq (o_neq (m := (K + 1)) (n := (K + 1)) rfl (pe hs_1 rfl rfl) (pe hs_1 rfl rfl)) (by rw [decide_eq_true rfl]; rfl)) ?_
    refine q_v 132 (.bool (false)) (o_pickF rfl (pe hs_1 rfl rfl) (pe hs_1 rfl rfl)) ?_
    refine x_nil (hK_27 _ _ ?_)
    refine w2_condF (pe hs_1 rfl rfl) ?_
    refine w2_skip ?_
    refine hK_16 _ _ ?_
    refine hK_15 _ _ ?_
    refine x_region (by kernel_rfl) ?_
    refine q_v 133 (.int .i64 ((K + 1 : Nat) : Int)) (o_add64 (m := K) (n := 1) rfl ((pm rfl).trans ta_1_54) rfl (by omega)) ?_
    refine q_mv (pe hs_1 rfl rfl) ?_
    refine x_nil ?_
    refine hK_12 _ _ _ ⟨K + 1, (rekeyL kk), M_3, M_4, rfl, (by rw [putsR_size]; exact hs_1), (by rw [putsR_defers]; exact hd_1), ((pm rfl).trans ta_1_0), ((pm rfl).trans ta_1_1), ((pm rfl).trans ta_1_2), ((pm rfl).trans ta_1_7), ((pm rfl).trans ta_1_8), ((pm rfl).trans ta_1_9), ((pm rfl).trans ta_1_10), ((pm rfl).trans ta_1_19), ((pm rfl).trans ta_1_20), ((pm rfl).trans ta_1_21), ((pm rfl).trans ta_1_23), ((pm rfl).trans ta_1_24), ((pm rfl).trans ta_1_25), ((pm rfl).trans ta_1_26), ((pm rfl).trans ta_1_27), ((pm rfl).trans ta_1_28), ((pm rfl).trans ta_1_29), ((pm rfl).trans ta_1_30), ((pm rfl).trans ta_1_31), ((pm rfl).trans ta_1_32), ((pm rfl).trans ta_1_33), ((pm rfl).trans ta_1_34), ((pm rfl).trans ta_1_35), ((pm rfl).trans ta_1_36), ((pm rfl).trans ta_1_37), ((pm rfl).trans ta_1_38), ((pm rfl).trans ta_1_39), ((pm rfl).trans ta_1_40), ((pm rfl).trans ta_1_41), ((pm rfl).trans ta_1_42), ((pm rfl).trans ta_1_43), ((pm rfl).trans ta_1_44), ((pm rfl).trans ta_1_45), ((pm rfl).trans ta_1_46), ((pm rfl).trans ta_1_47), ((pm rfl).trans ta_1_48), ((pm rfl).trans ta_1_49), ((pm rfl).trans ta_1_50), ((pm rfl).trans ta_1_51), ((pm rfl).trans ta_1_52), ((pm rfl).trans ta_1_53), (pe hs_1 rfl rfl), (by omega), hC_5, hC_7, sp_18, gg_5, gg_7, HB_11⟩ ?_
    omega
   ·skip
    refine x_region (by kernel_rfl) ?_
    refine q_mv (pe hs_1 rfl rfl) ?_
    refine q_v 58 (.int .i64 ((K % 7 : Nat) : Int)) (o_rem (m := K) (n := 7) rfl (pe hs_1 rfl rfl) rfl (by omega) (IntWalk.i64_in _ (by omega))) ?_
    refine q_v 59 (.bool (false)) (o_eq (o_eql (m := (K % 7)) (n := 6) rfl (pe hs_1 rfl rfl) rfl) (by rw [decide_eq_false q7])) ?_
    refine q_mv (pe hs_1 rfl rfl) ?_
    refine op_left (e := 60) rfl rfl (by kernel_rfl) (pe hs_1 rfl rfl) rfl ?_
    refine op_left (e := 60) rfl rfl (by kernel_rfl) (pe hs_1 rfl rfl) rfl ?_
    refine op_left (e := 60) rfl rfl (by kernel_rfl) (pe hs_1 rfl rfl) rfl ?_
    refine op_left (e := 60) rfl rfl (by kernel_rfl) (pe hs_1 rfl rfl) rfl ?_
    refine op_leftU (e := 64) rfl rfl (by kernel_rfl) (pe hs_1 rfl rfl) ?_
    refine op_leftU (e := 64) rfl rfl (by kernel_rfl) (pe hs_1 rfl rfl) ?_
    refine op_leftU (e := 64) rfl rfl (by kernel_rfl) (pe hs_1 rfl rfl) ?_
    refine op_left (e := 60) rfl rfl (by kernel_rfl) (pe hs_1 rfl rfl) rfl ?_
    refine q_v 69 (.bool (false)) (o_pickF rfl (pe hs_1 rfl rfl) rfl) ?_
    refine x_nil (hK_19 _ _ ?_)
    refine w2_condF (pe hs_1 rfl rfl) ?_
    refine w2_skip ?_
    refine hK_18 _ _ ?_
    refine w2_sr (fun K_28 hK_28 => ?_)
    refine q_mv ((pm rfl).trans ta_1_7) ?_
    refine q_mv ((pm rfl).trans ta_1_2) ?_
    refine q_mv ((pm rfl).trans ta_1_2) ?_
    refine q_ca (vs := #[.pointer (some ⟨g_1, 0, none⟩), .slice A2 (n2) (c2), .slice A2 (n2) (c2)]) Try.func16 (args3 (pe hs_1 rfl rfl) (pe hs_1 rfl rfl) (pe hs_1 rfl rfl)) (CSealM_any (num := K) _ hLc (h2.below HBL) (h2.below HBL) (by simp only [l2]) (by simp only [l2]) (by omega) (by omega) (by omega)) (fun e_12 w_16 hR_15 => ?_)
    obtain ⟨A_7, c_7, rfl, ho_9, hC_8, hX_12⟩ := hR_15
    have hl_4 : (sealL kk (nonceL K) xb xb).length = n2 + 16 := by rw [sealL_length]; have h9 : (xb : List Nat).length = n2 := (by simp only [l2]); omega
    have hs_5 : Sep (blkA A_7) Mc := (Sep.new hLc.lt ho_9.ge').symm
    have hX_13 : BelowX Mc _ _ := hX_12.mono (fun j _ hj => hj ▸ hLc.mem)
    have sp_26 : Sep Md Mc := (NextM.refl _ Mc).sep (sLcd.symm) hLd.lt
    have sp_27 : Sep (blkA A_7) Md := (Sep.new hLd.lt ho_9.ge').symm
    replace hLd := hLd.keepM hX_13 (sLcd.symm)
    have gg_8 := (NextM.refl _ Mc).ge gLc HBL.size
    replace ho_9 := ho_9.mono HBL.size
    have HB_12 := hX_13.below HBL HBL.size gLc
    refine ⟨_, rfl, ?_⟩
    refine q_mv (pe hs_1 rfl rfl) ?_
    refine q_ex (v := .slice A_7 (n2 + 16) (c_7)) (pe hs_1 rfl rfl) rfl ?_
    refine q_ex (v := .int .i64 ((0 : Nat) : Int)) (pe hs_1 rfl rfl) rfl ?_
    refine q_at (pe hs_1 rfl rfl) ?_
    refine q_at (v := .int .i64 ((0 : Nat) : Int)) (pe hs_1 rfl rfl) ?_
    refine x_nil (hK_28 _ _ ?_)
    refine w2_seq (fun K_29 hK_29 => ?_)
    refine w2_sr (fun K_30 hK_30 => ?_)
    refine q_mv (v := .int .i64 ((0 : Nat) : Int)) (pe hs_1 rfl rfl) ?_
    refine q_v 78 (.bool (false)) (o_eq (o_neq (m := 0) (n := 0) rfl (pe hs_1 rfl rfl) rfl) rfl) ?_
    refine q_mv (pe hs_1 rfl rfl) ?_
    refine op_valG (e := 79) (d := 80) (v := .pointer (some ⟨g_1, 0, none⟩)) rfl rfl (by kernel_rfl) (pe hs_1 rfl rfl) (o_move rfl ((pm rfl).trans ta_1_7)) ?_
    refine op_callG (e := 79) (vs := #[.pointer (some ⟨g_1, 0, none⟩)]) rfl rfl (by kernel_rfl) (pe hs_1 rfl rfl) (exec_call Try.func23 (by kernel_rfl) (by kernel_rfl) _ rfl _ _ (args1 (pe hs_1 rfl rfl))) (CCount_any (num := K + 1) _ hC_8) (fun e_13 w_17 hR_16 => ?_)
    obtain ⟨rfl, rfl⟩ := hR_16
    refine ⟨_, rfl, ?_⟩
    refine op_valG (e := 79) (d := 82) (v := .int .i64 ((K : Nat) : Int)) rfl rfl (by kernel_rfl) (pe hs_1 rfl rfl) (o_move rfl (pe hs_1 rfl rfl)) ?_
    refine op_valG (e := 79) (d := 83) (v := .int .i64 ((K + 1 : Nat) : Int)) rfl rfl (by kernel_rfl) (pe hs_1 rfl rfl) (o_add64 (m := K) (n := 1) rfl (pe hs_1 rfl rfl) rfl (by omega)) ?_
    refine op_valG (e := 79) (d := 84) (v := .int .u64 ((K + 1 : Nat) : Int)) rfl rfl (by kernel_rfl) (pe hs_1 rfl rfl) (o_conv (m := (K + 1)) (r := K + 1) rfl (pe hs_1 rfl rfl) ⟨.int .i64, fun _ => by kernel_rfl⟩ (fun _ => by kernel_rfl) (by rw [IntKind.wrap_u64]; omega)) ?_
    refine op_valG (e := 79) (d := 85) (v := .bool (false)) rfl rfl (by kernel_rfl) (pe hs_1 rfl rfl) (o_eq (o_neq (m := (K + 1)) (n := (K + 1)) rfl (pe hs_1 rfl rfl) (pe hs_1 rfl rfl)) (by rw [decide_eq_true rfl]; rfl)) ?_
    refine q_v 86 (.bool (false)) (o_pickF rfl (pe hs_1 rfl rfl) (pe hs_1 rfl rfl)) ?_
    refine x_nil (hK_30 _ _ ?_)
    refine w2_condF (pe hs_1 rfl rfl) ?_
    refine w2_skip ?_
    refine hK_29 _ _ ?_
    refine w2_sr (fun K_31 hK_31 => ?_)
    refine op_ex (d := 87) rfl rfl (o_build0  rfl  ) (fun v_3 w_18 hR_17 => ?_)
    obtain ⟨g_4, rfl, ho_10, hb_11⟩ := hR_17
    have hob_3 := ho_10
    have lt_4 := hLd.lt
    have lt_5 := hC_8.lt
    have lt_6 := ho_9.lt
    replace hLd := hLd.nx hb_11
    replace hC_8 := hC_8.nx hb_11
    replace ho_9 := ho_9.nx hb_11
    have HB_13 := below_from HB_12 hb_11
    refine q_mv (pe hs_1 rfl rfl) ?_
    have sz_3 : w_16.heap.size ≤ w_18.heap.size := hb_11.size
    refine op_ex (d := 89) rfl rfl (o_append rfl (pe hs_1 rfl rfl) (pe hs_1 rfl rfl) hob_3 (ho_9).bs (by simp only [List.length_nil]) hl_4 (by omega) sz_3) (fun v_4 w_19 hR_18 => ?_)
    obtain ⟨A_8, c_8, rfl, ho_11, hb_12, hg_2, hat_2⟩ := hR_18
    replace hLd := hLd.keep (fun k hk => hb_12.block k (lt_4 k hk)) hb_12.size
    replace hC_8 := hC_8.keep (fun k hk => hb_12.block k (lt_5 k hk)) hb_12.size
    replace ho_9 := ho_9.keep (fun k hk => hb_12.block k (lt_6 k hk))
    have HB_14 := HB_13.trans (hb_12.mono HB_12.size)
    have hob_4 := ho_11
    replace ho_11 := ho_11.mono HB_12.size
    have hl_5 : (([]) ++ (sealL kk (nonceL K) xb xb)).length = 0 + (n2 + 16) := by rw [List.length_append]; have h8 : (([] : List Nat)).length = 0 := (by simp only [List.length_nil]); have h9 : (sealL kk (nonceL K) xb xb).length = n2 + 16 := hl_4; omega
    have sz_4 : w_16.heap.size ≤ w_19.heap.size := Nat.le_trans sz_3 hb_12.size
    have sp_28 := Sep.new lt_4 hob_4.ge'
    have sp_29 := Sep.new lt_5 hob_4.ge'
    have sp_30 := Sep.new lt_6 hob_4.ge'
    refine q_at (pe hs_1 rfl rfl) ?_
    refine x_nil (hK_31 _ _ ?_)
    refine w2_seq (fun K_32 hK_32 => ?_)
    have b1 := getD_lt ho_11.b8 (0 + (n2 + 16) - 1)
    refine x_region (by kernel_rfl) ?_
    refine q_mv (pe hs_1 rfl rfl) ?_
    refine q_mv (pe hs_1 rfl rfl) ?_
    refine q_v 92 (.int .i64 ((0 + (n2 + 16) : Nat) : Int)) (o_len rfl (pe hs_1 rfl rfl)) ?_
    refine q_v 93 (.int .i64 (((0 + (n2 + 16)) - 1 : Nat) : Int)) (o_sub64 (m := (0 + (n2 + 16))) (n := 1) rfl (pe hs_1 rfl rfl) rfl (by omega) (by omega)) ?_
    refine q_v 94 (.pointer (atA A_8 ((0 + (n2 + 16)) - 1))) (o_ix (k := (0 + (n2 + 16)) - 1) rfl (pe hs_1 rfl rfl) (pe hs_1 rfl rfl) (by omega) ((ho_11).bs.some (by rw [hl_5]; omega))) ?_
    refine q_v 95 (.int .u8 (((([]) ++ (sealL kk (nonceL K) xb xb)).getD ((0 + (n2 + 16)) - 1) 0 : Nat) : Int)) (o_ld8 rfl (pe hs_1 rfl rfl) (ho_11).bs (by rw [hl_5]; omega) rfl) ?_
    refine q_v 96 (.int .u8 ((((([]) ++ (sealL kk (nonceL K) xb xb)).getD ((0 + (n2 + 16)) - 1) 0) ^^^ 1 : Nat) : Int)) (o_bits (m := ((([]) ++ (sealL kk (nonceL K) xb xb)).getD ((0 + (n2 + 16)) - 1) 0)) (n := 1) (((([]) ++ (sealL kk (nonceL K) xb xb)).getD ((0 + (n2 + 16)) - 1) 0) ^^^ 1) rfl (pe hs_1 rfl rfl) rfl (by decide) (u8_xor_nat _ _ b1 (by decide))) ?_
    refine q_v 97 (.pointer (atA A_8 ((0 + (n2 + 16)) - 1))) (o_ix (k := (0 + (n2 + 16)) - 1) rfl (pe hs_1 rfl rfl) (pe hs_1 rfl rfl) (by omega) ((ho_11).bs.some (by rw [hl_5]; omega))) ?_
    refine op_do rfl rfl (o_st8X rfl (pe hs_1 rfl rfl) (pe hs_1 rfl rfl) ho_11 (by have h9 : (([]) ++ (sealL kk (nonceL K) xb xb)).length = 0 + (n2 + 16) := hl_5; omega) (Nat.xor_lt_two_pow (n := 8) b1 (by decide)) ⟨by kernel_rfl, by kernel_rfl⟩) (fun w_20 hR_19 => ?_)
    obtain ⟨ho_12, hX_14⟩ := hR_19
    replace hLd := hLd.keepM hX_14 (sp_28)
    replace hC_8 := hC_8.keepM hX_14 (sp_29)
    replace ho_9 := ho_9.keepM hX_14 (sp_30)
    have HB_15 := hX_14.below HB_14 HB_14.size ho_11.ge'
    refine x_nil (hK_32 _ _ ?_)
    refine w2_seq (fun K_33 hK_33 => ?_)
    rw [cnt_last] at ho_12
    have hl_6 : ((sealL kk (nonceL K) xb xb).set (n2 + 15) ((sealL kk (nonceL K) xb xb).getD (n2 + 15) 0 ^^^ 1)).length = 0 + (n2 + 16) := by rw [List.length_set, sealL_length]; omega
    refine x_region (by kernel_rfl) ?_
    refine q_mv ((pm rfl).trans ta_1_9) ?_
    refine q_mv ((pm rfl).trans ta_1_2) ?_
    refine q_mv (pe hs_1 rfl rfl) ?_
    refine q_ca (vs := #[.pointer (some ⟨g_2, 0, none⟩), .slice A2 (n2) (c2), .slice A_8 (0 + (n2 + 16)) (c_8)]) Try.func24 (args3 (pe hs_1 rfl rfl) (pe hs_1 rfl rfl) (pe hs_1 rfl rfl)) (COpenM_any (num := K) (r := 4) (xs := ([] : List Nat)) _ hLd (h2.below HB_15) (ho_12).bs (by simp only [l2]) hl_6 (by omega) (by omega) (by omega) (tag_cnt _ _ _ l2)) (fun e_14 w_21 hR_20 => ?_)
    obtain ⟨A_9, c_9, rfl, ho_13, hC_9, hX_15⟩ := hR_20
    rw [if_neg (by decide)] at hC_9
    have hs_6 : Sep (blkA A_9) Md := (Sep.new hLd.lt ho_13.ge').symm
    have hX_16 : BelowX Md _ _ := hX_15.mono (fun j _ hj => hj ▸ hLd.mem)
    have sp_31 : Sep Mc Md := (NextM.refl _ Md).sep (sp_26.symm) hC_8.lt
    replace hC_8 := hC_8.keepM hX_16 (sp_26.symm)
    replace ho_9 := ho_9.keepM hX_16 (sp_27)
    have gg_9 := (NextM.refl _ Md).ge gLd HB_15.size
    have HB_16 := hX_16.below HB_15 HB_15.size gLd
    refine ⟨_, rfl, ?_⟩
    refine q_mv (pe hs_1 rfl rfl) ?_
    refine q_ex (v := .slice A_9 ((([] : List Nat)).length) (c_9)) (pe hs_1 rfl rfl) rfl ?_
    refine q_ex (v := .int .i64 ((4 : Nat) : Int)) (pe hs_1 rfl rfl) rfl ?_
    refine q_at (pe hs_1 rfl rfl) ?_
    refine q_at (v := .int .i64 ((4 : Nat) : Int)) (pe hs_1 rfl rfl) ?_
    refine x_nil (hK_33 _ _ ?_)
    refine w2_sr (fun K_34 hK_34 => ?_)
    refine q_mv ((pm rfl).trans ta_1_9) ?_
    refine q_mv ((pm rfl).trans ta_1_2) ?_
    refine q_mv (pe hs_1 rfl rfl) ?_
    refine q_ca (vs := #[.pointer (some ⟨g_2, 0, none⟩), .slice A2 (n2) (c2), .slice A_7 (n2 + 16) (c_7)]) Try.func24 (args3 (pe hs_1 rfl rfl) (pe hs_1 rfl rfl) (pe hs_1 rfl rfl)) (COpenM_any (num := K) (r := 0) (xs := xb) _ hC_9 (h2.below HB_16) (ho_9).bs (by simp only [l2]) hl_4 (by omega) (by omega) (by omega) (openL_sealL _ _ _ _)) (fun e_15 w_22 hR_21 => ?_)
    obtain ⟨A_10, c_10, rfl, ho_14, hC_10, hX_17⟩ := hR_21
    rw [if_pos (by decide)] at hC_10
    have hs_7 : Sep (blkA A_10) Md := (Sep.new hC_9.lt ho_14.ge').symm
    have hX_18 : BelowX Md _ _ := hX_17.mono (fun j _ hj => hj ▸ hC_9.mem)
    have sp_37 : Sep Mc Md := (NextM.refl _ Md).sep (sp_31) hC_8.lt
    replace hC_8 := hC_8.keepM hX_18 (sp_31)
    have gg_10 := (NextM.refl _ Md).ge gg_9 HB_16.size
    replace ho_14 := ho_14.mono HB_16.size
    have HB_17 := hX_18.below HB_16 HB_16.size gg_9
    refine ⟨_, rfl, ?_⟩
    refine q_mv (pe hs_1 rfl rfl) ?_
    refine q_ex (v := .slice A_10 ((xb).length) (c_10)) (pe hs_1 rfl rfl) rfl ?_
    refine q_ex (v := .int .i64 ((0 : Nat) : Int)) (pe hs_1 rfl rfl) rfl ?_
    refine q_at (pe hs_1 rfl rfl) ?_
    refine q_at (v := .int .i64 ((0 : Nat) : Int)) (pe hs_1 rfl rfl) ?_
    refine x_nil (hK_34 _ _ ?_)
    refine w2_sr (fun K_35 hK_35 => ?_)
    refine q_mv (v := .int .i64 ((4 : Nat) : Int)) (pe hs_1 rfl rfl) ?_
    refine q_v 113 (.bool (false)) (o_eq (o_neq (m := 4) (n := 4) rfl (pe hs_1 rfl rfl) rfl) rfl) ?_
    refine q_mv (pe hs_1 rfl rfl) ?_
    refine op_valG (e := 114) (d := 115) (v := .int .i64 ((0 : Nat) : Int)) rfl rfl (by kernel_rfl) (pe hs_1 rfl rfl) (o_move rfl (pe hs_1 rfl rfl)) ?_
    refine op_valG (e := 114) (d := 116) (v := .bool (false)) rfl rfl (by kernel_rfl) (pe hs_1 rfl rfl) (o_eq (o_neq (m := 0) (n := 0) rfl (pe hs_1 rfl rfl) rfl) rfl) ?_
    refine q_v 117 (.bool (false)) (o_pickF rfl (pe hs_1 rfl rfl) (pe hs_1 rfl rfl)) ?_
    refine q_mv (pe hs_1 rfl rfl) ?_
    refine op_valG (e := 118) (d := 119) (v := .slice A_10 ((xb).length) (c_10)) rfl rfl (by kernel_rfl) (pe hs_1 rfl rfl) (o_move rfl (pe hs_1 rfl rfl)) ?_
    refine op_valG (e := 118) (d := 120) (v := .string (strB xb)) rfl rfl (by kernel_rfl) (pe hs_1 rfl rfl) (o_str rfl (pe hs_1 rfl rfl) (ho_14).bs rfl) ?_
    refine op_valG (e := 118) (d := 121) (v := .slice A2 (n2) (c2)) rfl rfl (by kernel_rfl) (pe hs_1 rfl rfl) (o_move rfl ((pm rfl).trans ta_1_2)) ?_
    refine op_valG (e := 118) (d := 122) (v := .string (strB xb)) rfl rfl (by kernel_rfl) (pe hs_1 rfl rfl) (o_str rfl (pe hs_1 rfl rfl) (h2.below HB_17) (by simp only [l2])) ?_
    refine op_valG (e := 118) (d := 123) (v := .bool (false)) rfl rfl (by kernel_rfl) (pe hs_1 rfl rfl) (o_neS rfl (pe hs_1 rfl rfl) (pe hs_1 rfl rfl) rfl) ?_
    refine q_v 124 (.bool (false)) (o_pickF rfl (pe hs_1 rfl rfl) (pe hs_1 rfl rfl)) ?_
    refine q_mv (pe hs_1 rfl rfl) ?_
    refine op_valG (e := 125) (d := 126) (v := .pointer (some ⟨g_2, 0, none⟩)) rfl rfl (by kernel_rfl) (pe hs_1 rfl rfl) (o_move rfl ((pm rfl).trans ta_1_9)) ?_
    refine op_callG (e := 125) (vs := #[.pointer (some ⟨g_2, 0, none⟩)]) rfl rfl (by kernel_rfl) (pe hs_1 rfl rfl) (exec_call Try.func23 (by kernel_rfl) (by kernel_rfl) _ rfl _ _ (args1 (pe hs_1 rfl rfl))) (CCount_any (num := K + 1) _ hC_10) (fun e_16 w_23 hR_22 => ?_)
    obtain ⟨rfl, rfl⟩ := hR_22
    refine ⟨_, rfl, ?_⟩
    refine op_valG (e := 125) (d := 128) (v := .int .i64 ((K : Nat) : Int)) rfl rfl (by kernel_rfl) (pe hs_1 rfl rfl) (o_move rfl (pe hs_1 rfl rfl)) ?_
    refine op_valG (e := 125) (d := 129) (v := .int .i64 ((K + 1 : Nat) : Int)) rfl rfl (by kernel_rfl) (pe hs_1 rfl rfl) (o_add64 (m := K) (n := 1) rfl (pe hs_1 rfl rfl) rfl (by omega)) ?_
    refine op_valG (e := 125) (d := 130) (v := .int .u64 ((K + 1 : Nat) : Int)) rfl rfl (by kernel_rfl) (pe hs_1 rfl rfl) (o_conv (m := (K + 1)) (r := K + 1) rfl (pe hs_1 rfl rfl) ⟨.int .i64, fun _ => by kernel_rfl⟩ (fun _ => by kernel_rfl) (by rw [IntKind.wrap_u64]; omega)) ?_
    refine op_valG (e := 125) (d := 131) (v := .bool (false)) rfl rfl (by kernel_rfl) (pe hs_1 rfl rfl) (o_eq (o_neq (m := (K + 1)) (n := (K + 1)) rfl (pe hs_1 rfl rfl) (pe hs_1 rfl rfl)) (by rw [decide_eq_true rfl]; rfl)) ?_
    refine q_v 132 (.bool (false)) (o_pickF rfl (pe hs_1 rfl rfl) (pe hs_1 rfl rfl)) ?_
    refine x_nil (hK_35 _ _ ?_)
    refine w2_condF (pe hs_1 rfl rfl) ?_
    refine w2_skip ?_
    refine hK_16 _ _ ?_
    refine hK_15 _ _ ?_
    refine x_region (by kernel_rfl) ?_
    refine q_v 133 (.int .i64 ((K + 1 : Nat) : Int)) (o_add64 (m := K) (n := 1) rfl ((pm rfl).trans ta_1_54) rfl (by omega)) ?_
    refine q_mv (pe hs_1 rfl rfl) ?_
    refine x_nil ?_
    refine hK_12 _ _ _ ⟨K + 1, kk, Mc, Md, rfl, (by rw [putsR_size]; exact hs_1), (by rw [putsR_defers]; exact hd_1), ((pm rfl).trans ta_1_0), ((pm rfl).trans ta_1_1), ((pm rfl).trans ta_1_2), ((pm rfl).trans ta_1_7), ((pm rfl).trans ta_1_8), ((pm rfl).trans ta_1_9), ((pm rfl).trans ta_1_10), ((pm rfl).trans ta_1_19), ((pm rfl).trans ta_1_20), ((pm rfl).trans ta_1_21), ((pm rfl).trans ta_1_23), ((pm rfl).trans ta_1_24), ((pm rfl).trans ta_1_25), ((pm rfl).trans ta_1_26), ((pm rfl).trans ta_1_27), ((pm rfl).trans ta_1_28), ((pm rfl).trans ta_1_29), ((pm rfl).trans ta_1_30), ((pm rfl).trans ta_1_31), ((pm rfl).trans ta_1_32), ((pm rfl).trans ta_1_33), ((pm rfl).trans ta_1_34), ((pm rfl).trans ta_1_35), ((pm rfl).trans ta_1_36), ((pm rfl).trans ta_1_37), ((pm rfl).trans ta_1_38), ((pm rfl).trans ta_1_39), ((pm rfl).trans ta_1_40), ((pm rfl).trans ta_1_41), ((pm rfl).trans ta_1_42), ((pm rfl).trans ta_1_43), ((pm rfl).trans ta_1_44), ((pm rfl).trans ta_1_45), ((pm rfl).trans ta_1_46), ((pm rfl).trans ta_1_47), ((pm rfl).trans ta_1_48), ((pm rfl).trans ta_1_49), ((pm rfl).trans ta_1_50), ((pm rfl).trans ta_1_51), ((pm rfl).trans ta_1_52), ((pm rfl).trans ta_1_53), (pe hs_1 rfl rfl), (by omega), hC_8, hC_10, sp_37, gg_8, gg_10, HB_17⟩ ?_
    omega
  ·simp only [DD9] at h_1
   have hge9 := h_1
   refine w2_exit ?_
   refine thn_exit ?_
   refine thn_exit ?_
   refine exb_hit ?_
   refine hK_11 _ _ ?_
   refine hK_9 _ _ ?_
   refine w2_sr (fun K_36 hK_36 => ?_)
   refine q_ca (vs := #[]) Try.func10 (args0) (awake10_any _) (fun e_17 w_24 hR_23 => ?_)
   obtain ⟨rfl, hb_16⟩ := hR_23
   replace hLc := hLc.nx hb_16
   replace hLd := hLd.nx hb_16
   have HB_18 := below_from HBL hb_16
   refine ⟨_, rfl, ?_⟩
   refine q_at (pe hs_1 rfl rfl) ?_
   refine x_nil (hK_36 _ _ ?_)
   refine w2_ret ?_
   refine ret1 rfl hd_1 (pe hs_1 rfl rfl) ?_
   exact ⟨rfl, HB_18⟩
end Go.Proofs.Ytbgonhmaeekkaaa
