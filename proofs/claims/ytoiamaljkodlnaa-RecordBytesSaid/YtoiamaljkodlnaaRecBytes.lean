/-
  WALKS: sapperlaw12.RecordBytes.
-/
import Derived.Test.YtoiamaljkodlnaaAwake12
import Derived.Test.YtoiamaljkodlnaaRow
namespace Go.Proofs.Ytoiamaljkodlnaa
open Go.RowKit
set_option linter.unusedVariables false
set_option linter.unusedSimpArgs false
set_option maxRecDepth 100000
attribute [local irreducible] wpList wpListIn putsR

section
variable {o : Oper} {ev : Operand → Value} {w : World} {x y z : Operand} {T U t : TypeId}
theorem o_idxL {cs : Array Value} {n i : Nat} {v : Value} {e : TypeId} (ho : o.op = .index T x y) (hx : ev x = .agg cs) (hy : ev y = .int .i64 (i : Int)) (hi : i < n) (hv : cs[i]? = some v) (hT : ∀ w : World, (underlying T).run Try.prog w = .ok (.array n e) w) (he : IsOne e) :
    (execOp ev o).run Try.prog w = .ok (.value v) w := by
  have h1 : (i : Int) < (n : Int) := by omega
  have h2 := one_runs he
  simp [execOp, ho, hx, hy, Instr.index, asIntOf, hT, hi, part, h2, hv, Sem.run_bind, Sem.run_pure]
end
theorem runR_inv : ∀ (f : Nat) (r : Rd), (runR f r []).2.1 = 0 → (runR f r []).1.dead = r.dead ∧ (runR f r []).1.co.n + (runR f r []).1.wait.length ≤ r.co.n + r.wait.length ∧ (runR f r []).1.co.cnt + (runR f r []).1.wait.length ≤ r.co.cnt + r.wait.length ∧ (runR f r []).1.wait.length ≤ r.wait.length
  | 0, r, _ => ⟨rfl, Nat.le_refl _, Nat.le_refl _, Nat.le_refl _⟩
  | f + 1, r, h => by
    cases hs : stepR r with
    | none =>
      rw [run_none hs]
      exact ⟨rfl, Nat.le_refl _, Nat.le_refl _, Nat.le_refl _⟩
    | some x =>
      by_cases hx : x.2.1 = 0
      · rw [run_good hs hx, runR_out] at h ⊢
        dsimp only at h ⊢
        have ih := runR_inv f x.1 h
        obtain ⟨i1, i2, i3, i4, i5, i6⟩ := stepR_inv hs
        have i7 := stepR_lt hs
        exact ⟨ih.1.trans i4, by omega, by omega, by omega⟩
      · rw [run_bad hs hx] at h
        exact absurd h hx
theorem feed_inv {r : Rd} {b : List Nat} (h : (feedR r b).2.1 = 0) : (feedR r b).1.dead = r.dead ∧ (feedR r b).1.co.n + (feedR r b).1.wait.length ≤ r.co.n + (r.wait.length + b.length) ∧ (feedR r b).1.co.cnt + (feedR r b).1.wait.length ≤ r.co.cnt + (r.wait.length + b.length) ∧ (feedR r b).1.wait.length ≤ r.wait.length + b.length := by
  have h1 := runR_inv _ _ h
  have e : (r.more b).wait.length = r.wait.length + b.length := List.length_append
  exact ⟨h1.1, Nat.le_trans h1.2.1 (Nat.le_of_eq (by rw [e]; rfl)), Nat.le_trans h1.2.2.1 (Nat.le_of_eq (by rw [e]; rfl)), Nat.le_trans h1.2.2.2 (Nat.le_of_eq e)⟩
theorem take_one (xs : List Nat) (J : Nat) : xs.take (J + 1) = xs.take J ++ (xs.drop J).take 1 := List.take_add
theorem piece_step (c : Co) (R : List Nat) (J : Nat) (h0 : (feedR (Rd.at0 c []) (R.take J)).2 = (0, [])) : feedR (Rd.at0 c []) (R.take (J + 1)) = feedR (feedR (Rd.at0 c []) (R.take J)).1 ((R.drop J).take 1) := by
  rw [take_one, feedR_split _ _ _ (by rw [h0]), h0]
  rfl
theorem piece_mid (c : Co) {b : List Nat} (hb : b.length ≤ 4096) (J : Nat) (hJ : J + 1 < (recL c b).length) : feedR (feedR (Rd.at0 c []) ((recL c b).take J)).1 (((recL c b).drop J).take 1) = ((feedR (Rd.at0 c []) ((recL c b).take (J + 1))).1, 0, []) := by
  have h0 := feed_piece c hb J (by omega)
  have h1 := feed_piece c hb (J + 1) hJ
  rw [← piece_step c _ J h0]
  generalize feedR (Rd.at0 c []) ((recL c b).take (J + 1)) = q at h1
  obtain ⟨q1, q2⟩ := q
  simp only at h1
  rw [h1]
theorem piece_last (c : Co) {b : List Nat} (hb : b.length ≤ 4096) (J : Nat) (hJ : J + 1 = (recL c b).length) : feedR (feedR (Rd.at0 c []) ((recL c b).take J)).1 (((recL c b).drop J).take 1) = (Rd.at0 c.put [], 0, [b]) := by
  have h0 := feed_piece c hb J (by omega)
  rw [← piece_step c _ J h0, hJ, List.take_length, feed_one c hb]
theorem piece_inv (c : Co) {b : List Nat} (hb : b.length ≤ 4096) (J : Nat) (hJ : J < (recL c b).length) : (feedR (Rd.at0 c []) ((recL c b).take J)).1.dead = false ∧ (feedR (Rd.at0 c []) ((recL c b).take J)).1.co.n + (feedR (Rd.at0 c []) ((recL c b).take J)).1.wait.length ≤ c.n + 8300 ∧ (feedR (Rd.at0 c []) ((recL c b).take J)).1.co.cnt + (feedR (Rd.at0 c []) ((recL c b).take J)).1.wait.length ≤ c.cnt + 8300 ∧ (feedR (Rd.at0 c []) ((recL c b).take J)).1.wait.length ≤ 8300 := by
  have h0 := feed_piece c hb J hJ
  have h1 := feed_inv (r := Rd.at0 c []) (b := (recL c b).take J) (by rw [h0])
  have hl := recL_length c hb
  have hs := sizeN_top b.length
  have e : ((recL c b).take J).length ≤ 8300 := by rw [List.length_take]; omega
  exact ⟨h1.1, Nat.le_trans h1.2.1 (by show c.n + (0 + _) ≤ _; omega), Nat.le_trans h1.2.2.1 (by show c.cnt + (0 + _) ≤ _; omega), Nat.le_trans h1.2.2.2 (by show 0 + _ ≤ _; omega)⟩
theorem piece_none (c : Co) (R : List Nat) : (feedR (Rd.at0 c []) (R.take 0)).1 = Rd.at0 c [] := by rw [List.take_zero, feed_none]
theorem piece_all (c : Co) {b : List Nat} (hb : b.length ≤ 4096) : (feedR (Rd.at0 c []) ((recL c b).take (recL c b).length)).1 = Rd.at0 c.put [] := by rw [List.take_length, feed_one c hb]
theorem RecBytes0 {A0 A1 A2 : Option Addr} {c0 c1 c2 m la lb : Nat} {ks xa xb : List Nat} (w : World) (h0 : Bs w A0 c0 ks) (h1 : Bs w A1 c1 xa) (h2 : Bs w A2 c2 xb) (hm : ks.length = m) (hla : xa.length = la) (hlb : xb.length = lb) (hq : 200 < la) :
    Calls Try.prog 9 #[.slice A0 (m) (c0), .slice A1 (la) (c1), .slice A2 (lb) (c2)] w fun e w' => e = .returned (.bool true) ∧ Below w.heap.size w w' := by
  refine x_enter 126 Try.func9 rfl rfl (fun a hs hd ha0 => ?_)
  have t0 : a.eval (.tmp 0) = .slice A0 (m) (c0) := ha0 0 _ rfl
  have t1 : a.eval (.tmp 1) = .slice A1 (la) (c1) := ha0 1 _ rfl
  have t2 : a.eval (.tmp 2) = .slice A2 (lb) (c2) := ha0 2 _ rfl
  clear ha0
  refine w2_seq (fun K_1 hK_1 => ?_)
  refine x_region (by kernel_rfl) ?_
  refine op_val (d := 6) (v := .bool (false)) rfl rfl (o_assign rfl rfl) ?_
  refine x_nil ?_
  refine hK_1 _ _ ?_
  refine w2_seq (fun K_2 hK_2 => ?_)
  refine w2_seq (fun K_3 hK_3 => ?_)
  refine x_region (by kernel_rfl) ?_
  refine op_val (d := 21) (v := .slice A1 (la) (c1)) rfl rfl (o_move rfl ((pm rfl).trans t1)) ?_
  refine op_val (d := 22) (v := .int .i64 ((la : Nat) : Int)) rfl rfl (o_len rfl (pe hs rfl rfl)) ?_
  refine op_val (d := 23) (v := .bool (true)) rfl rfl (o_eq (o_gtr (m := la) (n := 200) rfl (pe hs rfl rfl) rfl) (by rw [decide_eq_true hq])) ?_
  refine op_val (d := 24) (v := .bool (true)) rfl rfl (o_move rfl (pe hs rfl rfl)) ?_
  refine op_left (e := 24) rfl rfl (by kernel_rfl) (pe hs rfl rfl) rfl ?_
  refine op_left (e := 24) rfl rfl (by kernel_rfl) (pe hs rfl rfl) rfl ?_
  refine op_left (e := 24) rfl rfl (by kernel_rfl) (pe hs rfl rfl) rfl ?_
  refine op_val (d := 28) (v := .bool (true)) rfl rfl (o_pickT rfl (pe hs rfl rfl) rfl) ?_
  refine x_nil ?_
  refine hK_3 _ _ ?_
  refine w2_condT (pe hs rfl rfl) ?_
  refine w2_seq (fun K_4 hK_4 => ?_)
  refine x_region (by kernel_rfl) ?_
  refine op_call (vs := #[]) rfl rfl (exec_call Try.func34 (by kernel_rfl) (by kernel_rfl) _ rfl _ _ (args0)) (awake12_any _) (fun e_1 w_1 hR_1 => ?_)
  obtain ⟨rfl, hb_2⟩ := hR_1
  refine ⟨_, rfl, ?_⟩
  refine op_val (d := 6) (v := .bool (true)) rfl rfl (o_assign rfl (pe hs rfl rfl)) ?_
  refine x_nil ?_
  refine hK_4 _ _ ?_
  refine w2_ret ?_
  refine thn_ret ?_
  refine ret1 rfl hd (pe hs rfl rfl) ?_
  exact ⟨rfl, hb_2⟩
theorem RecBytes1 {A0 A1 A2 : Option Addr} {c0 c1 c2 m la lb : Nat} {ks xa xb : List Nat} (w : World) (h0 : Bs w A0 c0 ks) (h1 : Bs w A1 c1 xa) (h2 : Bs w A2 c2 xb) (hm : ks.length = m) (hla : xa.length = la) (hlb : xb.length = lb) (hp : la ≤ 200) (hq : 200 < lb) :
    Calls Try.prog 9 #[.slice A0 (m) (c0), .slice A1 (la) (c1), .slice A2 (lb) (c2)] w fun e w' => e = .returned (.bool true) ∧ Below w.heap.size w w' := by
  refine x_enter 126 Try.func9 rfl rfl (fun a hs hd ha0 => ?_)
  have t0 : a.eval (.tmp 0) = .slice A0 (m) (c0) := ha0 0 _ rfl
  have t1 : a.eval (.tmp 1) = .slice A1 (la) (c1) := ha0 1 _ rfl
  have t2 : a.eval (.tmp 2) = .slice A2 (lb) (c2) := ha0 2 _ rfl
  clear ha0
  refine w2_seq (fun K_1 hK_1 => ?_)
  refine x_region (by kernel_rfl) ?_
  refine op_val (d := 6) (v := .bool (false)) rfl rfl (o_assign rfl rfl) ?_
  refine x_nil ?_
  refine hK_1 _ _ ?_
  refine w2_seq (fun K_2 hK_2 => ?_)
  refine w2_seq (fun K_3 hK_3 => ?_)
  refine x_region (by kernel_rfl) ?_
  refine op_val (d := 21) (v := .slice A1 (la) (c1)) rfl rfl (o_move rfl ((pm rfl).trans t1)) ?_
  refine op_val (d := 22) (v := .int .i64 ((la : Nat) : Int)) rfl rfl (o_len rfl (pe hs rfl rfl)) ?_
  refine op_val (d := 23) (v := .bool (false)) rfl rfl (o_eq (o_gtr (m := la) (n := 200) rfl (pe hs rfl rfl) rfl) (by rw [decide_eq_false (by omega)])) ?_
  refine op_val (d := 24) (v := .bool (false)) rfl rfl (o_move rfl (pe hs rfl rfl)) ?_
  refine op_valG (e := 24) (d := 25) (v := .slice A2 (lb) (c2)) rfl rfl (by kernel_rfl) (pe hs rfl rfl) (o_move rfl ((pm rfl).trans t2)) ?_
  refine op_valG (e := 24) (d := 26) (v := .int .i64 ((lb : Nat) : Int)) rfl rfl (by kernel_rfl) (pe hs rfl rfl) (o_len rfl (pe hs rfl rfl)) ?_
  refine op_valG (e := 24) (d := 27) (v := .bool (true)) rfl rfl (by kernel_rfl) (pe hs rfl rfl) (o_eq (o_gtr (m := lb) (n := 200) rfl (pe hs rfl rfl) rfl) (by rw [decide_eq_true hq])) ?_
  refine op_val (d := 28) (v := .bool (true)) rfl rfl (o_pickF rfl (pe hs rfl rfl) (pe hs rfl rfl)) ?_
  refine x_nil ?_
  refine hK_3 _ _ ?_
  refine w2_condT (pe hs rfl rfl) ?_
  refine w2_seq (fun K_4 hK_4 => ?_)
  refine x_region (by kernel_rfl) ?_
  refine op_call (vs := #[]) rfl rfl (exec_call Try.func34 (by kernel_rfl) (by kernel_rfl) _ rfl _ _ (args0)) (awake12_any _) (fun e_1 w_1 hR_1 => ?_)
  obtain ⟨rfl, hb_2⟩ := hR_1
  refine ⟨_, rfl, ?_⟩
  refine op_val (d := 6) (v := .bool (true)) rfl rfl (o_assign rfl (pe hs rfl rfl)) ?_
  refine x_nil ?_
  refine hK_4 _ _ ?_
  refine w2_ret ?_
  refine thn_ret ?_
  refine ret1 rfl hd (pe hs rfl rfl) ?_
  exact ⟨rfl, hb_2⟩
set_option maxHeartbeats 1000000 in
theorem RecBytesM {A0 A1 A2 : Option Addr} {c0 c1 c2 m la lb : Nat} {ks xa xb : List Nat} (w : World) (h0 : Bs w A0 c0 ks) (h1 : Bs w A1 c1 xa) (h2 : Bs w A2 c2 xb) (hm : ks.length = m) (hla : xa.length = la) (hlb : xb.length = lb) (hp : la ≤ 200) (hp2 : lb ≤ 200) :
    Calls Try.prog 9 #[.slice A0 (m) (c0), .slice A1 (la) (c1), .slice A2 (lb) (c2)] w fun e w' => e = .returned (.bool true) ∧ Below w.heap.size w w' := by
  have hp1 := sizeN_pos (n := la) (by omega)
  have hp2b := sizeN_pos (n := lb) (by omega)
  have hs1 := sizeN_top la
  have hs2 := sizeN_top lb
  obtain ⟨co, hco⟩ : ∃ q : Co, q = ⟨padTo 32 ks, 0, everyN ((1 : Nat) : Int), 0⟩ := ⟨_, rfl⟩
  have hn0 : co.n = 0 := by rw [hco]
  have hc0 : co.cnt = 0 := by rw [hco]
  refine x_enter 126 Try.func9 rfl rfl (fun a hs hd ha0 => ?_)
  have t0 : a.eval (.tmp 0) = .slice A0 (m) (c0) := ha0 0 _ rfl
  have t1 : a.eval (.tmp 1) = .slice A1 (la) (c1) := ha0 1 _ rfl
  have t2 : a.eval (.tmp 2) = .slice A2 (lb) (c2) := ha0 2 _ rfl
  clear ha0
  refine w2_seq (fun K_1 hK_1 => ?_)
  refine x_region (by kernel_rfl) ?_
  refine op_val (d := 6) (v := .bool (false)) rfl rfl (o_assign rfl rfl) ?_
  refine x_nil ?_
  refine hK_1 _ _ ?_
  refine w2_seq (fun K_2 hK_2 => ?_)
  refine w2_seq (fun K_3 hK_3 => ?_)
  refine x_region (by kernel_rfl) ?_
  refine op_val (d := 21) (v := .slice A1 (la) (c1)) rfl rfl (o_move rfl ((pm rfl).trans t1)) ?_
  refine op_val (d := 22) (v := .int .i64 ((la : Nat) : Int)) rfl rfl (o_len rfl (pe hs rfl rfl)) ?_
  refine op_val (d := 23) (v := .bool (false)) rfl rfl (o_eq (o_gtr (m := la) (n := 200) rfl (pe hs rfl rfl) rfl) (by rw [decide_eq_false (by omega)])) ?_
  refine op_val (d := 24) (v := .bool (false)) rfl rfl (o_move rfl (pe hs rfl rfl)) ?_
  refine op_valG (e := 24) (d := 25) (v := .slice A2 (lb) (c2)) rfl rfl (by kernel_rfl) (pe hs rfl rfl) (o_move rfl ((pm rfl).trans t2)) ?_
  refine op_valG (e := 24) (d := 26) (v := .int .i64 ((lb : Nat) : Int)) rfl rfl (by kernel_rfl) (pe hs rfl rfl) (o_len rfl (pe hs rfl rfl)) ?_
  refine op_valG (e := 24) (d := 27) (v := .bool (false)) rfl rfl (by kernel_rfl) (pe hs rfl rfl) (o_eq (o_gtr (m := lb) (n := 200) rfl (pe hs rfl rfl) rfl) (by rw [decide_eq_false (by omega)])) ?_
  refine op_val (d := 28) (v := .bool (false)) rfl rfl (o_pickF rfl (pe hs rfl rfl) (pe hs rfl rfl)) ?_
  refine x_nil ?_
  refine hK_3 _ _ ?_
  refine w2_condF (pe hs rfl rfl) ?_
  refine w2_skip ?_
  refine hK_2 _ _ ?_
  refine w2_seq (fun K_4 hK_4 => ?_)
  refine x_region (by kernel_rfl) ?_
  refine op_val (d := 30) (v := .slice A0 (m) (c0)) rfl rfl (o_move rfl ((pm rfl).trans t0)) ?_
  refine op_call (vs := #[.slice A0 (m) (c0)]) rfl rfl (exec_call Try.func35 (by kernel_rfl) (by kernel_rfl) _ rfl _ _ (args1 (pe hs rfl rfl))) (Key_any _ h0 hm) (fun e_1 w_1 hR_1 => ?_)
  obtain ⟨A_1, c_1, rfl, ho_1, hb_1⟩ := hR_1
  refine ⟨_, rfl, ?_⟩
  refine op_val (d := 7) (v := .slice A_1 (32) (c_1)) rfl rfl (o_assign rfl (pe hs rfl rfl)) ?_
  refine x_nil ?_
  refine hK_4 _ _ ?_
  refine w2_seq (fun K_5 hK_5 => ?_)
  refine x_region (by kernel_rfl) ?_
  refine op_val (d := 33) (v := .slice A_1 (32) (c_1)) rfl rfl (o_move rfl (pe hs rfl rfl)) ?_
  refine op_call (vs := #[.slice A_1 (32) (c_1)]) rfl rfl (exec_call Try.func36 (by kernel_rfl) (by kernel_rfl) _ rfl _ _ (args1 (pe hs rfl rfl))) (NewCipher_any _ (ho_1).bs (by simp only [padTo_length]) rfl) (fun e_2 w_2 hR_2 => ?_)
  obtain ⟨M_1, g_1, rfl, hC_1, hge_1, hb_2⟩ := hR_2
  have sp_1 : Sep (blkA A_1) M_1 := Sep.new ho_1.lt hge_1
  have gg_1 := hge_1.down hb_1.size
  replace ho_1 := ho_1.nx hb_2
  have HB_1 := below_from hb_1 hb_2
  refine ⟨_, rfl, ?_⟩
  refine op_val (d := 32) (v := .tuple #[.pointer (some ⟨g_1, 0, none⟩), .int .i64 ((0 : Nat) : Int)]) rfl rfl (o_move rfl (pe hs rfl rfl)) ?_
  refine op_val (d := 35) (v := .pointer (some ⟨g_1, 0, none⟩)) rfl rfl (o_extract rfl (pe hs rfl rfl) rfl) ?_
  refine op_val (d := 36) (v := .int .i64 ((0 : Nat) : Int)) rfl rfl (o_extract rfl (pe hs rfl rfl) rfl) ?_
  refine op_val (d := 8) (v := .pointer (some ⟨g_1, 0, none⟩)) rfl rfl (o_assign rfl (pe hs rfl rfl)) ?_
  refine op_val (d := 9) (v := .int .i64 ((0 : Nat) : Int)) rfl rfl (o_assign rfl (pe hs rfl rfl)) ?_
  refine x_nil ?_
  refine hK_5 _ _ ?_
  refine w2_seq (fun K_6 hK_6 => ?_)
  refine x_region (by kernel_rfl) ?_
  refine op_val (d := 38) (v := .slice A_1 (32) (c_1)) rfl rfl (o_move rfl (pe hs rfl rfl)) ?_
  refine op_call (vs := #[.slice A_1 (32) (c_1)]) rfl rfl (exec_call Try.func36 (by kernel_rfl) (by kernel_rfl) _ rfl _ _ (args1 (pe hs rfl rfl))) (NewCipher_any _ (ho_1).bs (by simp only [padTo_length]) rfl) (fun e_3 w_3 hR_3 => ?_)
  obtain ⟨M_2, g_2, rfl, hC_2, hge_2, hb_3⟩ := hR_3
  have sp_2 : Sep (blkA A_1) M_2 := Sep.new ho_1.lt hge_2
  have sp_3 : Sep M_1 M_2 := Sep.new hC_1.lt hge_2
  have gg_2 := hge_2.down HB_1.size
  replace ho_1 := ho_1.nx hb_3
  replace hC_1 := hC_1.nx hb_3
  have HB_2 := below_from HB_1 hb_3
  refine ⟨_, rfl, ?_⟩
  refine op_val (d := 37) (v := .tuple #[.pointer (some ⟨g_2, 0, none⟩), .int .i64 ((0 : Nat) : Int)]) rfl rfl (o_move rfl (pe hs rfl rfl)) ?_
  refine op_val (d := 40) (v := .pointer (some ⟨g_2, 0, none⟩)) rfl rfl (o_extract rfl (pe hs rfl rfl) rfl) ?_
  refine op_val (d := 41) (v := .int .i64 ((0 : Nat) : Int)) rfl rfl (o_extract rfl (pe hs rfl rfl) rfl) ?_
  refine op_val (d := 10) (v := .pointer (some ⟨g_2, 0, none⟩)) rfl rfl (o_assign rfl (pe hs rfl rfl)) ?_
  refine op_val (d := 11) (v := .int .i64 ((0 : Nat) : Int)) rfl rfl (o_assign rfl (pe hs rfl rfl)) ?_
  refine x_nil ?_
  refine hK_6 _ _ ?_
  refine w2_seq (fun K_7 hK_7 => ?_)
  refine w2_seq (fun K_8 hK_8 => ?_)
  refine x_region (by kernel_rfl) ?_
  refine op_val (d := 42) (v := .int .i64 ((0 : Nat) : Int)) rfl rfl (o_move rfl (pe hs rfl rfl)) ?_
  refine op_val (d := 43) (v := .bool (false)) rfl rfl (o_eq (o_neq (m := 0) (n := 0) rfl (pe hs rfl rfl) rfl) rfl) ?_
  refine op_val (d := 44) (v := .bool (false)) rfl rfl (o_move rfl (pe hs rfl rfl)) ?_
  refine op_valG (e := 44) (d := 45) (v := .int .i64 ((0 : Nat) : Int)) rfl rfl (by kernel_rfl) (pe hs rfl rfl) (o_move rfl (pe hs rfl rfl)) ?_
  refine op_valG (e := 44) (d := 46) (v := .bool (false)) rfl rfl (by kernel_rfl) (pe hs rfl rfl) (o_eq (o_neq (m := 0) (n := 0) rfl (pe hs rfl rfl) rfl) rfl) ?_
  refine op_val (d := 47) (v := .bool (false)) rfl rfl (o_pickF rfl (pe hs rfl rfl) (pe hs rfl rfl)) ?_
  refine x_nil ?_
  refine hK_8 _ _ ?_
  refine w2_condF (pe hs rfl rfl) ?_
  refine w2_skip ?_
  refine hK_7 _ _ ?_
  refine w2_seq (fun K_9 hK_9 => ?_)
  refine x_region (by kernel_rfl) ?_
  refine op_val (d := 48) (v := .pointer (some ⟨g_1, 0, none⟩)) rfl rfl (o_move rfl (pe hs rfl rfl)) ?_
  refine op_call (vs := #[.pointer (some ⟨g_1, 0, none⟩), .int .i64 ((1 : Nat) : Int)]) rfl rfl (exec_call Try.func37 (by kernel_rfl) (by kernel_rfl) _ rfl _ _ (args2 (pe hs rfl rfl) rfl)) (NewWriter_any (((1 : Nat) : Int) : Int) _ hC_1) (fun e_4 w_4 hR_4 => ?_)
  obtain ⟨M_3, g_3, rfl, hW_1, hN_1, hb_4⟩ := hR_4
  rw [← hco] at hW_1
  have sp_4 : Sep (blkA A_1) M_3 := hN_1.sep (sp_1) ho_1.lt
  have sp_5 : Sep M_2 M_3 := hN_1.sep (sp_3.symm) hC_2.lt
  have gg_3 := hN_1.ge gg_1 HB_2.size
  replace ho_1 := ho_1.nx hb_4
  replace hC_2 := hC_2.nx hb_4
  have HB_3 := below_from HB_2 hb_4
  refine ⟨_, rfl, ?_⟩
  refine op_val (d := 50) (v := .pointer (some ⟨g_2, 0, none⟩)) rfl rfl (o_move rfl (pe hs rfl rfl)) ?_
  refine op_call (vs := #[.pointer (some ⟨g_2, 0, none⟩), .int .i64 ((1 : Nat) : Int)]) rfl rfl (exec_call Try.func40 (by kernel_rfl) (by kernel_rfl) _ rfl _ _ (args2 (pe hs rfl rfl) rfl)) (NewReader_any (((1 : Nat) : Int) : Int) _ hC_2) (fun e_5 w_5 hR_5 => ?_)
  obtain ⟨M_4, g_4, rfl, hW_2, hN_2, hb_5⟩ := hR_5
  rw [← hco] at hW_2
  have sp_6 : Sep (blkA A_1) M_4 := hN_2.sep (sp_2) ho_1.lt
  have sp_7 : Sep M_3 M_4 := hN_2.sep (sp_5.symm) hW_1.lt
  have gg_4 := hN_2.ge gg_2 HB_3.size
  replace ho_1 := ho_1.nx hb_5
  replace hW_1 := hW_1.nx hb_5
  have HB_4 := below_from HB_3 hb_5
  refine ⟨_, rfl, ?_⟩
  refine op_val (d := 12) (v := .pointer (some ⟨g_3, 0, none⟩)) rfl rfl (o_assign rfl (pe hs rfl rfl)) ?_
  refine op_val (d := 13) (v := .pointer (some ⟨g_4, 0, none⟩)) rfl rfl (o_assign rfl (pe hs rfl rfl)) ?_
  refine x_nil ?_
  refine hK_9 _ _ ?_
  refine w2_seq (fun K_10 hK_10 => ?_)
  refine w2_seq (fun K_11 hK_11 => ?_)
  refine x_region (by kernel_rfl) ?_
  refine op_val (d := 52) (v := .slice A1 (la) (c1)) rfl rfl (o_move rfl ((pm rfl).trans t1)) ?_
  refine op_val (d := 53) (v := .slice A2 (lb) (c2)) rfl rfl (o_move rfl ((pm rfl).trans t2)) ?_
  refine op_val (d := 54) (v := .agg #[.slice A1 (la) (c1), .slice A2 (lb) (c2)]) rfl rfl (o_bld (vs := #[(0, .slice A1 (la) (c1)), (1, .slice A2 (lb) (c2))]) (v := .agg #[.slice A1 (la) (c1), .slice A2 (lb) (c2)]) rfl (bld2 (pe hs rfl rfl) (pe hs rfl rfl)) (fun _ => by kernel_rfl)) ?_
  refine op_val (d := 55) (v := .int .i64 ((0 : Nat) : Int)) rfl rfl (o_move rfl rfl) ?_
  refine x_nil ?_
  refine hK_11 _ _ ?_
  refine w2_block (fun K_12 hK_12 => ?_)
  refine x_loop (fun nn aa ww => ∃ (K : Nat) (Mw Mr : Nat → Prop), nn = 2 - K ∧ aa.tmps.size = 126 ∧ aa.defers = [] ∧ aa.eval (.tmp 0) = .slice A0 (m) (c0) ∧ aa.eval (.tmp 1) = .slice A1 (la) (c1) ∧ aa.eval (.tmp 2) = .slice A2 (lb) (c2) ∧ aa.eval (.tmp 7) = .slice A_1 (32) (c_1) ∧ aa.eval (.tmp 8) = .pointer (some ⟨g_1, 0, none⟩) ∧ aa.eval (.tmp 9) = .int .i64 ((0 : Nat) : Int) ∧ aa.eval (.tmp 10) = .pointer (some ⟨g_2, 0, none⟩) ∧ aa.eval (.tmp 11) = .int .i64 ((0 : Nat) : Int) ∧ aa.eval (.tmp 12) = .pointer (some ⟨g_3, 0, none⟩) ∧ aa.eval (.tmp 13) = .pointer (some ⟨g_4, 0, none⟩) ∧ aa.eval (.tmp 21) = .slice A1 (la) (c1) ∧ aa.eval (.tmp 22) = .int .i64 ((la : Nat) : Int) ∧ aa.eval (.tmp 23) = .bool (false) ∧ aa.eval (.tmp 24) = .bool (false) ∧ aa.eval (.tmp 25) = .slice A2 (lb) (c2) ∧ aa.eval (.tmp 26) = .int .i64 ((lb : Nat) : Int) ∧ aa.eval (.tmp 27) = .bool (false) ∧ aa.eval (.tmp 28) = .bool (false) ∧ aa.eval (.tmp 30) = .slice A0 (m) (c0) ∧ aa.eval (.tmp 31) = .slice A_1 (32) (c_1) ∧ aa.eval (.tmp 32) = .tuple #[.pointer (some ⟨g_1, 0, none⟩), .int .i64 ((0 : Nat) : Int)] ∧ aa.eval (.tmp 33) = .slice A_1 (32) (c_1) ∧ aa.eval (.tmp 34) = .tuple #[.pointer (some ⟨g_1, 0, none⟩), .int .i64 ((0 : Nat) : Int)] ∧ aa.eval (.tmp 35) = .pointer (some ⟨g_1, 0, none⟩) ∧ aa.eval (.tmp 36) = .int .i64 ((0 : Nat) : Int) ∧ aa.eval (.tmp 37) = .tuple #[.pointer (some ⟨g_2, 0, none⟩), .int .i64 ((0 : Nat) : Int)] ∧ aa.eval (.tmp 38) = .slice A_1 (32) (c_1) ∧ aa.eval (.tmp 39) = .tuple #[.pointer (some ⟨g_2, 0, none⟩), .int .i64 ((0 : Nat) : Int)] ∧ aa.eval (.tmp 40) = .pointer (some ⟨g_2, 0, none⟩) ∧ aa.eval (.tmp 41) = .int .i64 ((0 : Nat) : Int) ∧ aa.eval (.tmp 42) = .int .i64 ((0 : Nat) : Int) ∧ aa.eval (.tmp 43) = .bool (false) ∧ aa.eval (.tmp 44) = .bool (false) ∧ aa.eval (.tmp 45) = .int .i64 ((0 : Nat) : Int) ∧ aa.eval (.tmp 46) = .bool (false) ∧ aa.eval (.tmp 47) = .bool (false) ∧ aa.eval (.tmp 48) = .pointer (some ⟨g_1, 0, none⟩) ∧ aa.eval (.tmp 49) = .pointer (some ⟨g_3, 0, none⟩) ∧ aa.eval (.tmp 50) = .pointer (some ⟨g_2, 0, none⟩) ∧ aa.eval (.tmp 51) = .pointer (some ⟨g_4, 0, none⟩) ∧ aa.eval (.tmp 52) = .slice A1 (la) (c1) ∧ aa.eval (.tmp 53) = .slice A2 (lb) (c2) ∧ aa.eval (.tmp 54) = .agg #[.slice A1 (la) (c1), .slice A2 (lb) (c2)] ∧ aa.eval (.tmp 55) = .int .i64 ((K : Nat) : Int) ∧ K ≤ 2 ∧ WriterAt ww Mw g_3 g_1 (putsL co ([xa, xb].take K)) ∧ ReaderAt ww Mr g_4 g_2 (Rd.at0 (putsL co ([xa, xb].take K)) []) ∧ Sep Mw Mr ∧ Ge w Mw ∧ Ge w Mr ∧ Below w.heap.size w ww) (2 - 0) ?_ ?_
  · exact ⟨0, M_3, M_4, rfl, (by rw [putsR_size]; exact hs), (by rw [putsR_defers]; exact hd), ((pm rfl).trans t0), ((pm rfl).trans t1), ((pm rfl).trans t2), (pe hs rfl rfl), (pe hs rfl rfl), (pe hs rfl rfl), (pe hs rfl rfl), (pe hs rfl rfl), (pe hs rfl rfl), (pe hs rfl rfl), (pe hs rfl rfl), (pe hs rfl rfl), (pe hs rfl rfl), (pe hs rfl rfl), (pe hs rfl rfl), (pe hs rfl rfl), (pe hs rfl rfl), (pe hs rfl rfl), (pe hs rfl rfl), (pe hs rfl rfl), (pe hs rfl rfl), (pe hs rfl rfl), (pe hs rfl rfl), (pe hs rfl rfl), (pe hs rfl rfl), (pe hs rfl rfl), (pe hs rfl rfl), (pe hs rfl rfl), (pe hs rfl rfl), (pe hs rfl rfl), (pe hs rfl rfl), (pe hs rfl rfl), (pe hs rfl rfl), (pe hs rfl rfl), (pe hs rfl rfl), (pe hs rfl rfl), (pe hs rfl rfl), (pe hs rfl rfl), (pe hs rfl rfl), (pe hs rfl rfl), (pe hs rfl rfl), (pe hs rfl rfl), (pe hs rfl rfl), (pe hs rfl rfl), Nat.zero_le _, hW_1, hW_2, sp_7, gg_3, gg_4, HB_4⟩
  · skip
    clear t0 t1 t2 hd ho_1 hW_1 hW_2 HB_4
    rintro nna_1 a_1 w_6 ⟨K, Mw, Mr, hm_1, hs_1, hd_1, ta_1_0, ta_1_1, ta_1_2, ta_1_7, ta_1_8, ta_1_9, ta_1_10, ta_1_11, ta_1_12, ta_1_13, ta_1_21, ta_1_22, ta_1_23, ta_1_24, ta_1_25, ta_1_26, ta_1_27, ta_1_28, ta_1_30, ta_1_31, ta_1_32, ta_1_33, ta_1_34, ta_1_35, ta_1_36, ta_1_37, ta_1_38, ta_1_39, ta_1_40, ta_1_41, ta_1_42, ta_1_43, ta_1_44, ta_1_45, ta_1_46, ta_1_47, ta_1_48, ta_1_49, ta_1_50, ta_1_51, ta_1_52, ta_1_53, ta_1_54, ta_1_55, hK, hLw, hLr, sLwr, gLw, gLr, HBL⟩ K_13 hK_13
    subst hm_1
    have hPn : (putsL co ([xa, xb].take K)).n ≤ 4 := by rw [putsL_n, List.length_take]; show _ + 2 * min K 2 ≤ _; omega
    have hPc : (putsL co ([xa, xb].take K)).cnt ≤ 4 := by rw [putsL_cnt, List.length_take]; show _ + min K 2 ≤ _; omega
    refine w2_seq (fun K_14 hK_14 => ?_)
    refine x_region (by kernel_rfl) ?_
    refine op_val (d := 56) (v := .bool (decide (K < 2))) rfl rfl (o_lss (m := K) (n := 2) rfl ((pm rfl).trans ta_1_55) rfl) ?_
    refine x_nil ?_
    refine hK_14 _ _ ?_
    refine w2_seq (fun K_15 hK_15 => ?_)
    refine w2_split (pe hs_1 rfl rfl) (fun h_1 => ?_) (fun h_1 => ?_)
    · simp only [decide_eq_true_eq, decide_eq_false_iff_not, Bool.not_eq_true', Bool.not_eq_false', Bool.not_true, Bool.not_false, Nat.not_lt, Nat.not_le] at h_1
      have hlt : K < 2 := h_1
      refine w2_skip ?_
      refine hK_15 _ _ ?_
      refine w2_seq (fun K_16 hK_16 => ?_)
      refine w2_block (fun K_17 hK_17 => ?_)
      refine w2_seq (fun K_18 hK_18 => ?_)
      rcases (show K = 0 ∨ K = 1 by omega) with rfl | rfl
      · skip
        obtain ⟨P0, hP0⟩ : ∃ q, q = putsL co ([xa, xb].take 0) := ⟨_, rfl⟩
        rw [← hP0] at hLw hLr hPn hPc
        refine x_region (by kernel_rfl) ?_
        refine op_val (d := 57) (v := .slice A1 (la) (c1)) rfl rfl (o_idxL (n := 2) (i := 0) (e := 22) rfl ((pm rfl).trans ta_1_54) ((pm rfl).trans ta_1_55) (by decide) rfl (fun _ => by kernel_rfl) ⟨by kernel_rfl, by kernel_rfl⟩) ?_
        refine op_val (d := 15) (v := .slice A1 (la) (c1)) rfl rfl (o_assign rfl (pe hs_1 rfl rfl)) ?_
        refine x_nil ?_
        refine hK_18 _ _ ?_
        refine w2_seq (fun K_19 hK_19 => ?_)
        refine x_region (by kernel_rfl) ?_
        refine op_val (d := 59) (v := .pointer (some ⟨g_3, 0, none⟩)) rfl rfl (o_move rfl ((pm rfl).trans ta_1_12)) ?_
        refine op_val (d := 60) (v := .slice A1 (la) (c1)) rfl rfl (o_move rfl (pe hs_1 rfl rfl)) ?_
        refine op_call (vs := #[.pointer (some ⟨g_3, 0, none⟩), .slice A1 (la) (c1)]) rfl rfl (exec_call Try.func38 (by kernel_rfl) (by kernel_rfl) _ rfl _ _ (args2 (pe hs_1 rfl rfl) (pe hs_1 rfl rfl))) (Put_any _ hLw (h1.below HBL) hla (by omega) (by omega) (by omega)) (fun e_6 w_7 hR_6 => ?_)
        obtain ⟨A_2, c_2, rfl, ho_2, ⟨M_5, hW_3, hN_3, hs_2⟩, hX_1⟩ := hR_6
        have hl_1 : (recL P0 xa).length = sizeN la + 34 := by rw [recL_length _ (by have h9 : (xa).length = la := hla; omega)]; rw [show (xa).length = la from hla]
        have sp_8 : Sep Mr M_5 := hN_3.sep (sLwr.symm) hLr.lt
        have sp_9 : Sep (blkA A_2) Mr := (Sep.new hLr.lt ho_2.ge').symm
        replace hLr := hLr.keepM hX_1 (sLwr.symm)
        have gg_5 := hN_3.ge gLw HBL.size
        replace ho_2 := ho_2.mono HBL.size
        have HB_5 := hX_1.below HBL HBL.size gLw
        refine ⟨_, rfl, ?_⟩
        refine op_val (d := 58) (v := .tuple #[.slice A_2 (sizeN la + 34) (c_2), .int .i64 ((0 : Nat) : Int)]) rfl rfl (o_move rfl (pe hs_1 rfl rfl)) ?_
        refine op_val (d := 62) (v := .slice A_2 (sizeN la + 34) (c_2)) rfl rfl (o_extract rfl (pe hs_1 rfl rfl) rfl) ?_
        refine op_val (d := 63) (v := .int .i64 ((0 : Nat) : Int)) rfl rfl (o_extract rfl (pe hs_1 rfl rfl) rfl) ?_
        refine op_val (d := 16) (v := .slice A_2 (sizeN la + 34) (c_2)) rfl rfl (o_assign rfl (pe hs_1 rfl rfl)) ?_
        refine op_val (d := 17) (v := .int .i64 ((0 : Nat) : Int)) rfl rfl (o_assign rfl (pe hs_1 rfl rfl)) ?_
        refine x_nil ?_
        refine hK_19 _ _ ?_
        refine w2_seq (fun K_20 hK_20 => ?_)
        refine w2_seq (fun K_21 hK_21 => ?_)
        refine x_region (by kernel_rfl) ?_
        refine op_val (d := 64) (v := .int .i64 ((0 : Nat) : Int)) rfl rfl (o_move rfl (pe hs_1 rfl rfl)) ?_
        refine op_val (d := 65) (v := .bool (false)) rfl rfl (o_eq (o_neq (m := 0) (n := 0) rfl (pe hs_1 rfl rfl) rfl) rfl) ?_
        refine op_val (d := 66) (v := .bool (false)) rfl rfl (o_move rfl (pe hs_1 rfl rfl)) ?_
        refine op_valG (e := 66) (d := 67) (v := .slice A_2 (sizeN la + 34) (c_2)) rfl rfl (by kernel_rfl) (pe hs_1 rfl rfl) (o_move rfl (pe hs_1 rfl rfl)) ?_
        refine op_valG (e := 66) (d := 68) (v := .int .i64 ((sizeN la + 34 : Nat) : Int)) rfl rfl (by kernel_rfl) (pe hs_1 rfl rfl) (o_len rfl (pe hs_1 rfl rfl)) ?_
        refine op_valG (e := 66) (d := 69) (v := .bool (false)) rfl rfl (by kernel_rfl) (pe hs_1 rfl rfl) (o_eq (o_lss (m := (sizeN la + 34)) (n := 98) rfl (pe hs_1 rfl rfl) rfl) (by rw [decide_eq_false (by omega)])) ?_
        refine op_val (d := 70) (v := .bool (false)) rfl rfl (o_pickF rfl (pe hs_1 rfl rfl) (pe hs_1 rfl rfl)) ?_
        refine x_nil ?_
        refine hK_21 _ _ ?_
        refine w2_condF (pe hs_1 rfl rfl) ?_
        refine w2_skip ?_
        refine hK_20 _ _ ?_
        refine w2_seq (fun K_22 hK_22 => ?_)
        refine x_region (by kernel_rfl) ?_
        refine op_val (d := 71) (v := .slice A_2 (sizeN la + 34) (c_2)) rfl rfl (o_move rfl (pe hs_1 rfl rfl)) ?_
        refine op_val (d := 72) (v := .int .i64 ((sizeN la + 34 : Nat) : Int)) rfl rfl (o_len rfl (pe hs_1 rfl rfl)) ?_
        refine op_val (d := 73) (v := .int .i64 ((0 : Nat) : Int)) rfl rfl (o_move rfl rfl) ?_
        refine x_nil ?_
        refine hK_22 _ _ ?_
        refine w2_block (fun K_23 hK_23 => ?_)
        refine x_loop (fun nn aa ww => ∃ (J : Nat) (Mq : Nat → Prop), nn = sizeN la + 34 - J ∧ aa.tmps.size = 126 ∧ aa.defers = [] ∧ aa.eval (.tmp 0) = .slice A0 (m) (c0) ∧ aa.eval (.tmp 1) = .slice A1 (la) (c1) ∧ aa.eval (.tmp 2) = .slice A2 (lb) (c2) ∧ aa.eval (.tmp 7) = .slice A_1 (32) (c_1) ∧ aa.eval (.tmp 8) = .pointer (some ⟨g_1, 0, none⟩) ∧ aa.eval (.tmp 9) = .int .i64 ((0 : Nat) : Int) ∧ aa.eval (.tmp 10) = .pointer (some ⟨g_2, 0, none⟩) ∧ aa.eval (.tmp 11) = .int .i64 ((0 : Nat) : Int) ∧ aa.eval (.tmp 12) = .pointer (some ⟨g_3, 0, none⟩) ∧ aa.eval (.tmp 13) = .pointer (some ⟨g_4, 0, none⟩) ∧ aa.eval (.tmp 15) = .slice A1 (la) (c1) ∧ aa.eval (.tmp 16) = .slice A_2 (sizeN la + 34) (c_2) ∧ aa.eval (.tmp 17) = .int .i64 ((0 : Nat) : Int) ∧ aa.eval (.tmp 21) = .slice A1 (la) (c1) ∧ aa.eval (.tmp 22) = .int .i64 ((la : Nat) : Int) ∧ aa.eval (.tmp 23) = .bool (false) ∧ aa.eval (.tmp 24) = .bool (false) ∧ aa.eval (.tmp 25) = .slice A2 (lb) (c2) ∧ aa.eval (.tmp 26) = .int .i64 ((lb : Nat) : Int) ∧ aa.eval (.tmp 27) = .bool (false) ∧ aa.eval (.tmp 28) = .bool (false) ∧ aa.eval (.tmp 30) = .slice A0 (m) (c0) ∧ aa.eval (.tmp 31) = .slice A_1 (32) (c_1) ∧ aa.eval (.tmp 32) = .tuple #[.pointer (some ⟨g_1, 0, none⟩), .int .i64 ((0 : Nat) : Int)] ∧ aa.eval (.tmp 33) = .slice A_1 (32) (c_1) ∧ aa.eval (.tmp 34) = .tuple #[.pointer (some ⟨g_1, 0, none⟩), .int .i64 ((0 : Nat) : Int)] ∧ aa.eval (.tmp 35) = .pointer (some ⟨g_1, 0, none⟩) ∧ aa.eval (.tmp 36) = .int .i64 ((0 : Nat) : Int) ∧ aa.eval (.tmp 37) = .tuple #[.pointer (some ⟨g_2, 0, none⟩), .int .i64 ((0 : Nat) : Int)] ∧ aa.eval (.tmp 38) = .slice A_1 (32) (c_1) ∧ aa.eval (.tmp 39) = .tuple #[.pointer (some ⟨g_2, 0, none⟩), .int .i64 ((0 : Nat) : Int)] ∧ aa.eval (.tmp 40) = .pointer (some ⟨g_2, 0, none⟩) ∧ aa.eval (.tmp 41) = .int .i64 ((0 : Nat) : Int) ∧ aa.eval (.tmp 42) = .int .i64 ((0 : Nat) : Int) ∧ aa.eval (.tmp 43) = .bool (false) ∧ aa.eval (.tmp 44) = .bool (false) ∧ aa.eval (.tmp 45) = .int .i64 ((0 : Nat) : Int) ∧ aa.eval (.tmp 46) = .bool (false) ∧ aa.eval (.tmp 47) = .bool (false) ∧ aa.eval (.tmp 48) = .pointer (some ⟨g_1, 0, none⟩) ∧ aa.eval (.tmp 49) = .pointer (some ⟨g_3, 0, none⟩) ∧ aa.eval (.tmp 50) = .pointer (some ⟨g_2, 0, none⟩) ∧ aa.eval (.tmp 51) = .pointer (some ⟨g_4, 0, none⟩) ∧ aa.eval (.tmp 52) = .slice A1 (la) (c1) ∧ aa.eval (.tmp 53) = .slice A2 (lb) (c2) ∧ aa.eval (.tmp 54) = .agg #[.slice A1 (la) (c1), .slice A2 (lb) (c2)] ∧ aa.eval (.tmp 55) = .int .i64 ((0 : Nat) : Int) ∧ aa.eval (.tmp 56) = .bool (decide (0 < 2)) ∧ aa.eval (.tmp 57) = .slice A1 (la) (c1) ∧ aa.eval (.tmp 58) = .tuple #[.slice A_2 (sizeN la + 34) (c_2), .int .i64 ((0 : Nat) : Int)] ∧ aa.eval (.tmp 59) = .pointer (some ⟨g_3, 0, none⟩) ∧ aa.eval (.tmp 60) = .slice A1 (la) (c1) ∧ aa.eval (.tmp 61) = .tuple #[.slice A_2 (sizeN la + 34) (c_2), .int .i64 ((0 : Nat) : Int)] ∧ aa.eval (.tmp 62) = .slice A_2 (sizeN la + 34) (c_2) ∧ aa.eval (.tmp 63) = .int .i64 ((0 : Nat) : Int) ∧ aa.eval (.tmp 64) = .int .i64 ((0 : Nat) : Int) ∧ aa.eval (.tmp 65) = .bool (false) ∧ aa.eval (.tmp 66) = .bool (false) ∧ aa.eval (.tmp 67) = .slice A_2 (sizeN la + 34) (c_2) ∧ aa.eval (.tmp 68) = .int .i64 ((sizeN la + 34 : Nat) : Int) ∧ aa.eval (.tmp 69) = .bool (false) ∧ aa.eval (.tmp 70) = .bool (false) ∧ aa.eval (.tmp 71) = .slice A_2 (sizeN la + 34) (c_2) ∧ aa.eval (.tmp 72) = .int .i64 ((sizeN la + 34 : Nat) : Int) ∧ aa.eval (.tmp 73) = .int .i64 ((J : Nat) : Int) ∧ J ≤ sizeN la + 34 ∧ WriterAt ww M_5 g_3 g_1 (P0.put) ∧ ReaderAt ww Mq g_4 g_2 (feedR (Rd.at0 (P0) []) ((recL P0 xa).take J)).1 ∧ Own ww w.heap.size A_2 c_2 (recL P0 xa) ∧ Sep M_5 Mq ∧ Sep (blkA A_2) Mq ∧ Ge w Mq ∧ Below w.heap.size w ww) (sizeN la + 34 - 0) ?_ ?_
        · exact ⟨0, Mr, rfl, (by rw [putsR_size]; exact hs_1), (by rw [putsR_defers]; exact hd_1), ((pm rfl).trans ta_1_0), ((pm rfl).trans ta_1_1), ((pm rfl).trans ta_1_2), ((pm rfl).trans ta_1_7), ((pm rfl).trans ta_1_8), ((pm rfl).trans ta_1_9), ((pm rfl).trans ta_1_10), ((pm rfl).trans ta_1_11), ((pm rfl).trans ta_1_12), ((pm rfl).trans ta_1_13), (pe hs_1 rfl rfl), (pe hs_1 rfl rfl), (pe hs_1 rfl rfl), ((pm rfl).trans ta_1_21), ((pm rfl).trans ta_1_22), ((pm rfl).trans ta_1_23), ((pm rfl).trans ta_1_24), ((pm rfl).trans ta_1_25), ((pm rfl).trans ta_1_26), ((pm rfl).trans ta_1_27), ((pm rfl).trans ta_1_28), ((pm rfl).trans ta_1_30), ((pm rfl).trans ta_1_31), ((pm rfl).trans ta_1_32), ((pm rfl).trans ta_1_33), ((pm rfl).trans ta_1_34), ((pm rfl).trans ta_1_35), ((pm rfl).trans ta_1_36), ((pm rfl).trans ta_1_37), ((pm rfl).trans ta_1_38), ((pm rfl).trans ta_1_39), ((pm rfl).trans ta_1_40), ((pm rfl).trans ta_1_41), ((pm rfl).trans ta_1_42), ((pm rfl).trans ta_1_43), ((pm rfl).trans ta_1_44), ((pm rfl).trans ta_1_45), ((pm rfl).trans ta_1_46), ((pm rfl).trans ta_1_47), ((pm rfl).trans ta_1_48), ((pm rfl).trans ta_1_49), ((pm rfl).trans ta_1_50), ((pm rfl).trans ta_1_51), ((pm rfl).trans ta_1_52), ((pm rfl).trans ta_1_53), ((pm rfl).trans ta_1_54), ((pm rfl).trans ta_1_55), (pe hs_1 rfl rfl), (pe hs_1 rfl rfl), (pe hs_1 rfl rfl), (pe hs_1 rfl rfl), (pe hs_1 rfl rfl), (pe hs_1 rfl rfl), (pe hs_1 rfl rfl), (pe hs_1 rfl rfl), (pe hs_1 rfl rfl), (pe hs_1 rfl rfl), (pe hs_1 rfl rfl), (pe hs_1 rfl rfl), (pe hs_1 rfl rfl), (pe hs_1 rfl rfl), (pe hs_1 rfl rfl), (pe hs_1 rfl rfl), (pe hs_1 rfl rfl), (pe hs_1 rfl rfl), Nat.zero_le _, hW_3, (by rw [piece_none]; exact hLr), ho_2, sp_8.symm, sp_9, gLr, HB_5⟩
        · skip
          clear ta_1_0 ta_1_1 ta_1_2 ta_1_21 ta_1_22 ta_1_23 ta_1_24 ta_1_25 ta_1_26 ta_1_27 ta_1_28 ta_1_30 ta_1_31 ta_1_7 ta_1_33 ta_1_34 ta_1_32 ta_1_35 ta_1_36 ta_1_8 ta_1_9 ta_1_38 ta_1_39 ta_1_37 ta_1_40 ta_1_41 ta_1_10 ta_1_11 ta_1_42 ta_1_43 ta_1_44 ta_1_45 ta_1_46 ta_1_47 ta_1_48 ta_1_49 ta_1_50 ta_1_51 ta_1_12 ta_1_13 ta_1_52 ta_1_53 ta_1_54 ta_1_55 hd_1 hLr hW_3 ho_2 HB_5
          rintro nna_2 a_2 w_8 ⟨J, Mq, hm_2, hs_3, hd_2, ta_2_0, ta_2_1, ta_2_2, ta_2_7, ta_2_8, ta_2_9, ta_2_10, ta_2_11, ta_2_12, ta_2_13, ta_2_15, ta_2_16, ta_2_17, ta_2_21, ta_2_22, ta_2_23, ta_2_24, ta_2_25, ta_2_26, ta_2_27, ta_2_28, ta_2_30, ta_2_31, ta_2_32, ta_2_33, ta_2_34, ta_2_35, ta_2_36, ta_2_37, ta_2_38, ta_2_39, ta_2_40, ta_2_41, ta_2_42, ta_2_43, ta_2_44, ta_2_45, ta_2_46, ta_2_47, ta_2_48, ta_2_49, ta_2_50, ta_2_51, ta_2_52, ta_2_53, ta_2_54, ta_2_55, ta_2_56, ta_2_57, ta_2_58, ta_2_59, ta_2_60, ta_2_61, ta_2_62, ta_2_63, ta_2_64, ta_2_65, ta_2_66, ta_2_67, ta_2_68, ta_2_69, ta_2_70, ta_2_71, ta_2_72, ta_2_73, hJ, hMw0, hMr0, hMx0, sMwr, sMxr, gMr, HBM⟩ K_24 hK_24
          subst hm_2
          refine w2_seq (fun K_25 hK_25 => ?_)
          refine x_region (by kernel_rfl) ?_
          refine op_val (d := 74) (v := .bool (decide (J < (sizeN la + 34)))) rfl rfl (o_lss (m := J) (n := (sizeN la + 34)) rfl ((pm rfl).trans ta_2_73) ((pm rfl).trans ta_2_72)) ?_
          refine x_nil ?_
          refine hK_25 _ _ ?_
          refine w2_seq (fun K_26 hK_26 => ?_)
          refine w2_split (pe hs_3 rfl rfl) (fun h_2 => ?_) (fun h_2 => ?_)
          · simp only [decide_eq_true_eq, decide_eq_false_iff_not, Bool.not_eq_true', Bool.not_eq_false', Bool.not_true, Bool.not_false, Nat.not_lt, Nat.not_le] at h_2
            have hltJ : J < sizeN la + 34 := h_2
            refine w2_skip ?_
            refine hK_26 _ _ ?_
            refine w2_seq (fun K_27 hK_27 => ?_)
            refine w2_block (fun K_28 hK_28 => ?_)
            refine w2_seq (fun K_29 hK_29 => ?_)
            refine x_region (by kernel_rfl) ?_
            refine op_val (d := 75) (v := .int .i64 ((J : Nat) : Int)) rfl rfl (o_move rfl ((pm rfl).trans ta_2_73)) ?_
            refine op_val (d := 18) (v := .int .i64 ((J : Nat) : Int)) rfl rfl (o_assign rfl (pe hs_3 rfl rfl)) ?_
            refine x_nil ?_
            refine hK_29 _ _ ?_
            refine w2_seq (fun K_30 hK_30 => ?_)
            have hcx : sizeN la + 34 ≤ c_2 := by have h9 := hMx0.bs.le; rw [hl_1] at h9; exact h9
            obtain ⟨hd9, i1, i2, i3⟩ := piece_inv (P0) (b := xa) (by omega) J (by rw [hl_1]; exact hltJ)
            rcases (show J + 1 < sizeN la + 34 ∨ J + 1 = sizeN la + 34 by omega) with hJl | hJl
            · skip
              have hS : Bs w_8 (subA A_2 J c_2) (c_2 - J) (((recL P0 xa).drop J).take 1) := by
                have h := Bs.sub hMx0.bs (l := J) (q := J + 1) (m := c_2) (by omega) (by omega) (Nat.le_refl _)
                rwa [Nat.add_sub_cancel_left] at h
              have hSl : (((recL P0 xa).drop J).take 1).length = J + 1 - J := by rw [List.length_take, List.length_drop, hl_1]; omega
              refine x_region (by kernel_rfl) ?_
              refine op_val (d := 77) (v := .pointer (some ⟨g_4, 0, none⟩)) rfl rfl (o_move rfl ((pm rfl).trans ta_2_13)) ?_
              refine op_val (d := 78) (v := .slice A_2 (sizeN la + 34) (c_2)) rfl rfl (o_move rfl ((pm rfl).trans ta_2_16)) ?_
              refine op_val (d := 79) (v := .int .i64 ((J : Nat) : Int)) rfl rfl (o_move rfl (pe hs_3 rfl rfl)) ?_
              refine op_val (d := 80) (v := .int .i64 ((J : Nat) : Int)) rfl rfl (o_move rfl (pe hs_3 rfl rfl)) ?_
              refine op_val (d := 81) (v := .int .i64 ((J + 1 : Nat) : Int)) rfl rfl (o_add64 (m := J) (n := 1) rfl (pe hs_3 rfl rfl) rfl (by omega)) ?_
              refine op_val (d := 82) (v := .slice ((subA A_2 J c_2)) ((J + 1) - J) (c_2 - J)) rfl rfl (o_slice2 rfl (pe hs_3 rfl rfl) (pe hs_3 rfl rfl) (pe hs_3 rfl rfl) (by omega) (by omega)) ?_
              refine op_call (vs := #[.pointer (some ⟨g_4, 0, none⟩), .slice ((subA A_2 J c_2)) ((J + 1) - J) (c_2 - J)]) rfl rfl (exec_call Try.func41 (by kernel_rfl) (by kernel_rfl) _ rfl _ _ (args2 (pe hs_3 rfl rfl) (pe hs_3 rfl rfl))) (Feed_any _ hMr0 hd9 hS hSl (piece_mid _ (by omega) J (by rw [hl_1]; exact hJl)) (by omega) (by omega) (by omega)) (fun e_7 w_9 hR_7 => ?_)
              obtain ⟨ps_1, A_3, c_3, rfl, hm_3, hRw_1, hAO_1, ⟨M_6, hR_8, hN_4, hs_4, hs_5⟩, hX_2⟩ := hR_7
              obtain rfl : ps_1 = [] := List.map_eq_nil_iff.1 hm_3
              have sp_10 : Sep M_5 M_6 := hN_4.sep (sMwr) hMw0.lt
              have sp_11 : Sep (blkA A_2) M_6 := hN_4.sep (sMxr) hMx0.lt
              replace hMw0 := hMw0.keepM hX_2 (sMwr)
              replace hMx0 := hMx0.keepM hX_2 (sMxr)
              have gg_6 := hN_4.ge gMr HBM.size
              have HB_6 := hX_2.below HBM HBM.size gMr
              refine ⟨_, rfl, ?_⟩
              refine op_val (d := 76) (v := .tuple #[.slice A_3 (0) (c_3), .int .i64 ((0 : Nat) : Int)]) rfl rfl (o_move rfl (pe hs_3 rfl rfl)) ?_
              refine op_val (d := 84) (v := .slice A_3 (0) (c_3)) rfl rfl (o_extract rfl (pe hs_3 rfl rfl) rfl) ?_
              refine op_val (d := 85) (v := .int .i64 ((0 : Nat) : Int)) rfl rfl (o_extract rfl (pe hs_3 rfl rfl) rfl) ?_
              refine op_val (d := 19) (v := .slice A_3 (0) (c_3)) rfl rfl (o_assign rfl (pe hs_3 rfl rfl)) ?_
              refine op_val (d := 20) (v := .int .i64 ((0 : Nat) : Int)) rfl rfl (o_assign rfl (pe hs_3 rfl rfl)) ?_
              refine x_nil ?_
              refine hK_30 _ _ ?_
              refine w2_seq (fun K_31 hK_31 => ?_)
              refine x_drawn 29 [fun _ v => v = .int .i64 ((0 : Nat) : Int), fun _ v => v = .bool (false), fun _ v => v = .bool (false), fun _ v => v = .slice A_3 (0) (c_3), fun _ v => v = .int .i64 ((0 : Nat) : Int), fun _ v => v = .bool (false), fun _ v => v = .int .i64 ((J : Nat) : Int), fun _ v => v = .slice A_2 (sizeN la + 34) (c_2), fun _ v => v = .int .i64 ((sizeN la + 34 : Nat) : Int), fun _ v => v = .int .i64 (((sizeN la + 34) - 1 : Nat) : Int), fun _ v => v = .bool (false), fun _ v => v = .bool (false), fun _ v => v = .bool (false), fun _ v => v = .bool (false), fun _ v => v = .slice A_3 (0) (c_3), fun _ v => v = .int .i64 ((0 : Nat) : Int), fun _ v => v = .bool (false), fun _ v => v = .bool (false), fun _ v => v = .bool (false), fun _ v => v = .slice A_3 (0) (c_3), fun _ v => v = .int .i64 ((0 : Nat) : Int), fun _ v => v = .bool (false), fun _ v => v = .bool (false), fun _ _ => True, fun _ _ => True, fun _ _ => True, fun _ _ => True, fun _ _ => True, fun _ _ => True] [86, 87, 88, 89, 90, 91, 92, 93, 94, 95, 96, 97, 98, 99, 100, 101, 102, 103, 104, 105, 106, 107, 108, 109, 110, 111, 112, 113, 114] hs_3 hd_2 (by kernel_rfl) (by kernel_rfl) (by kernel_rfl) (by kernel_rfl) (by kernel_rfl) ⟨stLit, stLit, stLit, stLit, stLit, stLit, stLit, stLit, stLit, stLit, stLit, stLit, stLit, stLit, stLit, stLit, stLit, stLit, stLit, stLit, stLit, stLit, stLit, stLit, stLit, stLit, stLit, stLit, stLit, trivial⟩ ⟨(step_ok rfl (fun a' w' hb' hO hD => by
                  have d_1 : a'.eval (.tmp 20) = .int .i64 ((0 : Nat) : Int) := (hO 20 (by decide)).trans (pe hs_3 rfl rfl)
                  exact .inl ⟨_, _, (o_move rfl d_1), rfl, Below.refl _ _⟩)),
(step_ok rfl (fun a' w' hb' hO hD => by
                  have d_2 : a'.eval (.tmp 86) = .int .i64 ((0 : Nat) : Int) := hD 0 86 (by kernel_rfl) rfl
                  exact .inl ⟨_, _, (o_eq (o_neq (m := 0) (n := 0) rfl d_2 rfl) rfl), rfl, Below.refl _ _⟩)),
(step_ok rfl (fun a' w' hb' hO hD => by
                  have d_3 : a'.eval (.tmp 87) = .bool (false) := hD 1 87 (by kernel_rfl) rfl
                  exact .inl ⟨_, _, (o_move rfl d_3), rfl, Below.refl _ _⟩)),
(step_yes 2 false 88 rfl rfl (by kernel_rfl) (fun _ _ h => h) (fun a' w' hb' hO hD => by
                  have d_4 : a'.eval (.tmp 19) = .slice A_3 (0) (c_3) := (hO 19 (by decide)).trans (pe hs_3 rfl rfl)
                  exact .inl ⟨_, _, (o_move rfl d_4), rfl, Below.refl _ _⟩)),
(step_yes 2 false 88 rfl rfl (by kernel_rfl) (fun _ _ h => h) (fun a' w' hb' hO hD => by
                  have d_5 : a'.eval (.tmp 89) = .slice A_3 (0) (c_3) := hD 3 89 (by kernel_rfl) rfl
                  exact .inl ⟨_, _, (o_lenS rfl d_5), rfl, Below.refl _ _⟩)),
(step_yes 2 false 88 rfl rfl (by kernel_rfl) (fun _ _ h => h) (fun a' w' hb' hO hD => by
                  have d_6 : a'.eval (.tmp 90) = .int .i64 ((0 : Nat) : Int) := hD 4 90 (by kernel_rfl) rfl
                  exact .inl ⟨_, _, (o_eq (o_eql (m := 0) (n := 1) rfl d_6 rfl) rfl), rfl, Below.refl _ _⟩)),
(step_yes 2 false 88 rfl rfl (by kernel_rfl) (fun _ _ h => h) (fun a' w' hb' hO hD => by
                  have d_7 : a'.eval (.tmp 18) = .int .i64 ((J : Nat) : Int) := (hO 18 (by decide)).trans (pe hs_3 rfl rfl)
                  exact .inl ⟨_, _, (o_move rfl d_7), rfl, Below.refl _ _⟩)),
(step_yes 2 false 88 rfl rfl (by kernel_rfl) (fun _ _ h => h) (fun a' w' hb' hO hD => by
                  have d_8 : a'.eval (.tmp 16) = .slice A_2 (sizeN la + 34) (c_2) := (hO 16 (by decide)).trans ((pm rfl).trans ta_2_16)
                  exact .inl ⟨_, _, (o_move rfl d_8), rfl, Below.refl _ _⟩)),
(step_yes 2 false 88 rfl rfl (by kernel_rfl) (fun _ _ h => h) (fun a' w' hb' hO hD => by
                  have d_9 : a'.eval (.tmp 93) = .slice A_2 (sizeN la + 34) (c_2) := hD 7 93 (by kernel_rfl) rfl
                  exact .inl ⟨_, _, (o_len rfl d_9), rfl, Below.refl _ _⟩)),
(step_yes 2 false 88 rfl rfl (by kernel_rfl) (fun _ _ h => h) (fun a' w' hb' hO hD => by
                  have d_10 : a'.eval (.tmp 94) = .int .i64 ((sizeN la + 34 : Nat) : Int) := hD 8 94 (by kernel_rfl) rfl
                  exact .inl ⟨_, _, (o_sub64 (m := (sizeN la + 34)) (n := 1) rfl d_10 rfl (by omega) (by omega)), rfl, Below.refl _ _⟩)),
(step_yes 2 false 88 rfl rfl (by kernel_rfl) (fun _ _ h => h) (fun a' w' hb' hO hD => by
                  have d_11 : a'.eval (.tmp 92) = .int .i64 ((J : Nat) : Int) := hD 6 92 (by kernel_rfl) rfl
                  have d_12 : a'.eval (.tmp 95) = .int .i64 (((sizeN la + 34) - 1 : Nat) : Int) := hD 9 95 (by kernel_rfl) rfl
                  have e0 : (.bool (decide (J = ((sizeN la + 34) - 1))) : Value) = .bool (false) := (by rw [decide_eq_false (by omega)])
                  exact .inl ⟨_, _, (o_eql (m := J) (n := ((sizeN la + 34) - 1)) rfl d_11 d_12), e0, Below.refl _ _⟩)),
(step_yes 2 false 88 rfl rfl (by kernel_rfl) (fun _ _ h => h) (fun a' w' hb' hO hD => by
                  have d_13 : a'.eval (.tmp 91) = .bool (false) := hD 5 91 (by kernel_rfl) rfl
                  have d_14 : a'.eval (.tmp 96) = .bool (false) := hD 10 96 (by kernel_rfl) rfl
                  have e0 : (.bool (! (false == false)) : Value) = .bool (false) := rfl
                  exact .inl ⟨_, _, (o_neB rfl d_13 d_14 (fun _ => by kernel_rfl)), e0, Below.refl _ _⟩)),
(step_ok rfl (fun a' w' hb' hO hD => by
                  have d_15 : a'.eval (.tmp 88) = .bool (false) := hD 2 88 (by kernel_rfl) rfl
                  have d_16 : a'.eval (.tmp 97) = .bool (false) := hD 11 97 (by kernel_rfl) rfl
                  exact .inl ⟨_, _, (o_pickF rfl d_15 d_16), rfl, Below.refl _ _⟩)),
(step_ok rfl (fun a' w' hb' hO hD => by
                  have d_17 : a'.eval (.tmp 98) = .bool (false) := hD 12 98 (by kernel_rfl) rfl
                  exact .inl ⟨_, _, (o_move rfl d_17), rfl, Below.refl _ _⟩)),
(step_yes 13 false 99 rfl rfl (by kernel_rfl) (fun _ _ h => h) (fun a' w' hb' hO hD => by
                  have d_18 : a'.eval (.tmp 19) = .slice A_3 (0) (c_3) := (hO 19 (by decide)).trans (pe hs_3 rfl rfl)
                  exact .inl ⟨_, _, (o_move rfl d_18), rfl, Below.refl _ _⟩)),
(step_yes 13 false 99 rfl rfl (by kernel_rfl) (fun _ _ h => h) (fun a' w' hb' hO hD => by
                  have d_19 : a'.eval (.tmp 100) = .slice A_3 (0) (c_3) := hD 14 100 (by kernel_rfl) rfl
                  exact .inl ⟨_, _, (o_lenS rfl d_19), rfl, Below.refl _ _⟩)),
(step_yes 13 false 99 rfl rfl (by kernel_rfl) (fun _ _ h => h) (fun a' w' hb' hO hD => by
                  have d_20 : a'.eval (.tmp 101) = .int .i64 ((0 : Nat) : Int) := hD 15 101 (by kernel_rfl) rfl
                  exact .inl ⟨_, _, (o_eq (o_gtr (m := 0) (n := 1) rfl d_20 rfl) rfl), rfl, Below.refl _ _⟩)),
(step_ok rfl (fun a' w' hb' hO hD => by
                  have d_21 : a'.eval (.tmp 99) = .bool (false) := hD 13 99 (by kernel_rfl) rfl
                  have d_22 : a'.eval (.tmp 102) = .bool (false) := hD 16 102 (by kernel_rfl) rfl
                  exact .inl ⟨_, _, (o_pickF rfl d_21 d_22), rfl, Below.refl _ _⟩)),
(step_ok rfl (fun a' w' hb' hO hD => by
                  have d_23 : a'.eval (.tmp 103) = .bool (false) := hD 17 103 (by kernel_rfl) rfl
                  exact .inl ⟨_, _, (o_move rfl d_23), rfl, Below.refl _ _⟩)),
(step_yes 18 false 104 rfl rfl (by kernel_rfl) (fun _ _ h => h) (fun a' w' hb' hO hD => by
                  have d_24 : a'.eval (.tmp 19) = .slice A_3 (0) (c_3) := (hO 19 (by decide)).trans (pe hs_3 rfl rfl)
                  exact .inl ⟨_, _, (o_move rfl d_24), rfl, Below.refl _ _⟩)),
(step_yes 18 false 104 rfl rfl (by kernel_rfl) (fun _ _ h => h) (fun a' w' hb' hO hD => by
                  have d_25 : a'.eval (.tmp 105) = .slice A_3 (0) (c_3) := hD 19 105 (by kernel_rfl) rfl
                  exact .inl ⟨_, _, (o_lenS rfl d_25), rfl, Below.refl _ _⟩)),
(step_yes 18 false 104 rfl rfl (by kernel_rfl) (fun _ _ h => h) (fun a' w' hb' hO hD => by
                  have d_26 : a'.eval (.tmp 106) = .int .i64 ((0 : Nat) : Int) := hD 20 106 (by kernel_rfl) rfl
                  exact .inl ⟨_, _, (o_eq (o_eql (m := 0) (n := 1) rfl d_26 rfl) rfl), rfl, Below.refl _ _⟩)),
(step_yes 18 false 104 rfl rfl (by kernel_rfl) (fun _ _ h => h) (fun a' w' hb' hO hD => by
                  have d_27 : a'.eval (.tmp 107) = .bool (false) := hD 21 107 (by kernel_rfl) rfl
                  exact .inl ⟨_, _, (o_move rfl d_27), rfl, Below.refl _ _⟩)),
(step_no 22 true false 108 rfl rfl (by kernel_rfl) (fun _ _ h => h) (by decide) (fun _ => trivial)),
(step_no 22 true false 108 rfl rfl (by kernel_rfl) (fun _ _ h => h) (by decide) (fun _ => trivial)),
(step_no 22 true false 108 rfl rfl (by kernel_rfl) (fun _ _ h => h) (by decide) (fun _ => trivial)),
(step_no 22 true false 108 rfl rfl (by kernel_rfl) (fun _ _ h => h) (by decide) (fun _ => trivial)),
(step_no 22 true false 108 rfl rfl (by kernel_rfl) (fun _ _ h => h) (by decide) (fun _ => trivial)),
(step_no 22 true false 108 rfl rfl (by kernel_rfl) (fun _ _ h => h) (by decide) (fun _ => trivial)), trivial⟩ (fun a_3 w_10 hs_6 hd_3 hb_6 hO_1 hV_1 => ?_)
              have ta_3_0 : a_3.eval (.tmp 0) = .slice A0 (m) (c0) := (hO_1 0 (by decide)).trans ((pm rfl).trans ta_2_0)
              have ta_3_1 : a_3.eval (.tmp 1) = .slice A1 (la) (c1) := (hO_1 1 (by decide)).trans ((pm rfl).trans ta_2_1)
              have ta_3_2 : a_3.eval (.tmp 2) = .slice A2 (lb) (c2) := (hO_1 2 (by decide)).trans ((pm rfl).trans ta_2_2)
              have ta_3_21 : a_3.eval (.tmp 21) = .slice A1 (la) (c1) := (hO_1 21 (by decide)).trans ((pm rfl).trans ta_2_21)
              have ta_3_22 : a_3.eval (.tmp 22) = .int .i64 ((la : Nat) : Int) := (hO_1 22 (by decide)).trans ((pm rfl).trans ta_2_22)
              have ta_3_23 : a_3.eval (.tmp 23) = .bool (false) := (hO_1 23 (by decide)).trans ((pm rfl).trans ta_2_23)
              have ta_3_24 : a_3.eval (.tmp 24) = .bool (false) := (hO_1 24 (by decide)).trans ((pm rfl).trans ta_2_24)
              have ta_3_25 : a_3.eval (.tmp 25) = .slice A2 (lb) (c2) := (hO_1 25 (by decide)).trans ((pm rfl).trans ta_2_25)
              have ta_3_26 : a_3.eval (.tmp 26) = .int .i64 ((lb : Nat) : Int) := (hO_1 26 (by decide)).trans ((pm rfl).trans ta_2_26)
              have ta_3_27 : a_3.eval (.tmp 27) = .bool (false) := (hO_1 27 (by decide)).trans ((pm rfl).trans ta_2_27)
              have ta_3_28 : a_3.eval (.tmp 28) = .bool (false) := (hO_1 28 (by decide)).trans ((pm rfl).trans ta_2_28)
              have ta_3_30 : a_3.eval (.tmp 30) = .slice A0 (m) (c0) := (hO_1 30 (by decide)).trans ((pm rfl).trans ta_2_30)
              have ta_3_31 : a_3.eval (.tmp 31) = .slice A_1 (32) (c_1) := (hO_1 31 (by decide)).trans ((pm rfl).trans ta_2_31)
              have ta_3_7 : a_3.eval (.tmp 7) = .slice A_1 (32) (c_1) := (hO_1 7 (by decide)).trans ((pm rfl).trans ta_2_7)
              have ta_3_33 : a_3.eval (.tmp 33) = .slice A_1 (32) (c_1) := (hO_1 33 (by decide)).trans ((pm rfl).trans ta_2_33)
              have ta_3_34 : a_3.eval (.tmp 34) = .tuple #[.pointer (some ⟨g_1, 0, none⟩), .int .i64 ((0 : Nat) : Int)] := (hO_1 34 (by decide)).trans ((pm rfl).trans ta_2_34)
              have ta_3_32 : a_3.eval (.tmp 32) = .tuple #[.pointer (some ⟨g_1, 0, none⟩), .int .i64 ((0 : Nat) : Int)] := (hO_1 32 (by decide)).trans ((pm rfl).trans ta_2_32)
              have ta_3_35 : a_3.eval (.tmp 35) = .pointer (some ⟨g_1, 0, none⟩) := (hO_1 35 (by decide)).trans ((pm rfl).trans ta_2_35)
              have ta_3_36 : a_3.eval (.tmp 36) = .int .i64 ((0 : Nat) : Int) := (hO_1 36 (by decide)).trans ((pm rfl).trans ta_2_36)
              have ta_3_8 : a_3.eval (.tmp 8) = .pointer (some ⟨g_1, 0, none⟩) := (hO_1 8 (by decide)).trans ((pm rfl).trans ta_2_8)
              have ta_3_9 : a_3.eval (.tmp 9) = .int .i64 ((0 : Nat) : Int) := (hO_1 9 (by decide)).trans ((pm rfl).trans ta_2_9)
              have ta_3_38 : a_3.eval (.tmp 38) = .slice A_1 (32) (c_1) := (hO_1 38 (by decide)).trans ((pm rfl).trans ta_2_38)
              have ta_3_39 : a_3.eval (.tmp 39) = .tuple #[.pointer (some ⟨g_2, 0, none⟩), .int .i64 ((0 : Nat) : Int)] := (hO_1 39 (by decide)).trans ((pm rfl).trans ta_2_39)
              have ta_3_37 : a_3.eval (.tmp 37) = .tuple #[.pointer (some ⟨g_2, 0, none⟩), .int .i64 ((0 : Nat) : Int)] := (hO_1 37 (by decide)).trans ((pm rfl).trans ta_2_37)
              have ta_3_40 : a_3.eval (.tmp 40) = .pointer (some ⟨g_2, 0, none⟩) := (hO_1 40 (by decide)).trans ((pm rfl).trans ta_2_40)
              have ta_3_41 : a_3.eval (.tmp 41) = .int .i64 ((0 : Nat) : Int) := (hO_1 41 (by decide)).trans ((pm rfl).trans ta_2_41)
              have ta_3_10 : a_3.eval (.tmp 10) = .pointer (some ⟨g_2, 0, none⟩) := (hO_1 10 (by decide)).trans ((pm rfl).trans ta_2_10)
              have ta_3_11 : a_3.eval (.tmp 11) = .int .i64 ((0 : Nat) : Int) := (hO_1 11 (by decide)).trans ((pm rfl).trans ta_2_11)
              have ta_3_42 : a_3.eval (.tmp 42) = .int .i64 ((0 : Nat) : Int) := (hO_1 42 (by decide)).trans ((pm rfl).trans ta_2_42)
              have ta_3_43 : a_3.eval (.tmp 43) = .bool (false) := (hO_1 43 (by decide)).trans ((pm rfl).trans ta_2_43)
              have ta_3_44 : a_3.eval (.tmp 44) = .bool (false) := (hO_1 44 (by decide)).trans ((pm rfl).trans ta_2_44)
              have ta_3_45 : a_3.eval (.tmp 45) = .int .i64 ((0 : Nat) : Int) := (hO_1 45 (by decide)).trans ((pm rfl).trans ta_2_45)
              have ta_3_46 : a_3.eval (.tmp 46) = .bool (false) := (hO_1 46 (by decide)).trans ((pm rfl).trans ta_2_46)
              have ta_3_47 : a_3.eval (.tmp 47) = .bool (false) := (hO_1 47 (by decide)).trans ((pm rfl).trans ta_2_47)
              have ta_3_48 : a_3.eval (.tmp 48) = .pointer (some ⟨g_1, 0, none⟩) := (hO_1 48 (by decide)).trans ((pm rfl).trans ta_2_48)
              have ta_3_49 : a_3.eval (.tmp 49) = .pointer (some ⟨g_3, 0, none⟩) := (hO_1 49 (by decide)).trans ((pm rfl).trans ta_2_49)
              have ta_3_50 : a_3.eval (.tmp 50) = .pointer (some ⟨g_2, 0, none⟩) := (hO_1 50 (by decide)).trans ((pm rfl).trans ta_2_50)
              have ta_3_51 : a_3.eval (.tmp 51) = .pointer (some ⟨g_4, 0, none⟩) := (hO_1 51 (by decide)).trans ((pm rfl).trans ta_2_51)
              have ta_3_12 : a_3.eval (.tmp 12) = .pointer (some ⟨g_3, 0, none⟩) := (hO_1 12 (by decide)).trans ((pm rfl).trans ta_2_12)
              have ta_3_13 : a_3.eval (.tmp 13) = .pointer (some ⟨g_4, 0, none⟩) := (hO_1 13 (by decide)).trans ((pm rfl).trans ta_2_13)
              have ta_3_52 : a_3.eval (.tmp 52) = .slice A1 (la) (c1) := (hO_1 52 (by decide)).trans ((pm rfl).trans ta_2_52)
              have ta_3_53 : a_3.eval (.tmp 53) = .slice A2 (lb) (c2) := (hO_1 53 (by decide)).trans ((pm rfl).trans ta_2_53)
              have ta_3_54 : a_3.eval (.tmp 54) = .agg #[.slice A1 (la) (c1), .slice A2 (lb) (c2)] := (hO_1 54 (by decide)).trans ((pm rfl).trans ta_2_54)
              have ta_3_55 : a_3.eval (.tmp 55) = .int .i64 ((0 : Nat) : Int) := (hO_1 55 (by decide)).trans ((pm rfl).trans ta_2_55)
              have ta_3_56 : a_3.eval (.tmp 56) = .bool (decide (0 < 2)) := (hO_1 56 (by decide)).trans ((pm rfl).trans ta_2_56)
              have ta_3_57 : a_3.eval (.tmp 57) = .slice A1 (la) (c1) := (hO_1 57 (by decide)).trans ((pm rfl).trans ta_2_57)
              have ta_3_15 : a_3.eval (.tmp 15) = .slice A1 (la) (c1) := (hO_1 15 (by decide)).trans ((pm rfl).trans ta_2_15)
              have ta_3_59 : a_3.eval (.tmp 59) = .pointer (some ⟨g_3, 0, none⟩) := (hO_1 59 (by decide)).trans ((pm rfl).trans ta_2_59)
              have ta_3_60 : a_3.eval (.tmp 60) = .slice A1 (la) (c1) := (hO_1 60 (by decide)).trans ((pm rfl).trans ta_2_60)
              have ta_3_61 : a_3.eval (.tmp 61) = .tuple #[.slice A_2 (sizeN la + 34) (c_2), .int .i64 ((0 : Nat) : Int)] := (hO_1 61 (by decide)).trans ((pm rfl).trans ta_2_61)
              have ta_3_58 : a_3.eval (.tmp 58) = .tuple #[.slice A_2 (sizeN la + 34) (c_2), .int .i64 ((0 : Nat) : Int)] := (hO_1 58 (by decide)).trans ((pm rfl).trans ta_2_58)
              have ta_3_62 : a_3.eval (.tmp 62) = .slice A_2 (sizeN la + 34) (c_2) := (hO_1 62 (by decide)).trans ((pm rfl).trans ta_2_62)
              have ta_3_63 : a_3.eval (.tmp 63) = .int .i64 ((0 : Nat) : Int) := (hO_1 63 (by decide)).trans ((pm rfl).trans ta_2_63)
              have ta_3_16 : a_3.eval (.tmp 16) = .slice A_2 (sizeN la + 34) (c_2) := (hO_1 16 (by decide)).trans ((pm rfl).trans ta_2_16)
              have ta_3_17 : a_3.eval (.tmp 17) = .int .i64 ((0 : Nat) : Int) := (hO_1 17 (by decide)).trans ((pm rfl).trans ta_2_17)
              have ta_3_64 : a_3.eval (.tmp 64) = .int .i64 ((0 : Nat) : Int) := (hO_1 64 (by decide)).trans ((pm rfl).trans ta_2_64)
              have ta_3_65 : a_3.eval (.tmp 65) = .bool (false) := (hO_1 65 (by decide)).trans ((pm rfl).trans ta_2_65)
              have ta_3_66 : a_3.eval (.tmp 66) = .bool (false) := (hO_1 66 (by decide)).trans ((pm rfl).trans ta_2_66)
              have ta_3_67 : a_3.eval (.tmp 67) = .slice A_2 (sizeN la + 34) (c_2) := (hO_1 67 (by decide)).trans ((pm rfl).trans ta_2_67)
              have ta_3_68 : a_3.eval (.tmp 68) = .int .i64 ((sizeN la + 34 : Nat) : Int) := (hO_1 68 (by decide)).trans ((pm rfl).trans ta_2_68)
              have ta_3_69 : a_3.eval (.tmp 69) = .bool (false) := (hO_1 69 (by decide)).trans ((pm rfl).trans ta_2_69)
              have ta_3_70 : a_3.eval (.tmp 70) = .bool (false) := (hO_1 70 (by decide)).trans ((pm rfl).trans ta_2_70)
              have ta_3_71 : a_3.eval (.tmp 71) = .slice A_2 (sizeN la + 34) (c_2) := (hO_1 71 (by decide)).trans ((pm rfl).trans ta_2_71)
              have ta_3_72 : a_3.eval (.tmp 72) = .int .i64 ((sizeN la + 34 : Nat) : Int) := (hO_1 72 (by decide)).trans ((pm rfl).trans ta_2_72)
              have ta_3_73 : a_3.eval (.tmp 73) = .int .i64 ((J : Nat) : Int) := (hO_1 73 (by decide)).trans ((pm rfl).trans ta_2_73)
              have ta_3_74 : a_3.eval (.tmp 74) = .bool (decide (J < (sizeN la + 34))) := (hO_1 74 (by decide)).trans (pe hs_3 rfl rfl)
              have ta_3_75 : a_3.eval (.tmp 75) = .int .i64 ((J : Nat) : Int) := (hO_1 75 (by decide)).trans (pe hs_3 rfl rfl)
              have ta_3_18 : a_3.eval (.tmp 18) = .int .i64 ((J : Nat) : Int) := (hO_1 18 (by decide)).trans (pe hs_3 rfl rfl)
              have ta_3_77 : a_3.eval (.tmp 77) = .pointer (some ⟨g_4, 0, none⟩) := (hO_1 77 (by decide)).trans (pe hs_3 rfl rfl)
              have ta_3_78 : a_3.eval (.tmp 78) = .slice A_2 (sizeN la + 34) (c_2) := (hO_1 78 (by decide)).trans (pe hs_3 rfl rfl)
              have ta_3_79 : a_3.eval (.tmp 79) = .int .i64 ((J : Nat) : Int) := (hO_1 79 (by decide)).trans (pe hs_3 rfl rfl)
              have ta_3_80 : a_3.eval (.tmp 80) = .int .i64 ((J : Nat) : Int) := (hO_1 80 (by decide)).trans (pe hs_3 rfl rfl)
              have ta_3_81 : a_3.eval (.tmp 81) = .int .i64 ((J + 1 : Nat) : Int) := (hO_1 81 (by decide)).trans (pe hs_3 rfl rfl)
              have ta_3_82 : a_3.eval (.tmp 82) = .slice ((subA A_2 J c_2)) ((J + 1) - J) (c_2 - J) := (hO_1 82 (by decide)).trans (pe hs_3 rfl rfl)
              have ta_3_83 : a_3.eval (.tmp 83) = .tuple #[.slice A_3 (0) (c_3), .int .i64 ((0 : Nat) : Int)] := (hO_1 83 (by decide)).trans (pe hs_3 rfl rfl)
              have ta_3_76 : a_3.eval (.tmp 76) = .tuple #[.slice A_3 (0) (c_3), .int .i64 ((0 : Nat) : Int)] := (hO_1 76 (by decide)).trans (pe hs_3 rfl rfl)
              have ta_3_84 : a_3.eval (.tmp 84) = .slice A_3 (0) (c_3) := (hO_1 84 (by decide)).trans (pe hs_3 rfl rfl)
              have ta_3_85 : a_3.eval (.tmp 85) = .int .i64 ((0 : Nat) : Int) := (hO_1 85 (by decide)).trans (pe hs_3 rfl rfl)
              have ta_3_19 : a_3.eval (.tmp 19) = .slice A_3 (0) (c_3) := (hO_1 19 (by decide)).trans (pe hs_3 rfl rfl)
              have ta_3_20 : a_3.eval (.tmp 20) = .int .i64 ((0 : Nat) : Int) := (hO_1 20 (by decide)).trans (pe hs_3 rfl rfl)
              clear ta_2_0 ta_2_1 ta_2_2 ta_2_21 ta_2_22 ta_2_23 ta_2_24 ta_2_25 ta_2_26 ta_2_27 ta_2_28 ta_2_30 ta_2_31 ta_2_7 ta_2_33 ta_2_34 ta_2_32 ta_2_35 ta_2_36 ta_2_8 ta_2_9 ta_2_38 ta_2_39 ta_2_37 ta_2_40 ta_2_41 ta_2_10 ta_2_11 ta_2_42 ta_2_43 ta_2_44 ta_2_45 ta_2_46 ta_2_47 ta_2_48 ta_2_49 ta_2_50 ta_2_51 ta_2_12 ta_2_13 ta_2_52 ta_2_53 ta_2_54 ta_2_55 ta_2_56 ta_2_57 ta_2_15 ta_2_59 ta_2_60 ta_2_61 ta_2_58 ta_2_62 ta_2_63 ta_2_16 ta_2_17 ta_2_64 ta_2_65 ta_2_66 ta_2_67 ta_2_68 ta_2_69 ta_2_70 ta_2_71 ta_2_72 ta_2_73 hd_2
              replace hMw0 := hMw0.nx hb_6
              replace hMx0 := hMx0.nx hb_6
              replace hR_8 := hR_8.nx hb_6
              have HB_7 := below_from HB_6 hb_6
              have ta_3_86 : a_3.eval (.tmp 86) = .int .i64 ((0 : Nat) : Int) := hV_1 0 86 rfl rfl
              have ta_3_87 : a_3.eval (.tmp 87) = .bool (false) := hV_1 1 87 rfl rfl
              have ta_3_88 : a_3.eval (.tmp 88) = .bool (false) := hV_1 2 88 rfl rfl
              have ta_3_89 : a_3.eval (.tmp 89) = .slice A_3 (0) (c_3) := hV_1 3 89 rfl rfl
              have ta_3_90 : a_3.eval (.tmp 90) = .int .i64 ((0 : Nat) : Int) := hV_1 4 90 rfl rfl
              have ta_3_91 : a_3.eval (.tmp 91) = .bool (false) := hV_1 5 91 rfl rfl
              have ta_3_92 : a_3.eval (.tmp 92) = .int .i64 ((J : Nat) : Int) := hV_1 6 92 rfl rfl
              have ta_3_93 : a_3.eval (.tmp 93) = .slice A_2 (sizeN la + 34) (c_2) := hV_1 7 93 rfl rfl
              have ta_3_94 : a_3.eval (.tmp 94) = .int .i64 ((sizeN la + 34 : Nat) : Int) := hV_1 8 94 rfl rfl
              have ta_3_95 : a_3.eval (.tmp 95) = .int .i64 (((sizeN la + 34) - 1 : Nat) : Int) := hV_1 9 95 rfl rfl
              have ta_3_96 : a_3.eval (.tmp 96) = .bool (false) := hV_1 10 96 rfl rfl
              have ta_3_97 : a_3.eval (.tmp 97) = .bool (false) := hV_1 11 97 rfl rfl
              have ta_3_98 : a_3.eval (.tmp 98) = .bool (false) := hV_1 12 98 rfl rfl
              have ta_3_99 : a_3.eval (.tmp 99) = .bool (false) := hV_1 13 99 rfl rfl
              have ta_3_100 : a_3.eval (.tmp 100) = .slice A_3 (0) (c_3) := hV_1 14 100 rfl rfl
              have ta_3_101 : a_3.eval (.tmp 101) = .int .i64 ((0 : Nat) : Int) := hV_1 15 101 rfl rfl
              have ta_3_102 : a_3.eval (.tmp 102) = .bool (false) := hV_1 16 102 rfl rfl
              have ta_3_103 : a_3.eval (.tmp 103) = .bool (false) := hV_1 17 103 rfl rfl
              have ta_3_104 : a_3.eval (.tmp 104) = .bool (false) := hV_1 18 104 rfl rfl
              have ta_3_105 : a_3.eval (.tmp 105) = .slice A_3 (0) (c_3) := hV_1 19 105 rfl rfl
              have ta_3_106 : a_3.eval (.tmp 106) = .int .i64 ((0 : Nat) : Int) := hV_1 20 106 rfl rfl
              have ta_3_107 : a_3.eval (.tmp 107) = .bool (false) := hV_1 21 107 rfl rfl
              have ta_3_108 : a_3.eval (.tmp 108) = .bool (false) := hV_1 22 108 rfl rfl
              clear hV_1 hO_1
              simp only [List.drop_succ_cons, List.drop_zero]
              refine op_left (e := 108) rfl rfl (by kernel_rfl) ((pm rfl).trans ta_3_108) rfl ?_
              refine op_valG (e := 104) (d := 116) (v := .bool (false)) rfl rfl (by kernel_rfl) ((pm rfl).trans ta_3_104) (o_pickF rfl ((pm rfl).trans ta_3_108) rfl) ?_
              refine op_val (d := 117) (v := .bool (false)) rfl rfl (o_pickF rfl ((pm rfl).trans ta_3_104) (pe hs_6 rfl rfl)) ?_
              refine x_nil ?_
              refine hK_31 _ _ ?_
              refine w2_condF (pe hs_6 rfl rfl) ?_
              refine w2_skip ?_
              refine hK_28 _ _ ?_
              refine hK_27 _ _ ?_
              refine x_region (by kernel_rfl) ?_
              refine op_val (d := 118) (v := .int .i64 ((J + 1 : Nat) : Int)) rfl rfl (o_add64 (m := J) (n := 1) rfl ((pm rfl).trans ta_3_73) rfl (by omega)) ?_
              refine op_val (d := 73) (v := .int .i64 ((J + 1 : Nat) : Int)) rfl rfl (o_move rfl (pe hs_6 rfl rfl)) ?_
              refine x_nil ?_
              refine hK_24 _ _ _ ⟨J + 1, M_6, rfl, (by rw [putsR_size]; exact hs_6), (by rw [putsR_defers]; exact hd_3), ((pm rfl).trans ta_3_0), ((pm rfl).trans ta_3_1), ((pm rfl).trans ta_3_2), ((pm rfl).trans ta_3_7), ((pm rfl).trans ta_3_8), ((pm rfl).trans ta_3_9), ((pm rfl).trans ta_3_10), ((pm rfl).trans ta_3_11), ((pm rfl).trans ta_3_12), ((pm rfl).trans ta_3_13), ((pm rfl).trans ta_3_15), ((pm rfl).trans ta_3_16), ((pm rfl).trans ta_3_17), ((pm rfl).trans ta_3_21), ((pm rfl).trans ta_3_22), ((pm rfl).trans ta_3_23), ((pm rfl).trans ta_3_24), ((pm rfl).trans ta_3_25), ((pm rfl).trans ta_3_26), ((pm rfl).trans ta_3_27), ((pm rfl).trans ta_3_28), ((pm rfl).trans ta_3_30), ((pm rfl).trans ta_3_31), ((pm rfl).trans ta_3_32), ((pm rfl).trans ta_3_33), ((pm rfl).trans ta_3_34), ((pm rfl).trans ta_3_35), ((pm rfl).trans ta_3_36), ((pm rfl).trans ta_3_37), ((pm rfl).trans ta_3_38), ((pm rfl).trans ta_3_39), ((pm rfl).trans ta_3_40), ((pm rfl).trans ta_3_41), ((pm rfl).trans ta_3_42), ((pm rfl).trans ta_3_43), ((pm rfl).trans ta_3_44), ((pm rfl).trans ta_3_45), ((pm rfl).trans ta_3_46), ((pm rfl).trans ta_3_47), ((pm rfl).trans ta_3_48), ((pm rfl).trans ta_3_49), ((pm rfl).trans ta_3_50), ((pm rfl).trans ta_3_51), ((pm rfl).trans ta_3_52), ((pm rfl).trans ta_3_53), ((pm rfl).trans ta_3_54), ((pm rfl).trans ta_3_55), ((pm rfl).trans ta_3_56), ((pm rfl).trans ta_3_57), ((pm rfl).trans ta_3_58), ((pm rfl).trans ta_3_59), ((pm rfl).trans ta_3_60), ((pm rfl).trans ta_3_61), ((pm rfl).trans ta_3_62), ((pm rfl).trans ta_3_63), ((pm rfl).trans ta_3_64), ((pm rfl).trans ta_3_65), ((pm rfl).trans ta_3_66), ((pm rfl).trans ta_3_67), ((pm rfl).trans ta_3_68), ((pm rfl).trans ta_3_69), ((pm rfl).trans ta_3_70), ((pm rfl).trans ta_3_71), ((pm rfl).trans ta_3_72), (pe hs_6 rfl rfl), (by omega), hMw0, (by exact hR_8), hMx0, sp_10, sp_11, gg_6, HB_7⟩ ?_
              omega
            · skip
              have hS : Bs w_8 (subA A_2 J c_2) (c_2 - J) (((recL P0 xa).drop J).take 1) := by
                have h := Bs.sub hMx0.bs (l := J) (q := J + 1) (m := c_2) (by omega) (by omega) (Nat.le_refl _)
                rwa [Nat.add_sub_cancel_left] at h
              have hSl : (((recL P0 xa).drop J).take 1).length = J + 1 - J := by rw [List.length_take, List.length_drop, hl_1]; omega
              refine x_region (by kernel_rfl) ?_
              refine op_val (d := 77) (v := .pointer (some ⟨g_4, 0, none⟩)) rfl rfl (o_move rfl ((pm rfl).trans ta_2_13)) ?_
              refine op_val (d := 78) (v := .slice A_2 (sizeN la + 34) (c_2)) rfl rfl (o_move rfl ((pm rfl).trans ta_2_16)) ?_
              refine op_val (d := 79) (v := .int .i64 ((J : Nat) : Int)) rfl rfl (o_move rfl (pe hs_3 rfl rfl)) ?_
              refine op_val (d := 80) (v := .int .i64 ((J : Nat) : Int)) rfl rfl (o_move rfl (pe hs_3 rfl rfl)) ?_
              refine op_val (d := 81) (v := .int .i64 ((J + 1 : Nat) : Int)) rfl rfl (o_add64 (m := J) (n := 1) rfl (pe hs_3 rfl rfl) rfl (by omega)) ?_
              refine op_val (d := 82) (v := .slice ((subA A_2 J c_2)) ((J + 1) - J) (c_2 - J)) rfl rfl (o_slice2 rfl (pe hs_3 rfl rfl) (pe hs_3 rfl rfl) (pe hs_3 rfl rfl) (by omega) (by omega)) ?_
              refine op_call (vs := #[.pointer (some ⟨g_4, 0, none⟩), .slice ((subA A_2 J c_2)) ((J + 1) - J) (c_2 - J)]) rfl rfl (exec_call Try.func41 (by kernel_rfl) (by kernel_rfl) _ rfl _ _ (args2 (pe hs_3 rfl rfl) (pe hs_3 rfl rfl))) (Feed_any _ hMr0 hd9 hS hSl (piece_last _ (by omega) J (by rw [hl_1]; exact hJl)) (by omega) (by omega) (by omega)) (fun e_8 w_11 hR_9 => ?_)
              obtain ⟨ps_2, A_4, c_4, rfl, hm_4, hRw_2, hAO_2, ⟨M_7, hR_10, hN_5, hs_7, hs_8⟩, hX_3⟩ := hR_9
              obtain ⟨p_1, rfl, hp_1⟩ := map_one hm_4
              have sp_12 : Sep M_5 M_7 := hN_5.sep (sMwr) hMw0.lt
              have sp_13 : Sep (blkA A_4) M_5 := (Sep.new hMw0.lt hRw_2.ge').symm
              have sp_14 : Sep (blkP ([p_1])) M_5 := (Sep.new hMw0.lt hAO_2.ge').symm
              have sp_15 : Sep (blkA A_2) M_7 := hN_5.sep (sMxr) hMx0.lt
              have sp_16 : Sep (blkA A_4) (blkA A_2) := (Sep.new hMx0.lt hRw_2.ge').symm
              have sp_17 : Sep (blkP ([p_1])) (blkA A_2) := (Sep.new hMx0.lt hAO_2.ge').symm
              replace hMw0 := hMw0.keepM hX_3 (sMwr)
              replace hMx0 := hMx0.keepM hX_3 (sMxr)
              have gg_7 := hN_5.ge gMr HBM.size
              replace hRw_2 := hRw_2.mono HBM.size
              replace hAO_2 := hAO_2.mono HBM.size
              have HB_8 := hX_3.below HBM HBM.size gMr
              obtain ⟨g_5, cur_1, rfl, hB_1, hcu_1⟩ := hRw_2.at (i := 0) (by simp)
              have hOp_1 := hAO_2 p_1 (by simp)
              refine ⟨_, rfl, ?_⟩
              refine op_val (d := 76) (v := .tuple #[.slice ((some ⟨g_5, 0, none⟩)) (1) (c_4), .int .i64 ((0 : Nat) : Int)]) rfl rfl (o_move rfl (pe hs_3 rfl rfl)) ?_
              refine op_val (d := 84) (v := .slice ((some ⟨g_5, 0, none⟩)) (1) (c_4)) rfl rfl (o_extract rfl (pe hs_3 rfl rfl) rfl) ?_
              refine op_val (d := 85) (v := .int .i64 ((0 : Nat) : Int)) rfl rfl (o_extract rfl (pe hs_3 rfl rfl) rfl) ?_
              refine op_val (d := 19) (v := .slice ((some ⟨g_5, 0, none⟩)) (1) (c_4)) rfl rfl (o_assign rfl (pe hs_3 rfl rfl)) ?_
              refine op_val (d := 20) (v := .int .i64 ((0 : Nat) : Int)) rfl rfl (o_assign rfl (pe hs_3 rfl rfl)) ?_
              refine x_nil ?_
              refine hK_30 _ _ ?_
              refine w2_seq (fun K_32 hK_32 => ?_)
              refine x_drawn 29 [fun _ v => v = .int .i64 ((0 : Nat) : Int), fun _ v => v = .bool (false), fun _ v => v = .bool (false), fun _ v => v = .slice ((some ⟨g_5, 0, none⟩)) (1) (c_4), fun _ v => v = .int .i64 ((1 : Nat) : Int), fun _ v => v = .bool (true), fun _ v => v = .int .i64 ((J : Nat) : Int), fun _ v => v = .slice A_2 (sizeN la + 34) (c_2), fun _ v => v = .int .i64 ((sizeN la + 34 : Nat) : Int), fun _ v => v = .int .i64 (((sizeN la + 34) - 1 : Nat) : Int), fun _ v => v = .bool (true), fun _ v => v = .bool (false), fun _ v => v = .bool (false), fun _ v => v = .bool (false), fun _ v => v = .slice ((some ⟨g_5, 0, none⟩)) (1) (c_4), fun _ v => v = .int .i64 ((1 : Nat) : Int), fun _ v => v = .bool (false), fun _ v => v = .bool (false), fun _ v => v = .bool (false), fun _ v => v = .slice ((some ⟨g_5, 0, none⟩)) (1) (c_4), fun _ v => v = .int .i64 ((1 : Nat) : Int), fun _ v => v = .bool (true), fun _ v => v = .bool (true), fun _ v => v = .slice ((some ⟨g_5, 0, none⟩)) (1) (c_4), fun _ v => v = .pointer (some ⟨g_5, 0, none⟩), fun _ v => v = .slice p_1.A (p_1.xs.length) (p_1.c), fun _ v => v = .string (strB p_1.xs), fun _ v => v = .slice A1 (la) (c1), fun _ v => v = .string (strB xa)] [86, 87, 88, 89, 90, 91, 92, 93, 94, 95, 96, 97, 98, 99, 100, 101, 102, 103, 104, 105, 106, 107, 108, 109, 110, 111, 112, 113, 114] hs_3 hd_2 (by kernel_rfl) (by kernel_rfl) (by kernel_rfl) (by kernel_rfl) (by kernel_rfl) ⟨stLit, stLit, stLit, stLit, stLit, stLit, stLit, stLit, stLit, stLit, stLit, stLit, stLit, stLit, stLit, stLit, stLit, stLit, stLit, stLit, stLit, stLit, stLit, stLit, stLit, stLit, stLit, stLit, stLit, trivial⟩ ⟨(step_ok rfl (fun a' w' hb' hO hD => by
                  have d_28 : a'.eval (.tmp 20) = .int .i64 ((0 : Nat) : Int) := (hO 20 (by decide)).trans (pe hs_3 rfl rfl)
                  exact .inl ⟨_, _, (o_move rfl d_28), rfl, Below.refl _ _⟩)),
(step_ok rfl (fun a' w' hb' hO hD => by
                  have d_29 : a'.eval (.tmp 86) = .int .i64 ((0 : Nat) : Int) := hD 0 86 (by kernel_rfl) rfl
                  exact .inl ⟨_, _, (o_eq (o_neq (m := 0) (n := 0) rfl d_29 rfl) rfl), rfl, Below.refl _ _⟩)),
(step_ok rfl (fun a' w' hb' hO hD => by
                  have d_30 : a'.eval (.tmp 87) = .bool (false) := hD 1 87 (by kernel_rfl) rfl
                  exact .inl ⟨_, _, (o_move rfl d_30), rfl, Below.refl _ _⟩)),
(step_yes 2 false 88 rfl rfl (by kernel_rfl) (fun _ _ h => h) (fun a' w' hb' hO hD => by
                  have d_31 : a'.eval (.tmp 19) = .slice ((some ⟨g_5, 0, none⟩)) (1) (c_4) := (hO 19 (by decide)).trans (pe hs_3 rfl rfl)
                  exact .inl ⟨_, _, (o_move rfl d_31), rfl, Below.refl _ _⟩)),
(step_yes 2 false 88 rfl rfl (by kernel_rfl) (fun _ _ h => h) (fun a' w' hb' hO hD => by
                  have d_32 : a'.eval (.tmp 89) = .slice ((some ⟨g_5, 0, none⟩)) (1) (c_4) := hD 3 89 (by kernel_rfl) rfl
                  exact .inl ⟨_, _, (o_lenS rfl d_32), rfl, Below.refl _ _⟩)),
(step_yes 2 false 88 rfl rfl (by kernel_rfl) (fun _ _ h => h) (fun a' w' hb' hO hD => by
                  have d_33 : a'.eval (.tmp 90) = .int .i64 ((1 : Nat) : Int) := hD 4 90 (by kernel_rfl) rfl
                  exact .inl ⟨_, _, (o_eq (o_eql (m := 1) (n := 1) rfl d_33 rfl) rfl), rfl, Below.refl _ _⟩)),
(step_yes 2 false 88 rfl rfl (by kernel_rfl) (fun _ _ h => h) (fun a' w' hb' hO hD => by
                  have d_34 : a'.eval (.tmp 18) = .int .i64 ((J : Nat) : Int) := (hO 18 (by decide)).trans (pe hs_3 rfl rfl)
                  exact .inl ⟨_, _, (o_move rfl d_34), rfl, Below.refl _ _⟩)),
(step_yes 2 false 88 rfl rfl (by kernel_rfl) (fun _ _ h => h) (fun a' w' hb' hO hD => by
                  have d_35 : a'.eval (.tmp 16) = .slice A_2 (sizeN la + 34) (c_2) := (hO 16 (by decide)).trans ((pm rfl).trans ta_2_16)
                  exact .inl ⟨_, _, (o_move rfl d_35), rfl, Below.refl _ _⟩)),
(step_yes 2 false 88 rfl rfl (by kernel_rfl) (fun _ _ h => h) (fun a' w' hb' hO hD => by
                  have d_36 : a'.eval (.tmp 93) = .slice A_2 (sizeN la + 34) (c_2) := hD 7 93 (by kernel_rfl) rfl
                  exact .inl ⟨_, _, (o_len rfl d_36), rfl, Below.refl _ _⟩)),
(step_yes 2 false 88 rfl rfl (by kernel_rfl) (fun _ _ h => h) (fun a' w' hb' hO hD => by
                  have d_37 : a'.eval (.tmp 94) = .int .i64 ((sizeN la + 34 : Nat) : Int) := hD 8 94 (by kernel_rfl) rfl
                  exact .inl ⟨_, _, (o_sub64 (m := (sizeN la + 34)) (n := 1) rfl d_37 rfl (by omega) (by omega)), rfl, Below.refl _ _⟩)),
(step_yes 2 false 88 rfl rfl (by kernel_rfl) (fun _ _ h => h) (fun a' w' hb' hO hD => by
                  have d_38 : a'.eval (.tmp 92) = .int .i64 ((J : Nat) : Int) := hD 6 92 (by kernel_rfl) rfl
                  have d_39 : a'.eval (.tmp 95) = .int .i64 (((sizeN la + 34) - 1 : Nat) : Int) := hD 9 95 (by kernel_rfl) rfl
                  have e0 : (.bool (decide (J = ((sizeN la + 34) - 1))) : Value) = .bool (true) := (by rw [decide_eq_true (by omega)])
                  exact .inl ⟨_, _, (o_eql (m := J) (n := ((sizeN la + 34) - 1)) rfl d_38 d_39), e0, Below.refl _ _⟩)),
(step_yes 2 false 88 rfl rfl (by kernel_rfl) (fun _ _ h => h) (fun a' w' hb' hO hD => by
                  have d_40 : a'.eval (.tmp 91) = .bool (true) := hD 5 91 (by kernel_rfl) rfl
                  have d_41 : a'.eval (.tmp 96) = .bool (true) := hD 10 96 (by kernel_rfl) rfl
                  have e0 : (.bool (! (true == true)) : Value) = .bool (false) := rfl
                  exact .inl ⟨_, _, (o_neB rfl d_40 d_41 (fun _ => by kernel_rfl)), e0, Below.refl _ _⟩)),
(step_ok rfl (fun a' w' hb' hO hD => by
                  have d_42 : a'.eval (.tmp 88) = .bool (false) := hD 2 88 (by kernel_rfl) rfl
                  have d_43 : a'.eval (.tmp 97) = .bool (false) := hD 11 97 (by kernel_rfl) rfl
                  exact .inl ⟨_, _, (o_pickF rfl d_42 d_43), rfl, Below.refl _ _⟩)),
(step_ok rfl (fun a' w' hb' hO hD => by
                  have d_44 : a'.eval (.tmp 98) = .bool (false) := hD 12 98 (by kernel_rfl) rfl
                  exact .inl ⟨_, _, (o_move rfl d_44), rfl, Below.refl _ _⟩)),
(step_yes 13 false 99 rfl rfl (by kernel_rfl) (fun _ _ h => h) (fun a' w' hb' hO hD => by
                  have d_45 : a'.eval (.tmp 19) = .slice ((some ⟨g_5, 0, none⟩)) (1) (c_4) := (hO 19 (by decide)).trans (pe hs_3 rfl rfl)
                  exact .inl ⟨_, _, (o_move rfl d_45), rfl, Below.refl _ _⟩)),
(step_yes 13 false 99 rfl rfl (by kernel_rfl) (fun _ _ h => h) (fun a' w' hb' hO hD => by
                  have d_46 : a'.eval (.tmp 100) = .slice ((some ⟨g_5, 0, none⟩)) (1) (c_4) := hD 14 100 (by kernel_rfl) rfl
                  exact .inl ⟨_, _, (o_lenS rfl d_46), rfl, Below.refl _ _⟩)),
(step_yes 13 false 99 rfl rfl (by kernel_rfl) (fun _ _ h => h) (fun a' w' hb' hO hD => by
                  have d_47 : a'.eval (.tmp 101) = .int .i64 ((1 : Nat) : Int) := hD 15 101 (by kernel_rfl) rfl
                  exact .inl ⟨_, _, (o_eq (o_gtr (m := 1) (n := 1) rfl d_47 rfl) rfl), rfl, Below.refl _ _⟩)),
(step_ok rfl (fun a' w' hb' hO hD => by
                  have d_48 : a'.eval (.tmp 99) = .bool (false) := hD 13 99 (by kernel_rfl) rfl
                  have d_49 : a'.eval (.tmp 102) = .bool (false) := hD 16 102 (by kernel_rfl) rfl
                  exact .inl ⟨_, _, (o_pickF rfl d_48 d_49), rfl, Below.refl _ _⟩)),
(step_ok rfl (fun a' w' hb' hO hD => by
                  have d_50 : a'.eval (.tmp 103) = .bool (false) := hD 17 103 (by kernel_rfl) rfl
                  exact .inl ⟨_, _, (o_move rfl d_50), rfl, Below.refl _ _⟩)),
(step_yes 18 false 104 rfl rfl (by kernel_rfl) (fun _ _ h => h) (fun a' w' hb' hO hD => by
                  have d_51 : a'.eval (.tmp 19) = .slice ((some ⟨g_5, 0, none⟩)) (1) (c_4) := (hO 19 (by decide)).trans (pe hs_3 rfl rfl)
                  exact .inl ⟨_, _, (o_move rfl d_51), rfl, Below.refl _ _⟩)),
(step_yes 18 false 104 rfl rfl (by kernel_rfl) (fun _ _ h => h) (fun a' w' hb' hO hD => by
                  have d_52 : a'.eval (.tmp 105) = .slice ((some ⟨g_5, 0, none⟩)) (1) (c_4) := hD 19 105 (by kernel_rfl) rfl
                  exact .inl ⟨_, _, (o_lenS rfl d_52), rfl, Below.refl _ _⟩)),
(step_yes 18 false 104 rfl rfl (by kernel_rfl) (fun _ _ h => h) (fun a' w' hb' hO hD => by
                  have d_53 : a'.eval (.tmp 106) = .int .i64 ((1 : Nat) : Int) := hD 20 106 (by kernel_rfl) rfl
                  exact .inl ⟨_, _, (o_eq (o_eql (m := 1) (n := 1) rfl d_53 rfl) rfl), rfl, Below.refl _ _⟩)),
(step_yes 18 false 104 rfl rfl (by kernel_rfl) (fun _ _ h => h) (fun a' w' hb' hO hD => by
                  have d_54 : a'.eval (.tmp 107) = .bool (true) := hD 21 107 (by kernel_rfl) rfl
                  exact .inl ⟨_, _, (o_move rfl d_54), rfl, Below.refl _ _⟩)),
(step_yes 22 true 108 rfl rfl (by kernel_rfl) (fun _ _ h => h) (fun a' w' hb' hO hD => by
                  have d_55 : a'.eval (.tmp 19) = .slice ((some ⟨g_5, 0, none⟩)) (1) (c_4) := (hO 19 (by decide)).trans (pe hs_3 rfl rfl)
                  exact .inl ⟨_, _, (o_move rfl d_55), rfl, Below.refl _ _⟩)),
(step_yes 22 true 108 rfl rfl (by kernel_rfl) (fun _ _ h => h) (fun a' w' hb' hO hD => by
                  have d_56 : a'.eval (.tmp 109) = .slice ((some ⟨g_5, 0, none⟩)) (1) (c_4) := hD 23 109 (by kernel_rfl) rfl
                  exact .inl ⟨_, _, (zero_off (o_ixS (off := 0) (i := 0) rfl d_56 rfl (by omega))), rfl, Below.refl _ _⟩)),
(step_yes 22 true 108 rfl rfl (by kernel_rfl) (fun _ _ h => h) (fun a' w' hb' hO hD => by
                  have d_57 : a'.eval (.tmp 110) = .pointer (some ⟨g_5, 0, none⟩) := hD 24 110 (by kernel_rfl) rfl
                  exact .inl ⟨_, _, (o_load1 rfl d_57 (hB_1.nx hb') hcu_1 ⟨by kernel_rfl, by kernel_rfl⟩), rfl, Below.refl _ _⟩)),
(step_yes 22 true 108 rfl rfl (by kernel_rfl) (fun _ _ h => h) (fun a' w' hb' hO hD => by
                  have d_58 : a'.eval (.tmp 111) = .slice p_1.A (p_1.xs.length) (p_1.c) := hD 25 111 (by kernel_rfl) rfl
                  exact .inl ⟨_, _, (o_str rfl d_58 ((hOp_1.nx hb')).bs rfl), rfl, Below.refl _ _⟩)),
(step_yes 22 true 108 rfl rfl (by kernel_rfl) (fun _ _ h => h) (fun a' w' hb' hO hD => by
                  have d_59 : a'.eval (.tmp 15) = .slice A1 (la) (c1) := (hO 15 (by decide)).trans ((pm rfl).trans ta_2_15)
                  exact .inl ⟨_, _, (o_move rfl d_59), rfl, Below.refl _ _⟩)),
(step_yes 22 true 108 rfl rfl (by kernel_rfl) (fun _ _ h => h) (fun a' w' hb' hO hD => by
                  have d_60 : a'.eval (.tmp 113) = .slice A1 (la) (c1) := hD 27 113 (by kernel_rfl) rfl
                  exact .inl ⟨_, _, (o_str rfl d_60 (h1.below (below_from HB_8 hb')) hla), rfl, Below.refl _ _⟩)), trivial⟩ (fun a_4 w_12 hs_9 hd_4 hb_7 hO_2 hV_2 => ?_)
              have ta_4_0 : a_4.eval (.tmp 0) = .slice A0 (m) (c0) := (hO_2 0 (by decide)).trans ((pm rfl).trans ta_2_0)
              have ta_4_1 : a_4.eval (.tmp 1) = .slice A1 (la) (c1) := (hO_2 1 (by decide)).trans ((pm rfl).trans ta_2_1)
              have ta_4_2 : a_4.eval (.tmp 2) = .slice A2 (lb) (c2) := (hO_2 2 (by decide)).trans ((pm rfl).trans ta_2_2)
              have ta_4_21 : a_4.eval (.tmp 21) = .slice A1 (la) (c1) := (hO_2 21 (by decide)).trans ((pm rfl).trans ta_2_21)
              have ta_4_22 : a_4.eval (.tmp 22) = .int .i64 ((la : Nat) : Int) := (hO_2 22 (by decide)).trans ((pm rfl).trans ta_2_22)
              have ta_4_23 : a_4.eval (.tmp 23) = .bool (false) := (hO_2 23 (by decide)).trans ((pm rfl).trans ta_2_23)
              have ta_4_24 : a_4.eval (.tmp 24) = .bool (false) := (hO_2 24 (by decide)).trans ((pm rfl).trans ta_2_24)
              have ta_4_25 : a_4.eval (.tmp 25) = .slice A2 (lb) (c2) := (hO_2 25 (by decide)).trans ((pm rfl).trans ta_2_25)
              have ta_4_26 : a_4.eval (.tmp 26) = .int .i64 ((lb : Nat) : Int) := (hO_2 26 (by decide)).trans ((pm rfl).trans ta_2_26)
              have ta_4_27 : a_4.eval (.tmp 27) = .bool (false) := (hO_2 27 (by decide)).trans ((pm rfl).trans ta_2_27)
              have ta_4_28 : a_4.eval (.tmp 28) = .bool (false) := (hO_2 28 (by decide)).trans ((pm rfl).trans ta_2_28)
              have ta_4_30 : a_4.eval (.tmp 30) = .slice A0 (m) (c0) := (hO_2 30 (by decide)).trans ((pm rfl).trans ta_2_30)
              have ta_4_31 : a_4.eval (.tmp 31) = .slice A_1 (32) (c_1) := (hO_2 31 (by decide)).trans ((pm rfl).trans ta_2_31)
              have ta_4_7 : a_4.eval (.tmp 7) = .slice A_1 (32) (c_1) := (hO_2 7 (by decide)).trans ((pm rfl).trans ta_2_7)
              have ta_4_33 : a_4.eval (.tmp 33) = .slice A_1 (32) (c_1) := (hO_2 33 (by decide)).trans ((pm rfl).trans ta_2_33)
              have ta_4_34 : a_4.eval (.tmp 34) = .tuple #[.pointer (some ⟨g_1, 0, none⟩), .int .i64 ((0 : Nat) : Int)] := (hO_2 34 (by decide)).trans ((pm rfl).trans ta_2_34)
              have ta_4_32 : a_4.eval (.tmp 32) = .tuple #[.pointer (some ⟨g_1, 0, none⟩), .int .i64 ((0 : Nat) : Int)] := (hO_2 32 (by decide)).trans ((pm rfl).trans ta_2_32)
              have ta_4_35 : a_4.eval (.tmp 35) = .pointer (some ⟨g_1, 0, none⟩) := (hO_2 35 (by decide)).trans ((pm rfl).trans ta_2_35)
              have ta_4_36 : a_4.eval (.tmp 36) = .int .i64 ((0 : Nat) : Int) := (hO_2 36 (by decide)).trans ((pm rfl).trans ta_2_36)
              have ta_4_8 : a_4.eval (.tmp 8) = .pointer (some ⟨g_1, 0, none⟩) := (hO_2 8 (by decide)).trans ((pm rfl).trans ta_2_8)
              have ta_4_9 : a_4.eval (.tmp 9) = .int .i64 ((0 : Nat) : Int) := (hO_2 9 (by decide)).trans ((pm rfl).trans ta_2_9)
              have ta_4_38 : a_4.eval (.tmp 38) = .slice A_1 (32) (c_1) := (hO_2 38 (by decide)).trans ((pm rfl).trans ta_2_38)
              have ta_4_39 : a_4.eval (.tmp 39) = .tuple #[.pointer (some ⟨g_2, 0, none⟩), .int .i64 ((0 : Nat) : Int)] := (hO_2 39 (by decide)).trans ((pm rfl).trans ta_2_39)
              have ta_4_37 : a_4.eval (.tmp 37) = .tuple #[.pointer (some ⟨g_2, 0, none⟩), .int .i64 ((0 : Nat) : Int)] := (hO_2 37 (by decide)).trans ((pm rfl).trans ta_2_37)
              have ta_4_40 : a_4.eval (.tmp 40) = .pointer (some ⟨g_2, 0, none⟩) := (hO_2 40 (by decide)).trans ((pm rfl).trans ta_2_40)
              have ta_4_41 : a_4.eval (.tmp 41) = .int .i64 ((0 : Nat) : Int) := (hO_2 41 (by decide)).trans ((pm rfl).trans ta_2_41)
              have ta_4_10 : a_4.eval (.tmp 10) = .pointer (some ⟨g_2, 0, none⟩) := (hO_2 10 (by decide)).trans ((pm rfl).trans ta_2_10)
              have ta_4_11 : a_4.eval (.tmp 11) = .int .i64 ((0 : Nat) : Int) := (hO_2 11 (by decide)).trans ((pm rfl).trans ta_2_11)
              have ta_4_42 : a_4.eval (.tmp 42) = .int .i64 ((0 : Nat) : Int) := (hO_2 42 (by decide)).trans ((pm rfl).trans ta_2_42)
              have ta_4_43 : a_4.eval (.tmp 43) = .bool (false) := (hO_2 43 (by decide)).trans ((pm rfl).trans ta_2_43)
              have ta_4_44 : a_4.eval (.tmp 44) = .bool (false) := (hO_2 44 (by decide)).trans ((pm rfl).trans ta_2_44)
              have ta_4_45 : a_4.eval (.tmp 45) = .int .i64 ((0 : Nat) : Int) := (hO_2 45 (by decide)).trans ((pm rfl).trans ta_2_45)
              have ta_4_46 : a_4.eval (.tmp 46) = .bool (false) := (hO_2 46 (by decide)).trans ((pm rfl).trans ta_2_46)
              have ta_4_47 : a_4.eval (.tmp 47) = .bool (false) := (hO_2 47 (by decide)).trans ((pm rfl).trans ta_2_47)
              have ta_4_48 : a_4.eval (.tmp 48) = .pointer (some ⟨g_1, 0, none⟩) := (hO_2 48 (by decide)).trans ((pm rfl).trans ta_2_48)
              have ta_4_49 : a_4.eval (.tmp 49) = .pointer (some ⟨g_3, 0, none⟩) := (hO_2 49 (by decide)).trans ((pm rfl).trans ta_2_49)
              have ta_4_50 : a_4.eval (.tmp 50) = .pointer (some ⟨g_2, 0, none⟩) := (hO_2 50 (by decide)).trans ((pm rfl).trans ta_2_50)
              have ta_4_51 : a_4.eval (.tmp 51) = .pointer (some ⟨g_4, 0, none⟩) := (hO_2 51 (by decide)).trans ((pm rfl).trans ta_2_51)
              have ta_4_12 : a_4.eval (.tmp 12) = .pointer (some ⟨g_3, 0, none⟩) := (hO_2 12 (by decide)).trans ((pm rfl).trans ta_2_12)
              have ta_4_13 : a_4.eval (.tmp 13) = .pointer (some ⟨g_4, 0, none⟩) := (hO_2 13 (by decide)).trans ((pm rfl).trans ta_2_13)
              have ta_4_52 : a_4.eval (.tmp 52) = .slice A1 (la) (c1) := (hO_2 52 (by decide)).trans ((pm rfl).trans ta_2_52)
              have ta_4_53 : a_4.eval (.tmp 53) = .slice A2 (lb) (c2) := (hO_2 53 (by decide)).trans ((pm rfl).trans ta_2_53)
              have ta_4_54 : a_4.eval (.tmp 54) = .agg #[.slice A1 (la) (c1), .slice A2 (lb) (c2)] := (hO_2 54 (by decide)).trans ((pm rfl).trans ta_2_54)
              have ta_4_55 : a_4.eval (.tmp 55) = .int .i64 ((0 : Nat) : Int) := (hO_2 55 (by decide)).trans ((pm rfl).trans ta_2_55)
              have ta_4_56 : a_4.eval (.tmp 56) = .bool (decide (0 < 2)) := (hO_2 56 (by decide)).trans ((pm rfl).trans ta_2_56)
              have ta_4_57 : a_4.eval (.tmp 57) = .slice A1 (la) (c1) := (hO_2 57 (by decide)).trans ((pm rfl).trans ta_2_57)
              have ta_4_15 : a_4.eval (.tmp 15) = .slice A1 (la) (c1) := (hO_2 15 (by decide)).trans ((pm rfl).trans ta_2_15)
              have ta_4_59 : a_4.eval (.tmp 59) = .pointer (some ⟨g_3, 0, none⟩) := (hO_2 59 (by decide)).trans ((pm rfl).trans ta_2_59)
              have ta_4_60 : a_4.eval (.tmp 60) = .slice A1 (la) (c1) := (hO_2 60 (by decide)).trans ((pm rfl).trans ta_2_60)
              have ta_4_61 : a_4.eval (.tmp 61) = .tuple #[.slice A_2 (sizeN la + 34) (c_2), .int .i64 ((0 : Nat) : Int)] := (hO_2 61 (by decide)).trans ((pm rfl).trans ta_2_61)
              have ta_4_58 : a_4.eval (.tmp 58) = .tuple #[.slice A_2 (sizeN la + 34) (c_2), .int .i64 ((0 : Nat) : Int)] := (hO_2 58 (by decide)).trans ((pm rfl).trans ta_2_58)
              have ta_4_62 : a_4.eval (.tmp 62) = .slice A_2 (sizeN la + 34) (c_2) := (hO_2 62 (by decide)).trans ((pm rfl).trans ta_2_62)
              have ta_4_63 : a_4.eval (.tmp 63) = .int .i64 ((0 : Nat) : Int) := (hO_2 63 (by decide)).trans ((pm rfl).trans ta_2_63)
              have ta_4_16 : a_4.eval (.tmp 16) = .slice A_2 (sizeN la + 34) (c_2) := (hO_2 16 (by decide)).trans ((pm rfl).trans ta_2_16)
              have ta_4_17 : a_4.eval (.tmp 17) = .int .i64 ((0 : Nat) : Int) := (hO_2 17 (by decide)).trans ((pm rfl).trans ta_2_17)
              have ta_4_64 : a_4.eval (.tmp 64) = .int .i64 ((0 : Nat) : Int) := (hO_2 64 (by decide)).trans ((pm rfl).trans ta_2_64)
              have ta_4_65 : a_4.eval (.tmp 65) = .bool (false) := (hO_2 65 (by decide)).trans ((pm rfl).trans ta_2_65)
              have ta_4_66 : a_4.eval (.tmp 66) = .bool (false) := (hO_2 66 (by decide)).trans ((pm rfl).trans ta_2_66)
              have ta_4_67 : a_4.eval (.tmp 67) = .slice A_2 (sizeN la + 34) (c_2) := (hO_2 67 (by decide)).trans ((pm rfl).trans ta_2_67)
              have ta_4_68 : a_4.eval (.tmp 68) = .int .i64 ((sizeN la + 34 : Nat) : Int) := (hO_2 68 (by decide)).trans ((pm rfl).trans ta_2_68)
              have ta_4_69 : a_4.eval (.tmp 69) = .bool (false) := (hO_2 69 (by decide)).trans ((pm rfl).trans ta_2_69)
              have ta_4_70 : a_4.eval (.tmp 70) = .bool (false) := (hO_2 70 (by decide)).trans ((pm rfl).trans ta_2_70)
              have ta_4_71 : a_4.eval (.tmp 71) = .slice A_2 (sizeN la + 34) (c_2) := (hO_2 71 (by decide)).trans ((pm rfl).trans ta_2_71)
              have ta_4_72 : a_4.eval (.tmp 72) = .int .i64 ((sizeN la + 34 : Nat) : Int) := (hO_2 72 (by decide)).trans ((pm rfl).trans ta_2_72)
              have ta_4_73 : a_4.eval (.tmp 73) = .int .i64 ((J : Nat) : Int) := (hO_2 73 (by decide)).trans ((pm rfl).trans ta_2_73)
              have ta_4_74 : a_4.eval (.tmp 74) = .bool (decide (J < (sizeN la + 34))) := (hO_2 74 (by decide)).trans (pe hs_3 rfl rfl)
              have ta_4_75 : a_4.eval (.tmp 75) = .int .i64 ((J : Nat) : Int) := (hO_2 75 (by decide)).trans (pe hs_3 rfl rfl)
              have ta_4_18 : a_4.eval (.tmp 18) = .int .i64 ((J : Nat) : Int) := (hO_2 18 (by decide)).trans (pe hs_3 rfl rfl)
              have ta_4_77 : a_4.eval (.tmp 77) = .pointer (some ⟨g_4, 0, none⟩) := (hO_2 77 (by decide)).trans (pe hs_3 rfl rfl)
              have ta_4_78 : a_4.eval (.tmp 78) = .slice A_2 (sizeN la + 34) (c_2) := (hO_2 78 (by decide)).trans (pe hs_3 rfl rfl)
              have ta_4_79 : a_4.eval (.tmp 79) = .int .i64 ((J : Nat) : Int) := (hO_2 79 (by decide)).trans (pe hs_3 rfl rfl)
              have ta_4_80 : a_4.eval (.tmp 80) = .int .i64 ((J : Nat) : Int) := (hO_2 80 (by decide)).trans (pe hs_3 rfl rfl)
              have ta_4_81 : a_4.eval (.tmp 81) = .int .i64 ((J + 1 : Nat) : Int) := (hO_2 81 (by decide)).trans (pe hs_3 rfl rfl)
              have ta_4_82 : a_4.eval (.tmp 82) = .slice ((subA A_2 J c_2)) ((J + 1) - J) (c_2 - J) := (hO_2 82 (by decide)).trans (pe hs_3 rfl rfl)
              have ta_4_83 : a_4.eval (.tmp 83) = .tuple #[.slice ((some ⟨g_5, 0, none⟩)) (1) (c_4), .int .i64 ((0 : Nat) : Int)] := (hO_2 83 (by decide)).trans (pe hs_3 rfl rfl)
              have ta_4_76 : a_4.eval (.tmp 76) = .tuple #[.slice ((some ⟨g_5, 0, none⟩)) (1) (c_4), .int .i64 ((0 : Nat) : Int)] := (hO_2 76 (by decide)).trans (pe hs_3 rfl rfl)
              have ta_4_84 : a_4.eval (.tmp 84) = .slice ((some ⟨g_5, 0, none⟩)) (1) (c_4) := (hO_2 84 (by decide)).trans (pe hs_3 rfl rfl)
              have ta_4_85 : a_4.eval (.tmp 85) = .int .i64 ((0 : Nat) : Int) := (hO_2 85 (by decide)).trans (pe hs_3 rfl rfl)
              have ta_4_19 : a_4.eval (.tmp 19) = .slice ((some ⟨g_5, 0, none⟩)) (1) (c_4) := (hO_2 19 (by decide)).trans (pe hs_3 rfl rfl)
              have ta_4_20 : a_4.eval (.tmp 20) = .int .i64 ((0 : Nat) : Int) := (hO_2 20 (by decide)).trans (pe hs_3 rfl rfl)
              clear ta_2_0 ta_2_1 ta_2_2 ta_2_21 ta_2_22 ta_2_23 ta_2_24 ta_2_25 ta_2_26 ta_2_27 ta_2_28 ta_2_30 ta_2_31 ta_2_7 ta_2_33 ta_2_34 ta_2_32 ta_2_35 ta_2_36 ta_2_8 ta_2_9 ta_2_38 ta_2_39 ta_2_37 ta_2_40 ta_2_41 ta_2_10 ta_2_11 ta_2_42 ta_2_43 ta_2_44 ta_2_45 ta_2_46 ta_2_47 ta_2_48 ta_2_49 ta_2_50 ta_2_51 ta_2_12 ta_2_13 ta_2_52 ta_2_53 ta_2_54 ta_2_55 ta_2_56 ta_2_57 ta_2_15 ta_2_59 ta_2_60 ta_2_61 ta_2_58 ta_2_62 ta_2_63 ta_2_16 ta_2_17 ta_2_64 ta_2_65 ta_2_66 ta_2_67 ta_2_68 ta_2_69 ta_2_70 ta_2_71 ta_2_72 ta_2_73 hd_2
              replace hMw0 := hMw0.nx hb_7
              replace hMx0 := hMx0.nx hb_7
              replace hR_10 := hR_10.nx hb_7
              replace hRw_2 := hRw_2.nx hb_7
              replace hAO_2 := hAO_2.nx hb_7
              replace hB_1 := hB_1.nx hb_7
              replace hOp_1 := hOp_1.nx hb_7
              have HB_9 := below_from HB_8 hb_7
              have ta_4_86 : a_4.eval (.tmp 86) = .int .i64 ((0 : Nat) : Int) := hV_2 0 86 rfl rfl
              have ta_4_87 : a_4.eval (.tmp 87) = .bool (false) := hV_2 1 87 rfl rfl
              have ta_4_88 : a_4.eval (.tmp 88) = .bool (false) := hV_2 2 88 rfl rfl
              have ta_4_89 : a_4.eval (.tmp 89) = .slice ((some ⟨g_5, 0, none⟩)) (1) (c_4) := hV_2 3 89 rfl rfl
              have ta_4_90 : a_4.eval (.tmp 90) = .int .i64 ((1 : Nat) : Int) := hV_2 4 90 rfl rfl
              have ta_4_91 : a_4.eval (.tmp 91) = .bool (true) := hV_2 5 91 rfl rfl
              have ta_4_92 : a_4.eval (.tmp 92) = .int .i64 ((J : Nat) : Int) := hV_2 6 92 rfl rfl
              have ta_4_93 : a_4.eval (.tmp 93) = .slice A_2 (sizeN la + 34) (c_2) := hV_2 7 93 rfl rfl
              have ta_4_94 : a_4.eval (.tmp 94) = .int .i64 ((sizeN la + 34 : Nat) : Int) := hV_2 8 94 rfl rfl
              have ta_4_95 : a_4.eval (.tmp 95) = .int .i64 (((sizeN la + 34) - 1 : Nat) : Int) := hV_2 9 95 rfl rfl
              have ta_4_96 : a_4.eval (.tmp 96) = .bool (true) := hV_2 10 96 rfl rfl
              have ta_4_97 : a_4.eval (.tmp 97) = .bool (false) := hV_2 11 97 rfl rfl
              have ta_4_98 : a_4.eval (.tmp 98) = .bool (false) := hV_2 12 98 rfl rfl
              have ta_4_99 : a_4.eval (.tmp 99) = .bool (false) := hV_2 13 99 rfl rfl
              have ta_4_100 : a_4.eval (.tmp 100) = .slice ((some ⟨g_5, 0, none⟩)) (1) (c_4) := hV_2 14 100 rfl rfl
              have ta_4_101 : a_4.eval (.tmp 101) = .int .i64 ((1 : Nat) : Int) := hV_2 15 101 rfl rfl
              have ta_4_102 : a_4.eval (.tmp 102) = .bool (false) := hV_2 16 102 rfl rfl
              have ta_4_103 : a_4.eval (.tmp 103) = .bool (false) := hV_2 17 103 rfl rfl
              have ta_4_104 : a_4.eval (.tmp 104) = .bool (false) := hV_2 18 104 rfl rfl
              have ta_4_105 : a_4.eval (.tmp 105) = .slice ((some ⟨g_5, 0, none⟩)) (1) (c_4) := hV_2 19 105 rfl rfl
              have ta_4_106 : a_4.eval (.tmp 106) = .int .i64 ((1 : Nat) : Int) := hV_2 20 106 rfl rfl
              have ta_4_107 : a_4.eval (.tmp 107) = .bool (true) := hV_2 21 107 rfl rfl
              have ta_4_108 : a_4.eval (.tmp 108) = .bool (true) := hV_2 22 108 rfl rfl
              have ta_4_109 : a_4.eval (.tmp 109) = .slice ((some ⟨g_5, 0, none⟩)) (1) (c_4) := hV_2 23 109 rfl rfl
              have ta_4_110 : a_4.eval (.tmp 110) = .pointer (some ⟨g_5, 0, none⟩) := hV_2 24 110 rfl rfl
              have ta_4_111 : a_4.eval (.tmp 111) = .slice p_1.A (p_1.xs.length) (p_1.c) := hV_2 25 111 rfl rfl
              have ta_4_112 : a_4.eval (.tmp 112) = .string (strB p_1.xs) := hV_2 26 112 rfl rfl
              have ta_4_113 : a_4.eval (.tmp 113) = .slice A1 (la) (c1) := hV_2 27 113 rfl rfl
              have ta_4_114 : a_4.eval (.tmp 114) = .string (strB xa) := hV_2 28 114 rfl rfl
              clear hV_2 hO_2
              simp only [List.drop_succ_cons, List.drop_zero]
              refine op_valG (e := 108) (d := 115) (v := .bool (false)) rfl rfl (by kernel_rfl) ((pm rfl).trans ta_4_108) (o_neS rfl ((pm rfl).trans ta_4_112) ((pm rfl).trans ta_4_114) (by rw [hp_1])) ?_
              refine op_valG (e := 104) (d := 116) (v := .bool (false)) rfl rfl (by kernel_rfl) ((pm rfl).trans ta_4_104) (o_pickT rfl ((pm rfl).trans ta_4_108) (pe hs_9 rfl rfl)) ?_
              refine op_val (d := 117) (v := .bool (false)) rfl rfl (o_pickF rfl ((pm rfl).trans ta_4_104) (pe hs_9 rfl rfl)) ?_
              refine x_nil ?_
              refine hK_32 _ _ ?_
              refine w2_condF (pe hs_9 rfl rfl) ?_
              refine w2_skip ?_
              refine hK_28 _ _ ?_
              refine hK_27 _ _ ?_
              refine x_region (by kernel_rfl) ?_
              refine op_val (d := 118) (v := .int .i64 ((J + 1 : Nat) : Int)) rfl rfl (o_add64 (m := J) (n := 1) rfl ((pm rfl).trans ta_4_73) rfl (by omega)) ?_
              refine op_val (d := 73) (v := .int .i64 ((J + 1 : Nat) : Int)) rfl rfl (o_move rfl (pe hs_9 rfl rfl)) ?_
              refine x_nil ?_
              refine hK_24 _ _ _ ⟨J + 1, M_7, rfl, (by rw [putsR_size]; exact hs_9), (by rw [putsR_defers]; exact hd_4), ((pm rfl).trans ta_4_0), ((pm rfl).trans ta_4_1), ((pm rfl).trans ta_4_2), ((pm rfl).trans ta_4_7), ((pm rfl).trans ta_4_8), ((pm rfl).trans ta_4_9), ((pm rfl).trans ta_4_10), ((pm rfl).trans ta_4_11), ((pm rfl).trans ta_4_12), ((pm rfl).trans ta_4_13), ((pm rfl).trans ta_4_15), ((pm rfl).trans ta_4_16), ((pm rfl).trans ta_4_17), ((pm rfl).trans ta_4_21), ((pm rfl).trans ta_4_22), ((pm rfl).trans ta_4_23), ((pm rfl).trans ta_4_24), ((pm rfl).trans ta_4_25), ((pm rfl).trans ta_4_26), ((pm rfl).trans ta_4_27), ((pm rfl).trans ta_4_28), ((pm rfl).trans ta_4_30), ((pm rfl).trans ta_4_31), ((pm rfl).trans ta_4_32), ((pm rfl).trans ta_4_33), ((pm rfl).trans ta_4_34), ((pm rfl).trans ta_4_35), ((pm rfl).trans ta_4_36), ((pm rfl).trans ta_4_37), ((pm rfl).trans ta_4_38), ((pm rfl).trans ta_4_39), ((pm rfl).trans ta_4_40), ((pm rfl).trans ta_4_41), ((pm rfl).trans ta_4_42), ((pm rfl).trans ta_4_43), ((pm rfl).trans ta_4_44), ((pm rfl).trans ta_4_45), ((pm rfl).trans ta_4_46), ((pm rfl).trans ta_4_47), ((pm rfl).trans ta_4_48), ((pm rfl).trans ta_4_49), ((pm rfl).trans ta_4_50), ((pm rfl).trans ta_4_51), ((pm rfl).trans ta_4_52), ((pm rfl).trans ta_4_53), ((pm rfl).trans ta_4_54), ((pm rfl).trans ta_4_55), ((pm rfl).trans ta_4_56), ((pm rfl).trans ta_4_57), ((pm rfl).trans ta_4_58), ((pm rfl).trans ta_4_59), ((pm rfl).trans ta_4_60), ((pm rfl).trans ta_4_61), ((pm rfl).trans ta_4_62), ((pm rfl).trans ta_4_63), ((pm rfl).trans ta_4_64), ((pm rfl).trans ta_4_65), ((pm rfl).trans ta_4_66), ((pm rfl).trans ta_4_67), ((pm rfl).trans ta_4_68), ((pm rfl).trans ta_4_69), ((pm rfl).trans ta_4_70), ((pm rfl).trans ta_4_71), ((pm rfl).trans ta_4_72), (pe hs_9 rfl rfl), (by omega), hMw0, (by rw [hJl, ← hl_1, piece_all _ (by omega)]; exact hR_10), hMx0, sp_12, sp_15, gg_7, HB_9⟩ ?_
              omega
          · simp only [decide_eq_true_eq, decide_eq_false_iff_not, Bool.not_eq_true', Bool.not_eq_false', Bool.not_true, Bool.not_false, Nat.not_lt, Nat.not_le] at h_2
            obtain rfl : J = sizeN la + 34 := by omega
            rw [← hl_1, piece_all _ (by omega)] at hMr0
            refine w2_exit ?_
            refine thn_exit ?_
            refine thn_exit ?_
            refine exb_hit ?_
            refine hK_23 _ _ ?_
            refine hK_17 _ _ ?_
            refine hK_16 _ _ ?_
            refine x_region (by kernel_rfl) ?_
            refine op_val (d := 119) (v := .int .i64 ((0 + 1 : Nat) : Int)) rfl rfl (o_add64 (m := 0) (n := 1) rfl ((pm rfl).trans ta_2_55) rfl (by omega)) ?_
            refine op_val (d := 55) (v := .int .i64 ((0 + 1 : Nat) : Int)) rfl rfl (o_move rfl (pe hs_3 rfl rfl)) ?_
            refine x_nil ?_
            refine hK_13 _ _ _ ⟨1, M_5, Mq, rfl, (by rw [putsR_size]; exact hs_3), (by rw [putsR_defers]; exact hd_2), ((pm rfl).trans ta_2_0), ((pm rfl).trans ta_2_1), ((pm rfl).trans ta_2_2), ((pm rfl).trans ta_2_7), ((pm rfl).trans ta_2_8), ((pm rfl).trans ta_2_9), ((pm rfl).trans ta_2_10), ((pm rfl).trans ta_2_11), ((pm rfl).trans ta_2_12), ((pm rfl).trans ta_2_13), ((pm rfl).trans ta_2_21), ((pm rfl).trans ta_2_22), ((pm rfl).trans ta_2_23), ((pm rfl).trans ta_2_24), ((pm rfl).trans ta_2_25), ((pm rfl).trans ta_2_26), ((pm rfl).trans ta_2_27), ((pm rfl).trans ta_2_28), ((pm rfl).trans ta_2_30), ((pm rfl).trans ta_2_31), ((pm rfl).trans ta_2_32), ((pm rfl).trans ta_2_33), ((pm rfl).trans ta_2_34), ((pm rfl).trans ta_2_35), ((pm rfl).trans ta_2_36), ((pm rfl).trans ta_2_37), ((pm rfl).trans ta_2_38), ((pm rfl).trans ta_2_39), ((pm rfl).trans ta_2_40), ((pm rfl).trans ta_2_41), ((pm rfl).trans ta_2_42), ((pm rfl).trans ta_2_43), ((pm rfl).trans ta_2_44), ((pm rfl).trans ta_2_45), ((pm rfl).trans ta_2_46), ((pm rfl).trans ta_2_47), ((pm rfl).trans ta_2_48), ((pm rfl).trans ta_2_49), ((pm rfl).trans ta_2_50), ((pm rfl).trans ta_2_51), ((pm rfl).trans ta_2_52), ((pm rfl).trans ta_2_53), ((pm rfl).trans ta_2_54), (pe hs_3 rfl rfl), (by omega), (by rw [show putsL co ([xa, xb].take 1) = P0.put from by rw [hP0]; rfl]; exact hMw0), (by rw [show putsL co ([xa, xb].take 1) = P0.put from by rw [hP0]; rfl]; exact hMr0), sMwr, gg_5, gMr, HBM⟩ ?_
            omega
      · skip
        obtain ⟨P1, hP1⟩ : ∃ q, q = putsL co ([xa, xb].take 1) := ⟨_, rfl⟩
        rw [← hP1] at hLw hLr hPn hPc
        refine x_region (by kernel_rfl) ?_
        refine op_val (d := 57) (v := .slice A2 (lb) (c2)) rfl rfl (o_idxL (n := 2) (i := 1) (e := 22) rfl ((pm rfl).trans ta_1_54) ((pm rfl).trans ta_1_55) (by decide) rfl (fun _ => by kernel_rfl) ⟨by kernel_rfl, by kernel_rfl⟩) ?_
        refine op_val (d := 15) (v := .slice A2 (lb) (c2)) rfl rfl (o_assign rfl (pe hs_1 rfl rfl)) ?_
        refine x_nil ?_
        refine hK_18 _ _ ?_
        refine w2_seq (fun K_33 hK_33 => ?_)
        refine x_region (by kernel_rfl) ?_
        refine op_val (d := 59) (v := .pointer (some ⟨g_3, 0, none⟩)) rfl rfl (o_move rfl ((pm rfl).trans ta_1_12)) ?_
        refine op_val (d := 60) (v := .slice A2 (lb) (c2)) rfl rfl (o_move rfl (pe hs_1 rfl rfl)) ?_
        refine op_call (vs := #[.pointer (some ⟨g_3, 0, none⟩), .slice A2 (lb) (c2)]) rfl rfl (exec_call Try.func38 (by kernel_rfl) (by kernel_rfl) _ rfl _ _ (args2 (pe hs_1 rfl rfl) (pe hs_1 rfl rfl))) (Put_any _ hLw (h2.below HBL) hlb (by omega) (by omega) (by omega)) (fun e_9 w_13 hR_11 => ?_)
        obtain ⟨A_5, c_5, rfl, ho_3, ⟨M_8, hW_4, hN_6, hs_10⟩, hX_4⟩ := hR_11
        have hl_2 : (recL P1 xb).length = sizeN lb + 34 := by rw [recL_length _ (by have h9 : (xb).length = lb := hlb; omega)]; rw [show (xb).length = lb from hlb]
        have sp_18 : Sep Mr M_8 := hN_6.sep (sLwr.symm) hLr.lt
        have sp_19 : Sep (blkA A_5) Mr := (Sep.new hLr.lt ho_3.ge').symm
        replace hLr := hLr.keepM hX_4 (sLwr.symm)
        have gg_8 := hN_6.ge gLw HBL.size
        replace ho_3 := ho_3.mono HBL.size
        have HB_10 := hX_4.below HBL HBL.size gLw
        refine ⟨_, rfl, ?_⟩
        refine op_val (d := 58) (v := .tuple #[.slice A_5 (sizeN lb + 34) (c_5), .int .i64 ((0 : Nat) : Int)]) rfl rfl (o_move rfl (pe hs_1 rfl rfl)) ?_
        refine op_val (d := 62) (v := .slice A_5 (sizeN lb + 34) (c_5)) rfl rfl (o_extract rfl (pe hs_1 rfl rfl) rfl) ?_
        refine op_val (d := 63) (v := .int .i64 ((0 : Nat) : Int)) rfl rfl (o_extract rfl (pe hs_1 rfl rfl) rfl) ?_
        refine op_val (d := 16) (v := .slice A_5 (sizeN lb + 34) (c_5)) rfl rfl (o_assign rfl (pe hs_1 rfl rfl)) ?_
        refine op_val (d := 17) (v := .int .i64 ((0 : Nat) : Int)) rfl rfl (o_assign rfl (pe hs_1 rfl rfl)) ?_
        refine x_nil ?_
        refine hK_33 _ _ ?_
        refine w2_seq (fun K_34 hK_34 => ?_)
        refine w2_seq (fun K_35 hK_35 => ?_)
        refine x_region (by kernel_rfl) ?_
        refine op_val (d := 64) (v := .int .i64 ((0 : Nat) : Int)) rfl rfl (o_move rfl (pe hs_1 rfl rfl)) ?_
        refine op_val (d := 65) (v := .bool (false)) rfl rfl (o_eq (o_neq (m := 0) (n := 0) rfl (pe hs_1 rfl rfl) rfl) rfl) ?_
        refine op_val (d := 66) (v := .bool (false)) rfl rfl (o_move rfl (pe hs_1 rfl rfl)) ?_
        refine op_valG (e := 66) (d := 67) (v := .slice A_5 (sizeN lb + 34) (c_5)) rfl rfl (by kernel_rfl) (pe hs_1 rfl rfl) (o_move rfl (pe hs_1 rfl rfl)) ?_
        refine op_valG (e := 66) (d := 68) (v := .int .i64 ((sizeN lb + 34 : Nat) : Int)) rfl rfl (by kernel_rfl) (pe hs_1 rfl rfl) (o_len rfl (pe hs_1 rfl rfl)) ?_
        refine op_valG (e := 66) (d := 69) (v := .bool (false)) rfl rfl (by kernel_rfl) (pe hs_1 rfl rfl) (o_eq (o_lss (m := (sizeN lb + 34)) (n := 98) rfl (pe hs_1 rfl rfl) rfl) (by rw [decide_eq_false (by omega)])) ?_
        refine op_val (d := 70) (v := .bool (false)) rfl rfl (o_pickF rfl (pe hs_1 rfl rfl) (pe hs_1 rfl rfl)) ?_
        refine x_nil ?_
        refine hK_35 _ _ ?_
        refine w2_condF (pe hs_1 rfl rfl) ?_
        refine w2_skip ?_
        refine hK_34 _ _ ?_
        refine w2_seq (fun K_36 hK_36 => ?_)
        refine x_region (by kernel_rfl) ?_
        refine op_val (d := 71) (v := .slice A_5 (sizeN lb + 34) (c_5)) rfl rfl (o_move rfl (pe hs_1 rfl rfl)) ?_
        refine op_val (d := 72) (v := .int .i64 ((sizeN lb + 34 : Nat) : Int)) rfl rfl (o_len rfl (pe hs_1 rfl rfl)) ?_
        refine op_val (d := 73) (v := .int .i64 ((0 : Nat) : Int)) rfl rfl (o_move rfl rfl) ?_
        refine x_nil ?_
        refine hK_36 _ _ ?_
        refine w2_block (fun K_37 hK_37 => ?_)
        refine x_loop (fun nn aa ww => ∃ (J : Nat) (Mq : Nat → Prop), nn = sizeN lb + 34 - J ∧ aa.tmps.size = 126 ∧ aa.defers = [] ∧ aa.eval (.tmp 0) = .slice A0 (m) (c0) ∧ aa.eval (.tmp 1) = .slice A1 (la) (c1) ∧ aa.eval (.tmp 2) = .slice A2 (lb) (c2) ∧ aa.eval (.tmp 7) = .slice A_1 (32) (c_1) ∧ aa.eval (.tmp 8) = .pointer (some ⟨g_1, 0, none⟩) ∧ aa.eval (.tmp 9) = .int .i64 ((0 : Nat) : Int) ∧ aa.eval (.tmp 10) = .pointer (some ⟨g_2, 0, none⟩) ∧ aa.eval (.tmp 11) = .int .i64 ((0 : Nat) : Int) ∧ aa.eval (.tmp 12) = .pointer (some ⟨g_3, 0, none⟩) ∧ aa.eval (.tmp 13) = .pointer (some ⟨g_4, 0, none⟩) ∧ aa.eval (.tmp 15) = .slice A2 (lb) (c2) ∧ aa.eval (.tmp 16) = .slice A_5 (sizeN lb + 34) (c_5) ∧ aa.eval (.tmp 17) = .int .i64 ((0 : Nat) : Int) ∧ aa.eval (.tmp 21) = .slice A1 (la) (c1) ∧ aa.eval (.tmp 22) = .int .i64 ((la : Nat) : Int) ∧ aa.eval (.tmp 23) = .bool (false) ∧ aa.eval (.tmp 24) = .bool (false) ∧ aa.eval (.tmp 25) = .slice A2 (lb) (c2) ∧ aa.eval (.tmp 26) = .int .i64 ((lb : Nat) : Int) ∧ aa.eval (.tmp 27) = .bool (false) ∧ aa.eval (.tmp 28) = .bool (false) ∧ aa.eval (.tmp 30) = .slice A0 (m) (c0) ∧ aa.eval (.tmp 31) = .slice A_1 (32) (c_1) ∧ aa.eval (.tmp 32) = .tuple #[.pointer (some ⟨g_1, 0, none⟩), .int .i64 ((0 : Nat) : Int)] ∧ aa.eval (.tmp 33) = .slice A_1 (32) (c_1) ∧ aa.eval (.tmp 34) = .tuple #[.pointer (some ⟨g_1, 0, none⟩), .int .i64 ((0 : Nat) : Int)] ∧ aa.eval (.tmp 35) = .pointer (some ⟨g_1, 0, none⟩) ∧ aa.eval (.tmp 36) = .int .i64 ((0 : Nat) : Int) ∧ aa.eval (.tmp 37) = .tuple #[.pointer (some ⟨g_2, 0, none⟩), .int .i64 ((0 : Nat) : Int)] ∧ aa.eval (.tmp 38) = .slice A_1 (32) (c_1) ∧ aa.eval (.tmp 39) = .tuple #[.pointer (some ⟨g_2, 0, none⟩), .int .i64 ((0 : Nat) : Int)] ∧ aa.eval (.tmp 40) = .pointer (some ⟨g_2, 0, none⟩) ∧ aa.eval (.tmp 41) = .int .i64 ((0 : Nat) : Int) ∧ aa.eval (.tmp 42) = .int .i64 ((0 : Nat) : Int) ∧ aa.eval (.tmp 43) = .bool (false) ∧ aa.eval (.tmp 44) = .bool (false) ∧ aa.eval (.tmp 45) = .int .i64 ((0 : Nat) : Int) ∧ aa.eval (.tmp 46) = .bool (false) ∧ aa.eval (.tmp 47) = .bool (false) ∧ aa.eval (.tmp 48) = .pointer (some ⟨g_1, 0, none⟩) ∧ aa.eval (.tmp 49) = .pointer (some ⟨g_3, 0, none⟩) ∧ aa.eval (.tmp 50) = .pointer (some ⟨g_2, 0, none⟩) ∧ aa.eval (.tmp 51) = .pointer (some ⟨g_4, 0, none⟩) ∧ aa.eval (.tmp 52) = .slice A1 (la) (c1) ∧ aa.eval (.tmp 53) = .slice A2 (lb) (c2) ∧ aa.eval (.tmp 54) = .agg #[.slice A1 (la) (c1), .slice A2 (lb) (c2)] ∧ aa.eval (.tmp 55) = .int .i64 ((1 : Nat) : Int) ∧ aa.eval (.tmp 56) = .bool (decide (1 < 2)) ∧ aa.eval (.tmp 57) = .slice A2 (lb) (c2) ∧ aa.eval (.tmp 58) = .tuple #[.slice A_5 (sizeN lb + 34) (c_5), .int .i64 ((0 : Nat) : Int)] ∧ aa.eval (.tmp 59) = .pointer (some ⟨g_3, 0, none⟩) ∧ aa.eval (.tmp 60) = .slice A2 (lb) (c2) ∧ aa.eval (.tmp 61) = .tuple #[.slice A_5 (sizeN lb + 34) (c_5), .int .i64 ((0 : Nat) : Int)] ∧ aa.eval (.tmp 62) = .slice A_5 (sizeN lb + 34) (c_5) ∧ aa.eval (.tmp 63) = .int .i64 ((0 : Nat) : Int) ∧ aa.eval (.tmp 64) = .int .i64 ((0 : Nat) : Int) ∧ aa.eval (.tmp 65) = .bool (false) ∧ aa.eval (.tmp 66) = .bool (false) ∧ aa.eval (.tmp 67) = .slice A_5 (sizeN lb + 34) (c_5) ∧ aa.eval (.tmp 68) = .int .i64 ((sizeN lb + 34 : Nat) : Int) ∧ aa.eval (.tmp 69) = .bool (false) ∧ aa.eval (.tmp 70) = .bool (false) ∧ aa.eval (.tmp 71) = .slice A_5 (sizeN lb + 34) (c_5) ∧ aa.eval (.tmp 72) = .int .i64 ((sizeN lb + 34 : Nat) : Int) ∧ aa.eval (.tmp 73) = .int .i64 ((J : Nat) : Int) ∧ J ≤ sizeN lb + 34 ∧ WriterAt ww M_8 g_3 g_1 (P1.put) ∧ ReaderAt ww Mq g_4 g_2 (feedR (Rd.at0 (P1) []) ((recL P1 xb).take J)).1 ∧ Own ww w.heap.size A_5 c_5 (recL P1 xb) ∧ Sep M_8 Mq ∧ Sep (blkA A_5) Mq ∧ Ge w Mq ∧ Below w.heap.size w ww) (sizeN lb + 34 - 0) ?_ ?_
        · exact ⟨0, Mr, rfl, (by rw [putsR_size]; exact hs_1), (by rw [putsR_defers]; exact hd_1), ((pm rfl).trans ta_1_0), ((pm rfl).trans ta_1_1), ((pm rfl).trans ta_1_2), ((pm rfl).trans ta_1_7), ((pm rfl).trans ta_1_8), ((pm rfl).trans ta_1_9), ((pm rfl).trans ta_1_10), ((pm rfl).trans ta_1_11), ((pm rfl).trans ta_1_12), ((pm rfl).trans ta_1_13), (pe hs_1 rfl rfl), (pe hs_1 rfl rfl), (pe hs_1 rfl rfl), ((pm rfl).trans ta_1_21), ((pm rfl).trans ta_1_22), ((pm rfl).trans ta_1_23), ((pm rfl).trans ta_1_24), ((pm rfl).trans ta_1_25), ((pm rfl).trans ta_1_26), ((pm rfl).trans ta_1_27), ((pm rfl).trans ta_1_28), ((pm rfl).trans ta_1_30), ((pm rfl).trans ta_1_31), ((pm rfl).trans ta_1_32), ((pm rfl).trans ta_1_33), ((pm rfl).trans ta_1_34), ((pm rfl).trans ta_1_35), ((pm rfl).trans ta_1_36), ((pm rfl).trans ta_1_37), ((pm rfl).trans ta_1_38), ((pm rfl).trans ta_1_39), ((pm rfl).trans ta_1_40), ((pm rfl).trans ta_1_41), ((pm rfl).trans ta_1_42), ((pm rfl).trans ta_1_43), ((pm rfl).trans ta_1_44), ((pm rfl).trans ta_1_45), ((pm rfl).trans ta_1_46), ((pm rfl).trans ta_1_47), ((pm rfl).trans ta_1_48), ((pm rfl).trans ta_1_49), ((pm rfl).trans ta_1_50), ((pm rfl).trans ta_1_51), ((pm rfl).trans ta_1_52), ((pm rfl).trans ta_1_53), ((pm rfl).trans ta_1_54), ((pm rfl).trans ta_1_55), (pe hs_1 rfl rfl), (pe hs_1 rfl rfl), (pe hs_1 rfl rfl), (pe hs_1 rfl rfl), (pe hs_1 rfl rfl), (pe hs_1 rfl rfl), (pe hs_1 rfl rfl), (pe hs_1 rfl rfl), (pe hs_1 rfl rfl), (pe hs_1 rfl rfl), (pe hs_1 rfl rfl), (pe hs_1 rfl rfl), (pe hs_1 rfl rfl), (pe hs_1 rfl rfl), (pe hs_1 rfl rfl), (pe hs_1 rfl rfl), (pe hs_1 rfl rfl), (pe hs_1 rfl rfl), Nat.zero_le _, hW_4, (by rw [piece_none]; exact hLr), ho_3, sp_18.symm, sp_19, gLr, HB_10⟩
        · skip
          clear ta_1_0 ta_1_1 ta_1_2 ta_1_21 ta_1_22 ta_1_23 ta_1_24 ta_1_25 ta_1_26 ta_1_27 ta_1_28 ta_1_30 ta_1_31 ta_1_7 ta_1_33 ta_1_34 ta_1_32 ta_1_35 ta_1_36 ta_1_8 ta_1_9 ta_1_38 ta_1_39 ta_1_37 ta_1_40 ta_1_41 ta_1_10 ta_1_11 ta_1_42 ta_1_43 ta_1_44 ta_1_45 ta_1_46 ta_1_47 ta_1_48 ta_1_49 ta_1_50 ta_1_51 ta_1_12 ta_1_13 ta_1_52 ta_1_53 ta_1_54 ta_1_55 hd_1 hLr hW_4 ho_3 HB_10
          rintro nna_5 a_5 w_14 ⟨J, Mq, hm_5, hs_11, hd_5, ta_5_0, ta_5_1, ta_5_2, ta_5_7, ta_5_8, ta_5_9, ta_5_10, ta_5_11, ta_5_12, ta_5_13, ta_5_15, ta_5_16, ta_5_17, ta_5_21, ta_5_22, ta_5_23, ta_5_24, ta_5_25, ta_5_26, ta_5_27, ta_5_28, ta_5_30, ta_5_31, ta_5_32, ta_5_33, ta_5_34, ta_5_35, ta_5_36, ta_5_37, ta_5_38, ta_5_39, ta_5_40, ta_5_41, ta_5_42, ta_5_43, ta_5_44, ta_5_45, ta_5_46, ta_5_47, ta_5_48, ta_5_49, ta_5_50, ta_5_51, ta_5_52, ta_5_53, ta_5_54, ta_5_55, ta_5_56, ta_5_57, ta_5_58, ta_5_59, ta_5_60, ta_5_61, ta_5_62, ta_5_63, ta_5_64, ta_5_65, ta_5_66, ta_5_67, ta_5_68, ta_5_69, ta_5_70, ta_5_71, ta_5_72, ta_5_73, hJ, hMw1, hMr1, hMx1, sMwr, sMxr, gMr, HBM⟩ K_38 hK_38
          subst hm_5
          refine w2_seq (fun K_39 hK_39 => ?_)
          refine x_region (by kernel_rfl) ?_
          refine op_val (d := 74) (v := .bool (decide (J < (sizeN lb + 34)))) rfl rfl (o_lss (m := J) (n := (sizeN lb + 34)) rfl ((pm rfl).trans ta_5_73) ((pm rfl).trans ta_5_72)) ?_
          refine x_nil ?_
          refine hK_39 _ _ ?_
          refine w2_seq (fun K_40 hK_40 => ?_)
          refine w2_split (pe hs_11 rfl rfl) (fun h_3 => ?_) (fun h_3 => ?_)
          · simp only [decide_eq_true_eq, decide_eq_false_iff_not, Bool.not_eq_true', Bool.not_eq_false', Bool.not_true, Bool.not_false, Nat.not_lt, Nat.not_le] at h_3
            have hltJ : J < sizeN lb + 34 := h_3
            refine w2_skip ?_
            refine hK_40 _ _ ?_
            refine w2_seq (fun K_41 hK_41 => ?_)
            refine w2_block (fun K_42 hK_42 => ?_)
            refine w2_seq (fun K_43 hK_43 => ?_)
            refine x_region (by kernel_rfl) ?_
            refine op_val (d := 75) (v := .int .i64 ((J : Nat) : Int)) rfl rfl (o_move rfl ((pm rfl).trans ta_5_73)) ?_
            refine op_val (d := 18) (v := .int .i64 ((J : Nat) : Int)) rfl rfl (o_assign rfl (pe hs_11 rfl rfl)) ?_
            refine x_nil ?_
            refine hK_43 _ _ ?_
            refine w2_seq (fun K_44 hK_44 => ?_)
            have hcx : sizeN lb + 34 ≤ c_5 := by have h9 := hMx1.bs.le; rw [hl_2] at h9; exact h9
            obtain ⟨hd9, i1, i2, i3⟩ := piece_inv (P1) (b := xb) (by omega) J (by rw [hl_2]; exact hltJ)
            rcases (show J + 1 < sizeN lb + 34 ∨ J + 1 = sizeN lb + 34 by omega) with hJl | hJl
            · skip
              have hS : Bs w_14 (subA A_5 J c_5) (c_5 - J) (((recL P1 xb).drop J).take 1) := by
                have h := Bs.sub hMx1.bs (l := J) (q := J + 1) (m := c_5) (by omega) (by omega) (Nat.le_refl _)
                rwa [Nat.add_sub_cancel_left] at h
              have hSl : (((recL P1 xb).drop J).take 1).length = J + 1 - J := by rw [List.length_take, List.length_drop, hl_2]; omega
              refine x_region (by kernel_rfl) ?_
              refine op_val (d := 77) (v := .pointer (some ⟨g_4, 0, none⟩)) rfl rfl (o_move rfl ((pm rfl).trans ta_5_13)) ?_
              refine op_val (d := 78) (v := .slice A_5 (sizeN lb + 34) (c_5)) rfl rfl (o_move rfl ((pm rfl).trans ta_5_16)) ?_
              refine op_val (d := 79) (v := .int .i64 ((J : Nat) : Int)) rfl rfl (o_move rfl (pe hs_11 rfl rfl)) ?_
              refine op_val (d := 80) (v := .int .i64 ((J : Nat) : Int)) rfl rfl (o_move rfl (pe hs_11 rfl rfl)) ?_
              refine op_val (d := 81) (v := .int .i64 ((J + 1 : Nat) : Int)) rfl rfl (o_add64 (m := J) (n := 1) rfl (pe hs_11 rfl rfl) rfl (by omega)) ?_
              refine op_val (d := 82) (v := .slice ((subA A_5 J c_5)) ((J + 1) - J) (c_5 - J)) rfl rfl (o_slice2 rfl (pe hs_11 rfl rfl) (pe hs_11 rfl rfl) (pe hs_11 rfl rfl) (by omega) (by omega)) ?_
              refine op_call (vs := #[.pointer (some ⟨g_4, 0, none⟩), .slice ((subA A_5 J c_5)) ((J + 1) - J) (c_5 - J)]) rfl rfl (exec_call Try.func41 (by kernel_rfl) (by kernel_rfl) _ rfl _ _ (args2 (pe hs_11 rfl rfl) (pe hs_11 rfl rfl))) (Feed_any _ hMr1 hd9 hS hSl (piece_mid _ (by omega) J (by rw [hl_2]; exact hJl)) (by omega) (by omega) (by omega)) (fun e_10 w_15 hR_12 => ?_)
              obtain ⟨ps_3, A_6, c_6, rfl, hm_6, hRw_3, hAO_3, ⟨M_9, hR_13, hN_7, hs_12, hs_13⟩, hX_5⟩ := hR_12
              obtain rfl : ps_3 = [] := List.map_eq_nil_iff.1 hm_6
              have sp_20 : Sep M_8 M_9 := hN_7.sep (sMwr) hMw1.lt
              have sp_21 : Sep (blkA A_5) M_9 := hN_7.sep (sMxr) hMx1.lt
              replace hMw1 := hMw1.keepM hX_5 (sMwr)
              replace hMx1 := hMx1.keepM hX_5 (sMxr)
              have gg_9 := hN_7.ge gMr HBM.size
              have HB_11 := hX_5.below HBM HBM.size gMr
              refine ⟨_, rfl, ?_⟩
              refine op_val (d := 76) (v := .tuple #[.slice A_6 (0) (c_6), .int .i64 ((0 : Nat) : Int)]) rfl rfl (o_move rfl (pe hs_11 rfl rfl)) ?_
              refine op_val (d := 84) (v := .slice A_6 (0) (c_6)) rfl rfl (o_extract rfl (pe hs_11 rfl rfl) rfl) ?_
              refine op_val (d := 85) (v := .int .i64 ((0 : Nat) : Int)) rfl rfl (o_extract rfl (pe hs_11 rfl rfl) rfl) ?_
              refine op_val (d := 19) (v := .slice A_6 (0) (c_6)) rfl rfl (o_assign rfl (pe hs_11 rfl rfl)) ?_
              refine op_val (d := 20) (v := .int .i64 ((0 : Nat) : Int)) rfl rfl (o_assign rfl (pe hs_11 rfl rfl)) ?_
              refine x_nil ?_
              refine hK_44 _ _ ?_
              refine w2_seq (fun K_45 hK_45 => ?_)
              refine x_drawn 29 [fun _ v => v = .int .i64 ((0 : Nat) : Int), fun _ v => v = .bool (false), fun _ v => v = .bool (false), fun _ v => v = .slice A_6 (0) (c_6), fun _ v => v = .int .i64 ((0 : Nat) : Int), fun _ v => v = .bool (false), fun _ v => v = .int .i64 ((J : Nat) : Int), fun _ v => v = .slice A_5 (sizeN lb + 34) (c_5), fun _ v => v = .int .i64 ((sizeN lb + 34 : Nat) : Int), fun _ v => v = .int .i64 (((sizeN lb + 34) - 1 : Nat) : Int), fun _ v => v = .bool (false), fun _ v => v = .bool (false), fun _ v => v = .bool (false), fun _ v => v = .bool (false), fun _ v => v = .slice A_6 (0) (c_6), fun _ v => v = .int .i64 ((0 : Nat) : Int), fun _ v => v = .bool (false), fun _ v => v = .bool (false), fun _ v => v = .bool (false), fun _ v => v = .slice A_6 (0) (c_6), fun _ v => v = .int .i64 ((0 : Nat) : Int), fun _ v => v = .bool (false), fun _ v => v = .bool (false), fun _ _ => True, fun _ _ => True, fun _ _ => True, fun _ _ => True, fun _ _ => True, fun _ _ => True] [86, 87, 88, 89, 90, 91, 92, 93, 94, 95, 96, 97, 98, 99, 100, 101, 102, 103, 104, 105, 106, 107, 108, 109, 110, 111, 112, 113, 114] hs_11 hd_5 (by kernel_rfl) (by kernel_rfl) (by kernel_rfl) (by kernel_rfl) (by kernel_rfl) ⟨stLit, stLit, stLit, stLit, stLit, stLit, stLit, stLit, stLit, stLit, stLit, stLit, stLit, stLit, stLit, stLit, stLit, stLit, stLit, stLit, stLit, stLit, stLit, stLit, stLit, stLit, stLit, stLit, stLit, trivial⟩ ⟨(step_ok rfl (fun a' w' hb' hO hD => by
                  have d_61 : a'.eval (.tmp 20) = .int .i64 ((0 : Nat) : Int) := (hO 20 (by decide)).trans (pe hs_11 rfl rfl)
                  exact .inl ⟨_, _, (o_move rfl d_61), rfl, Below.refl _ _⟩)),
(step_ok rfl (fun a' w' hb' hO hD => by
                  have d_62 : a'.eval (.tmp 86) = .int .i64 ((0 : Nat) : Int) := hD 0 86 (by kernel_rfl) rfl
                  exact .inl ⟨_, _, (o_eq (o_neq (m := 0) (n := 0) rfl d_62 rfl) rfl), rfl, Below.refl _ _⟩)),
(step_ok rfl (fun a' w' hb' hO hD => by
                  have d_63 : a'.eval (.tmp 87) = .bool (false) := hD 1 87 (by kernel_rfl) rfl
                  exact .inl ⟨_, _, (o_move rfl d_63), rfl, Below.refl _ _⟩)),
(step_yes 2 false 88 rfl rfl (by kernel_rfl) (fun _ _ h => h) (fun a' w' hb' hO hD => by
                  have d_64 : a'.eval (.tmp 19) = .slice A_6 (0) (c_6) := (hO 19 (by decide)).trans (pe hs_11 rfl rfl)
                  exact .inl ⟨_, _, (o_move rfl d_64), rfl, Below.refl _ _⟩)),
(step_yes 2 false 88 rfl rfl (by kernel_rfl) (fun _ _ h => h) (fun a' w' hb' hO hD => by
                  have d_65 : a'.eval (.tmp 89) = .slice A_6 (0) (c_6) := hD 3 89 (by kernel_rfl) rfl
                  exact .inl ⟨_, _, (o_lenS rfl d_65), rfl, Below.refl _ _⟩)),
(step_yes 2 false 88 rfl rfl (by kernel_rfl) (fun _ _ h => h) (fun a' w' hb' hO hD => by
                  have d_66 : a'.eval (.tmp 90) = .int .i64 ((0 : Nat) : Int) := hD 4 90 (by kernel_rfl) rfl
                  exact .inl ⟨_, _, (o_eq (o_eql (m := 0) (n := 1) rfl d_66 rfl) rfl), rfl, Below.refl _ _⟩)),
(step_yes 2 false 88 rfl rfl (by kernel_rfl) (fun _ _ h => h) (fun a' w' hb' hO hD => by
                  have d_67 : a'.eval (.tmp 18) = .int .i64 ((J : Nat) : Int) := (hO 18 (by decide)).trans (pe hs_11 rfl rfl)
                  exact .inl ⟨_, _, (o_move rfl d_67), rfl, Below.refl _ _⟩)),
(step_yes 2 false 88 rfl rfl (by kernel_rfl) (fun _ _ h => h) (fun a' w' hb' hO hD => by
                  have d_68 : a'.eval (.tmp 16) = .slice A_5 (sizeN lb + 34) (c_5) := (hO 16 (by decide)).trans ((pm rfl).trans ta_5_16)
                  exact .inl ⟨_, _, (o_move rfl d_68), rfl, Below.refl _ _⟩)),
(step_yes 2 false 88 rfl rfl (by kernel_rfl) (fun _ _ h => h) (fun a' w' hb' hO hD => by
                  have d_69 : a'.eval (.tmp 93) = .slice A_5 (sizeN lb + 34) (c_5) := hD 7 93 (by kernel_rfl) rfl
                  exact .inl ⟨_, _, (o_len rfl d_69), rfl, Below.refl _ _⟩)),
(step_yes 2 false 88 rfl rfl (by kernel_rfl) (fun _ _ h => h) (fun a' w' hb' hO hD => by
                  have d_70 : a'.eval (.tmp 94) = .int .i64 ((sizeN lb + 34 : Nat) : Int) := hD 8 94 (by kernel_rfl) rfl
                  exact .inl ⟨_, _, (o_sub64 (m := (sizeN lb + 34)) (n := 1) rfl d_70 rfl (by omega) (by omega)), rfl, Below.refl _ _⟩)),
(step_yes 2 false 88 rfl rfl (by kernel_rfl) (fun _ _ h => h) (fun a' w' hb' hO hD => by
                  have d_71 : a'.eval (.tmp 92) = .int .i64 ((J : Nat) : Int) := hD 6 92 (by kernel_rfl) rfl
                  have d_72 : a'.eval (.tmp 95) = .int .i64 (((sizeN lb + 34) - 1 : Nat) : Int) := hD 9 95 (by kernel_rfl) rfl
                  have e0 : (.bool (decide (J = ((sizeN lb + 34) - 1))) : Value) = .bool (false) := (by rw [decide_eq_false (by omega)])
                  exact .inl ⟨_, _, (o_eql (m := J) (n := ((sizeN lb + 34) - 1)) rfl d_71 d_72), e0, Below.refl _ _⟩)),
(step_yes 2 false 88 rfl rfl (by kernel_rfl) (fun _ _ h => h) (fun a' w' hb' hO hD => by
                  have d_73 : a'.eval (.tmp 91) = .bool (false) := hD 5 91 (by kernel_rfl) rfl
                  have d_74 : a'.eval (.tmp 96) = .bool (false) := hD 10 96 (by kernel_rfl) rfl
                  have e0 : (.bool (! (false == false)) : Value) = .bool (false) := rfl
                  exact .inl ⟨_, _, (o_neB rfl d_73 d_74 (fun _ => by kernel_rfl)), e0, Below.refl _ _⟩)),
(step_ok rfl (fun a' w' hb' hO hD => by
                  have d_75 : a'.eval (.tmp 88) = .bool (false) := hD 2 88 (by kernel_rfl) rfl
                  have d_76 : a'.eval (.tmp 97) = .bool (false) := hD 11 97 (by kernel_rfl) rfl
                  exact .inl ⟨_, _, (o_pickF rfl d_75 d_76), rfl, Below.refl _ _⟩)),
(step_ok rfl (fun a' w' hb' hO hD => by
                  have d_77 : a'.eval (.tmp 98) = .bool (false) := hD 12 98 (by kernel_rfl) rfl
                  exact .inl ⟨_, _, (o_move rfl d_77), rfl, Below.refl _ _⟩)),
(step_yes 13 false 99 rfl rfl (by kernel_rfl) (fun _ _ h => h) (fun a' w' hb' hO hD => by
                  have d_78 : a'.eval (.tmp 19) = .slice A_6 (0) (c_6) := (hO 19 (by decide)).trans (pe hs_11 rfl rfl)
                  exact .inl ⟨_, _, (o_move rfl d_78), rfl, Below.refl _ _⟩)),
(step_yes 13 false 99 rfl rfl (by kernel_rfl) (fun _ _ h => h) (fun a' w' hb' hO hD => by
                  have d_79 : a'.eval (.tmp 100) = .slice A_6 (0) (c_6) := hD 14 100 (by kernel_rfl) rfl
                  exact .inl ⟨_, _, (o_lenS rfl d_79), rfl, Below.refl _ _⟩)),
(step_yes 13 false 99 rfl rfl (by kernel_rfl) (fun _ _ h => h) (fun a' w' hb' hO hD => by
                  have d_80 : a'.eval (.tmp 101) = .int .i64 ((0 : Nat) : Int) := hD 15 101 (by kernel_rfl) rfl
                  exact .inl ⟨_, _, (o_eq (o_gtr (m := 0) (n := 1) rfl d_80 rfl) rfl), rfl, Below.refl _ _⟩)),
(step_ok rfl (fun a' w' hb' hO hD => by
                  have d_81 : a'.eval (.tmp 99) = .bool (false) := hD 13 99 (by kernel_rfl) rfl
                  have d_82 : a'.eval (.tmp 102) = .bool (false) := hD 16 102 (by kernel_rfl) rfl
                  exact .inl ⟨_, _, (o_pickF rfl d_81 d_82), rfl, Below.refl _ _⟩)),
(step_ok rfl (fun a' w' hb' hO hD => by
                  have d_83 : a'.eval (.tmp 103) = .bool (false) := hD 17 103 (by kernel_rfl) rfl
                  exact .inl ⟨_, _, (o_move rfl d_83), rfl, Below.refl _ _⟩)),
(step_yes 18 false 104 rfl rfl (by kernel_rfl) (fun _ _ h => h) (fun a' w' hb' hO hD => by
                  have d_84 : a'.eval (.tmp 19) = .slice A_6 (0) (c_6) := (hO 19 (by decide)).trans (pe hs_11 rfl rfl)
                  exact .inl ⟨_, _, (o_move rfl d_84), rfl, Below.refl _ _⟩)),
(step_yes 18 false 104 rfl rfl (by kernel_rfl) (fun _ _ h => h) (fun a' w' hb' hO hD => by
                  have d_85 : a'.eval (.tmp 105) = .slice A_6 (0) (c_6) := hD 19 105 (by kernel_rfl) rfl
                  exact .inl ⟨_, _, (o_lenS rfl d_85), rfl, Below.refl _ _⟩)),
(step_yes 18 false 104 rfl rfl (by kernel_rfl) (fun _ _ h => h) (fun a' w' hb' hO hD => by
                  have d_86 : a'.eval (.tmp 106) = .int .i64 ((0 : Nat) : Int) := hD 20 106 (by kernel_rfl) rfl
                  exact .inl ⟨_, _, (o_eq (o_eql (m := 0) (n := 1) rfl d_86 rfl) rfl), rfl, Below.refl _ _⟩)),
(step_yes 18 false 104 rfl rfl (by kernel_rfl) (fun _ _ h => h) (fun a' w' hb' hO hD => by
                  have d_87 : a'.eval (.tmp 107) = .bool (false) := hD 21 107 (by kernel_rfl) rfl
                  exact .inl ⟨_, _, (o_move rfl d_87), rfl, Below.refl _ _⟩)),
(step_no 22 true false 108 rfl rfl (by kernel_rfl) (fun _ _ h => h) (by decide) (fun _ => trivial)),
(step_no 22 true false 108 rfl rfl (by kernel_rfl) (fun _ _ h => h) (by decide) (fun _ => trivial)),
(step_no 22 true false 108 rfl rfl (by kernel_rfl) (fun _ _ h => h) (by decide) (fun _ => trivial)),
(step_no 22 true false 108 rfl rfl (by kernel_rfl) (fun _ _ h => h) (by decide) (fun _ => trivial)),
(step_no 22 true false 108 rfl rfl (by kernel_rfl) (fun _ _ h => h) (by decide) (fun _ => trivial)),
(step_no 22 true false 108 rfl rfl (by kernel_rfl) (fun _ _ h => h) (by decide) (fun _ => trivial)), trivial⟩ (fun a_6 w_16 hs_14 hd_6 hb_8 hO_3 hV_3 => ?_)
              have ta_6_0 : a_6.eval (.tmp 0) = .slice A0 (m) (c0) := (hO_3 0 (by decide)).trans ((pm rfl).trans ta_5_0)
              have ta_6_1 : a_6.eval (.tmp 1) = .slice A1 (la) (c1) := (hO_3 1 (by decide)).trans ((pm rfl).trans ta_5_1)
              have ta_6_2 : a_6.eval (.tmp 2) = .slice A2 (lb) (c2) := (hO_3 2 (by decide)).trans ((pm rfl).trans ta_5_2)
              have ta_6_21 : a_6.eval (.tmp 21) = .slice A1 (la) (c1) := (hO_3 21 (by decide)).trans ((pm rfl).trans ta_5_21)
              have ta_6_22 : a_6.eval (.tmp 22) = .int .i64 ((la : Nat) : Int) := (hO_3 22 (by decide)).trans ((pm rfl).trans ta_5_22)
              have ta_6_23 : a_6.eval (.tmp 23) = .bool (false) := (hO_3 23 (by decide)).trans ((pm rfl).trans ta_5_23)
              have ta_6_24 : a_6.eval (.tmp 24) = .bool (false) := (hO_3 24 (by decide)).trans ((pm rfl).trans ta_5_24)
              have ta_6_25 : a_6.eval (.tmp 25) = .slice A2 (lb) (c2) := (hO_3 25 (by decide)).trans ((pm rfl).trans ta_5_25)
              have ta_6_26 : a_6.eval (.tmp 26) = .int .i64 ((lb : Nat) : Int) := (hO_3 26 (by decide)).trans ((pm rfl).trans ta_5_26)
              have ta_6_27 : a_6.eval (.tmp 27) = .bool (false) := (hO_3 27 (by decide)).trans ((pm rfl).trans ta_5_27)
              have ta_6_28 : a_6.eval (.tmp 28) = .bool (false) := (hO_3 28 (by decide)).trans ((pm rfl).trans ta_5_28)
              have ta_6_30 : a_6.eval (.tmp 30) = .slice A0 (m) (c0) := (hO_3 30 (by decide)).trans ((pm rfl).trans ta_5_30)
              have ta_6_31 : a_6.eval (.tmp 31) = .slice A_1 (32) (c_1) := (hO_3 31 (by decide)).trans ((pm rfl).trans ta_5_31)
              have ta_6_7 : a_6.eval (.tmp 7) = .slice A_1 (32) (c_1) := (hO_3 7 (by decide)).trans ((pm rfl).trans ta_5_7)
              have ta_6_33 : a_6.eval (.tmp 33) = .slice A_1 (32) (c_1) := (hO_3 33 (by decide)).trans ((pm rfl).trans ta_5_33)
              have ta_6_34 : a_6.eval (.tmp 34) = .tuple #[.pointer (some ⟨g_1, 0, none⟩), .int .i64 ((0 : Nat) : Int)] := (hO_3 34 (by decide)).trans ((pm rfl).trans ta_5_34)
              have ta_6_32 : a_6.eval (.tmp 32) = .tuple #[.pointer (some ⟨g_1, 0, none⟩), .int .i64 ((0 : Nat) : Int)] := (hO_3 32 (by decide)).trans ((pm rfl).trans ta_5_32)
              have ta_6_35 : a_6.eval (.tmp 35) = .pointer (some ⟨g_1, 0, none⟩) := (hO_3 35 (by decide)).trans ((pm rfl).trans ta_5_35)
              have ta_6_36 : a_6.eval (.tmp 36) = .int .i64 ((0 : Nat) : Int) := (hO_3 36 (by decide)).trans ((pm rfl).trans ta_5_36)
              have ta_6_8 : a_6.eval (.tmp 8) = .pointer (some ⟨g_1, 0, none⟩) := (hO_3 8 (by decide)).trans ((pm rfl).trans ta_5_8)
              have ta_6_9 : a_6.eval (.tmp 9) = .int .i64 ((0 : Nat) : Int) := (hO_3 9 (by decide)).trans ((pm rfl).trans ta_5_9)
              have ta_6_38 : a_6.eval (.tmp 38) = .slice A_1 (32) (c_1) := (hO_3 38 (by decide)).trans ((pm rfl).trans ta_5_38)
              have ta_6_39 : a_6.eval (.tmp 39) = .tuple #[.pointer (some ⟨g_2, 0, none⟩), .int .i64 ((0 : Nat) : Int)] := (hO_3 39 (by decide)).trans ((pm rfl).trans ta_5_39)
              have ta_6_37 : a_6.eval (.tmp 37) = .tuple #[.pointer (some ⟨g_2, 0, none⟩), .int .i64 ((0 : Nat) : Int)] := (hO_3 37 (by decide)).trans ((pm rfl).trans ta_5_37)
              have ta_6_40 : a_6.eval (.tmp 40) = .pointer (some ⟨g_2, 0, none⟩) := (hO_3 40 (by decide)).trans ((pm rfl).trans ta_5_40)
              have ta_6_41 : a_6.eval (.tmp 41) = .int .i64 ((0 : Nat) : Int) := (hO_3 41 (by decide)).trans ((pm rfl).trans ta_5_41)
              have ta_6_10 : a_6.eval (.tmp 10) = .pointer (some ⟨g_2, 0, none⟩) := (hO_3 10 (by decide)).trans ((pm rfl).trans ta_5_10)
              have ta_6_11 : a_6.eval (.tmp 11) = .int .i64 ((0 : Nat) : Int) := (hO_3 11 (by decide)).trans ((pm rfl).trans ta_5_11)
              have ta_6_42 : a_6.eval (.tmp 42) = .int .i64 ((0 : Nat) : Int) := (hO_3 42 (by decide)).trans ((pm rfl).trans ta_5_42)
              have ta_6_43 : a_6.eval (.tmp 43) = .bool (false) := (hO_3 43 (by decide)).trans ((pm rfl).trans ta_5_43)
              have ta_6_44 : a_6.eval (.tmp 44) = .bool (false) := (hO_3 44 (by decide)).trans ((pm rfl).trans ta_5_44)
              have ta_6_45 : a_6.eval (.tmp 45) = .int .i64 ((0 : Nat) : Int) := (hO_3 45 (by decide)).trans ((pm rfl).trans ta_5_45)
              have ta_6_46 : a_6.eval (.tmp 46) = .bool (false) := (hO_3 46 (by decide)).trans ((pm rfl).trans ta_5_46)
              have ta_6_47 : a_6.eval (.tmp 47) = .bool (false) := (hO_3 47 (by decide)).trans ((pm rfl).trans ta_5_47)
              have ta_6_48 : a_6.eval (.tmp 48) = .pointer (some ⟨g_1, 0, none⟩) := (hO_3 48 (by decide)).trans ((pm rfl).trans ta_5_48)
              have ta_6_49 : a_6.eval (.tmp 49) = .pointer (some ⟨g_3, 0, none⟩) := (hO_3 49 (by decide)).trans ((pm rfl).trans ta_5_49)
              have ta_6_50 : a_6.eval (.tmp 50) = .pointer (some ⟨g_2, 0, none⟩) := (hO_3 50 (by decide)).trans ((pm rfl).trans ta_5_50)
              have ta_6_51 : a_6.eval (.tmp 51) = .pointer (some ⟨g_4, 0, none⟩) := (hO_3 51 (by decide)).trans ((pm rfl).trans ta_5_51)
              have ta_6_12 : a_6.eval (.tmp 12) = .pointer (some ⟨g_3, 0, none⟩) := (hO_3 12 (by decide)).trans ((pm rfl).trans ta_5_12)
              have ta_6_13 : a_6.eval (.tmp 13) = .pointer (some ⟨g_4, 0, none⟩) := (hO_3 13 (by decide)).trans ((pm rfl).trans ta_5_13)
              have ta_6_52 : a_6.eval (.tmp 52) = .slice A1 (la) (c1) := (hO_3 52 (by decide)).trans ((pm rfl).trans ta_5_52)
              have ta_6_53 : a_6.eval (.tmp 53) = .slice A2 (lb) (c2) := (hO_3 53 (by decide)).trans ((pm rfl).trans ta_5_53)
              have ta_6_54 : a_6.eval (.tmp 54) = .agg #[.slice A1 (la) (c1), .slice A2 (lb) (c2)] := (hO_3 54 (by decide)).trans ((pm rfl).trans ta_5_54)
              have ta_6_55 : a_6.eval (.tmp 55) = .int .i64 ((1 : Nat) : Int) := (hO_3 55 (by decide)).trans ((pm rfl).trans ta_5_55)
              have ta_6_56 : a_6.eval (.tmp 56) = .bool (decide (1 < 2)) := (hO_3 56 (by decide)).trans ((pm rfl).trans ta_5_56)
              have ta_6_57 : a_6.eval (.tmp 57) = .slice A2 (lb) (c2) := (hO_3 57 (by decide)).trans ((pm rfl).trans ta_5_57)
              have ta_6_15 : a_6.eval (.tmp 15) = .slice A2 (lb) (c2) := (hO_3 15 (by decide)).trans ((pm rfl).trans ta_5_15)
              have ta_6_59 : a_6.eval (.tmp 59) = .pointer (some ⟨g_3, 0, none⟩) := (hO_3 59 (by decide)).trans ((pm rfl).trans ta_5_59)
              have ta_6_60 : a_6.eval (.tmp 60) = .slice A2 (lb) (c2) := (hO_3 60 (by decide)).trans ((pm rfl).trans ta_5_60)
              have ta_6_61 : a_6.eval (.tmp 61) = .tuple #[.slice A_5 (sizeN lb + 34) (c_5), .int .i64 ((0 : Nat) : Int)] := (hO_3 61 (by decide)).trans ((pm rfl).trans ta_5_61)
              have ta_6_58 : a_6.eval (.tmp 58) = .tuple #[.slice A_5 (sizeN lb + 34) (c_5), .int .i64 ((0 : Nat) : Int)] := (hO_3 58 (by decide)).trans ((pm rfl).trans ta_5_58)
              have ta_6_62 : a_6.eval (.tmp 62) = .slice A_5 (sizeN lb + 34) (c_5) := (hO_3 62 (by decide)).trans ((pm rfl).trans ta_5_62)
              have ta_6_63 : a_6.eval (.tmp 63) = .int .i64 ((0 : Nat) : Int) := (hO_3 63 (by decide)).trans ((pm rfl).trans ta_5_63)
              have ta_6_16 : a_6.eval (.tmp 16) = .slice A_5 (sizeN lb + 34) (c_5) := (hO_3 16 (by decide)).trans ((pm rfl).trans ta_5_16)
              have ta_6_17 : a_6.eval (.tmp 17) = .int .i64 ((0 : Nat) : Int) := (hO_3 17 (by decide)).trans ((pm rfl).trans ta_5_17)
              have ta_6_64 : a_6.eval (.tmp 64) = .int .i64 ((0 : Nat) : Int) := (hO_3 64 (by decide)).trans ((pm rfl).trans ta_5_64)
              have ta_6_65 : a_6.eval (.tmp 65) = .bool (false) := (hO_3 65 (by decide)).trans ((pm rfl).trans ta_5_65)
              have ta_6_66 : a_6.eval (.tmp 66) = .bool (false) := (hO_3 66 (by decide)).trans ((pm rfl).trans ta_5_66)
              have ta_6_67 : a_6.eval (.tmp 67) = .slice A_5 (sizeN lb + 34) (c_5) := (hO_3 67 (by decide)).trans ((pm rfl).trans ta_5_67)
              have ta_6_68 : a_6.eval (.tmp 68) = .int .i64 ((sizeN lb + 34 : Nat) : Int) := (hO_3 68 (by decide)).trans ((pm rfl).trans ta_5_68)
              have ta_6_69 : a_6.eval (.tmp 69) = .bool (false) := (hO_3 69 (by decide)).trans ((pm rfl).trans ta_5_69)
              have ta_6_70 : a_6.eval (.tmp 70) = .bool (false) := (hO_3 70 (by decide)).trans ((pm rfl).trans ta_5_70)
              have ta_6_71 : a_6.eval (.tmp 71) = .slice A_5 (sizeN lb + 34) (c_5) := (hO_3 71 (by decide)).trans ((pm rfl).trans ta_5_71)
              have ta_6_72 : a_6.eval (.tmp 72) = .int .i64 ((sizeN lb + 34 : Nat) : Int) := (hO_3 72 (by decide)).trans ((pm rfl).trans ta_5_72)
              have ta_6_73 : a_6.eval (.tmp 73) = .int .i64 ((J : Nat) : Int) := (hO_3 73 (by decide)).trans ((pm rfl).trans ta_5_73)
              have ta_6_74 : a_6.eval (.tmp 74) = .bool (decide (J < (sizeN lb + 34))) := (hO_3 74 (by decide)).trans (pe hs_11 rfl rfl)
              have ta_6_75 : a_6.eval (.tmp 75) = .int .i64 ((J : Nat) : Int) := (hO_3 75 (by decide)).trans (pe hs_11 rfl rfl)
              have ta_6_18 : a_6.eval (.tmp 18) = .int .i64 ((J : Nat) : Int) := (hO_3 18 (by decide)).trans (pe hs_11 rfl rfl)
              have ta_6_77 : a_6.eval (.tmp 77) = .pointer (some ⟨g_4, 0, none⟩) := (hO_3 77 (by decide)).trans (pe hs_11 rfl rfl)
              have ta_6_78 : a_6.eval (.tmp 78) = .slice A_5 (sizeN lb + 34) (c_5) := (hO_3 78 (by decide)).trans (pe hs_11 rfl rfl)
              have ta_6_79 : a_6.eval (.tmp 79) = .int .i64 ((J : Nat) : Int) := (hO_3 79 (by decide)).trans (pe hs_11 rfl rfl)
              have ta_6_80 : a_6.eval (.tmp 80) = .int .i64 ((J : Nat) : Int) := (hO_3 80 (by decide)).trans (pe hs_11 rfl rfl)
              have ta_6_81 : a_6.eval (.tmp 81) = .int .i64 ((J + 1 : Nat) : Int) := (hO_3 81 (by decide)).trans (pe hs_11 rfl rfl)
              have ta_6_82 : a_6.eval (.tmp 82) = .slice ((subA A_5 J c_5)) ((J + 1) - J) (c_5 - J) := (hO_3 82 (by decide)).trans (pe hs_11 rfl rfl)
              have ta_6_83 : a_6.eval (.tmp 83) = .tuple #[.slice A_6 (0) (c_6), .int .i64 ((0 : Nat) : Int)] := (hO_3 83 (by decide)).trans (pe hs_11 rfl rfl)
              have ta_6_76 : a_6.eval (.tmp 76) = .tuple #[.slice A_6 (0) (c_6), .int .i64 ((0 : Nat) : Int)] := (hO_3 76 (by decide)).trans (pe hs_11 rfl rfl)
              have ta_6_84 : a_6.eval (.tmp 84) = .slice A_6 (0) (c_6) := (hO_3 84 (by decide)).trans (pe hs_11 rfl rfl)
              have ta_6_85 : a_6.eval (.tmp 85) = .int .i64 ((0 : Nat) : Int) := (hO_3 85 (by decide)).trans (pe hs_11 rfl rfl)
              have ta_6_19 : a_6.eval (.tmp 19) = .slice A_6 (0) (c_6) := (hO_3 19 (by decide)).trans (pe hs_11 rfl rfl)
              have ta_6_20 : a_6.eval (.tmp 20) = .int .i64 ((0 : Nat) : Int) := (hO_3 20 (by decide)).trans (pe hs_11 rfl rfl)
              clear ta_5_0 ta_5_1 ta_5_2 ta_5_21 ta_5_22 ta_5_23 ta_5_24 ta_5_25 ta_5_26 ta_5_27 ta_5_28 ta_5_30 ta_5_31 ta_5_7 ta_5_33 ta_5_34 ta_5_32 ta_5_35 ta_5_36 ta_5_8 ta_5_9 ta_5_38 ta_5_39 ta_5_37 ta_5_40 ta_5_41 ta_5_10 ta_5_11 ta_5_42 ta_5_43 ta_5_44 ta_5_45 ta_5_46 ta_5_47 ta_5_48 ta_5_49 ta_5_50 ta_5_51 ta_5_12 ta_5_13 ta_5_52 ta_5_53 ta_5_54 ta_5_55 ta_5_56 ta_5_57 ta_5_15 ta_5_59 ta_5_60 ta_5_61 ta_5_58 ta_5_62 ta_5_63 ta_5_16 ta_5_17 ta_5_64 ta_5_65 ta_5_66 ta_5_67 ta_5_68 ta_5_69 ta_5_70 ta_5_71 ta_5_72 ta_5_73 hd_5
              replace hMw1 := hMw1.nx hb_8
              replace hMx1 := hMx1.nx hb_8
              replace hR_13 := hR_13.nx hb_8
              have HB_12 := below_from HB_11 hb_8
              have ta_6_86 : a_6.eval (.tmp 86) = .int .i64 ((0 : Nat) : Int) := hV_3 0 86 rfl rfl
              have ta_6_87 : a_6.eval (.tmp 87) = .bool (false) := hV_3 1 87 rfl rfl
              have ta_6_88 : a_6.eval (.tmp 88) = .bool (false) := hV_3 2 88 rfl rfl
              have ta_6_89 : a_6.eval (.tmp 89) = .slice A_6 (0) (c_6) := hV_3 3 89 rfl rfl
              have ta_6_90 : a_6.eval (.tmp 90) = .int .i64 ((0 : Nat) : Int) := hV_3 4 90 rfl rfl
              have ta_6_91 : a_6.eval (.tmp 91) = .bool (false) := hV_3 5 91 rfl rfl
              have ta_6_92 : a_6.eval (.tmp 92) = .int .i64 ((J : Nat) : Int) := hV_3 6 92 rfl rfl
              have ta_6_93 : a_6.eval (.tmp 93) = .slice A_5 (sizeN lb + 34) (c_5) := hV_3 7 93 rfl rfl
              have ta_6_94 : a_6.eval (.tmp 94) = .int .i64 ((sizeN lb + 34 : Nat) : Int) := hV_3 8 94 rfl rfl
              have ta_6_95 : a_6.eval (.tmp 95) = .int .i64 (((sizeN lb + 34) - 1 : Nat) : Int) := hV_3 9 95 rfl rfl
              have ta_6_96 : a_6.eval (.tmp 96) = .bool (false) := hV_3 10 96 rfl rfl
              have ta_6_97 : a_6.eval (.tmp 97) = .bool (false) := hV_3 11 97 rfl rfl
              have ta_6_98 : a_6.eval (.tmp 98) = .bool (false) := hV_3 12 98 rfl rfl
              have ta_6_99 : a_6.eval (.tmp 99) = .bool (false) := hV_3 13 99 rfl rfl
              have ta_6_100 : a_6.eval (.tmp 100) = .slice A_6 (0) (c_6) := hV_3 14 100 rfl rfl
              have ta_6_101 : a_6.eval (.tmp 101) = .int .i64 ((0 : Nat) : Int) := hV_3 15 101 rfl rfl
              have ta_6_102 : a_6.eval (.tmp 102) = .bool (false) := hV_3 16 102 rfl rfl
              have ta_6_103 : a_6.eval (.tmp 103) = .bool (false) := hV_3 17 103 rfl rfl
              have ta_6_104 : a_6.eval (.tmp 104) = .bool (false) := hV_3 18 104 rfl rfl
              have ta_6_105 : a_6.eval (.tmp 105) = .slice A_6 (0) (c_6) := hV_3 19 105 rfl rfl
              have ta_6_106 : a_6.eval (.tmp 106) = .int .i64 ((0 : Nat) : Int) := hV_3 20 106 rfl rfl
              have ta_6_107 : a_6.eval (.tmp 107) = .bool (false) := hV_3 21 107 rfl rfl
              have ta_6_108 : a_6.eval (.tmp 108) = .bool (false) := hV_3 22 108 rfl rfl
              clear hV_3 hO_3
              simp only [List.drop_succ_cons, List.drop_zero]
              refine op_left (e := 108) rfl rfl (by kernel_rfl) ((pm rfl).trans ta_6_108) rfl ?_
              refine op_valG (e := 104) (d := 116) (v := .bool (false)) rfl rfl (by kernel_rfl) ((pm rfl).trans ta_6_104) (o_pickF rfl ((pm rfl).trans ta_6_108) rfl) ?_
              refine op_val (d := 117) (v := .bool (false)) rfl rfl (o_pickF rfl ((pm rfl).trans ta_6_104) (pe hs_14 rfl rfl)) ?_
              refine x_nil ?_
              refine hK_45 _ _ ?_
              refine w2_condF (pe hs_14 rfl rfl) ?_
              refine w2_skip ?_
              refine hK_42 _ _ ?_
              refine hK_41 _ _ ?_
              refine x_region (by kernel_rfl) ?_
              refine op_val (d := 118) (v := .int .i64 ((J + 1 : Nat) : Int)) rfl rfl (o_add64 (m := J) (n := 1) rfl ((pm rfl).trans ta_6_73) rfl (by omega)) ?_
              refine op_val (d := 73) (v := .int .i64 ((J + 1 : Nat) : Int)) rfl rfl (o_move rfl (pe hs_14 rfl rfl)) ?_
              refine x_nil ?_
              refine hK_38 _ _ _ ⟨J + 1, M_9, rfl, (by rw [putsR_size]; exact hs_14), (by rw [putsR_defers]; exact hd_6), ((pm rfl).trans ta_6_0), ((pm rfl).trans ta_6_1), ((pm rfl).trans ta_6_2), ((pm rfl).trans ta_6_7), ((pm rfl).trans ta_6_8), ((pm rfl).trans ta_6_9), ((pm rfl).trans ta_6_10), ((pm rfl).trans ta_6_11), ((pm rfl).trans ta_6_12), ((pm rfl).trans ta_6_13), ((pm rfl).trans ta_6_15), ((pm rfl).trans ta_6_16), ((pm rfl).trans ta_6_17), ((pm rfl).trans ta_6_21), ((pm rfl).trans ta_6_22), ((pm rfl).trans ta_6_23), ((pm rfl).trans ta_6_24), ((pm rfl).trans ta_6_25), ((pm rfl).trans ta_6_26), ((pm rfl).trans ta_6_27), ((pm rfl).trans ta_6_28), ((pm rfl).trans ta_6_30), ((pm rfl).trans ta_6_31), ((pm rfl).trans ta_6_32), ((pm rfl).trans ta_6_33), ((pm rfl).trans ta_6_34), ((pm rfl).trans ta_6_35), ((pm rfl).trans ta_6_36), ((pm rfl).trans ta_6_37), ((pm rfl).trans ta_6_38), ((pm rfl).trans ta_6_39), ((pm rfl).trans ta_6_40), ((pm rfl).trans ta_6_41), ((pm rfl).trans ta_6_42), ((pm rfl).trans ta_6_43), ((pm rfl).trans ta_6_44), ((pm rfl).trans ta_6_45), ((pm rfl).trans ta_6_46), ((pm rfl).trans ta_6_47), ((pm rfl).trans ta_6_48), ((pm rfl).trans ta_6_49), ((pm rfl).trans ta_6_50), ((pm rfl).trans ta_6_51), ((pm rfl).trans ta_6_52), ((pm rfl).trans ta_6_53), ((pm rfl).trans ta_6_54), ((pm rfl).trans ta_6_55), ((pm rfl).trans ta_6_56), ((pm rfl).trans ta_6_57), ((pm rfl).trans ta_6_58), ((pm rfl).trans ta_6_59), ((pm rfl).trans ta_6_60), ((pm rfl).trans ta_6_61), ((pm rfl).trans ta_6_62), ((pm rfl).trans ta_6_63), ((pm rfl).trans ta_6_64), ((pm rfl).trans ta_6_65), ((pm rfl).trans ta_6_66), ((pm rfl).trans ta_6_67), ((pm rfl).trans ta_6_68), ((pm rfl).trans ta_6_69), ((pm rfl).trans ta_6_70), ((pm rfl).trans ta_6_71), ((pm rfl).trans ta_6_72), (pe hs_14 rfl rfl), (by omega), hMw1, (by exact hR_13), hMx1, sp_20, sp_21, gg_9, HB_12⟩ ?_
              omega
            · skip
              have hS : Bs w_14 (subA A_5 J c_5) (c_5 - J) (((recL P1 xb).drop J).take 1) := by
                have h := Bs.sub hMx1.bs (l := J) (q := J + 1) (m := c_5) (by omega) (by omega) (Nat.le_refl _)
                rwa [Nat.add_sub_cancel_left] at h
              have hSl : (((recL P1 xb).drop J).take 1).length = J + 1 - J := by rw [List.length_take, List.length_drop, hl_2]; omega
              refine x_region (by kernel_rfl) ?_
              refine op_val (d := 77) (v := .pointer (some ⟨g_4, 0, none⟩)) rfl rfl (o_move rfl ((pm rfl).trans ta_5_13)) ?_
              refine op_val (d := 78) (v := .slice A_5 (sizeN lb + 34) (c_5)) rfl rfl (o_move rfl ((pm rfl).trans ta_5_16)) ?_
              refine op_val (d := 79) (v := .int .i64 ((J : Nat) : Int)) rfl rfl (o_move rfl (pe hs_11 rfl rfl)) ?_
              refine op_val (d := 80) (v := .int .i64 ((J : Nat) : Int)) rfl rfl (o_move rfl (pe hs_11 rfl rfl)) ?_
              refine op_val (d := 81) (v := .int .i64 ((J + 1 : Nat) : Int)) rfl rfl (o_add64 (m := J) (n := 1) rfl (pe hs_11 rfl rfl) rfl (by omega)) ?_
              refine op_val (d := 82) (v := .slice ((subA A_5 J c_5)) ((J + 1) - J) (c_5 - J)) rfl rfl (o_slice2 rfl (pe hs_11 rfl rfl) (pe hs_11 rfl rfl) (pe hs_11 rfl rfl) (by omega) (by omega)) ?_
              refine op_call (vs := #[.pointer (some ⟨g_4, 0, none⟩), .slice ((subA A_5 J c_5)) ((J + 1) - J) (c_5 - J)]) rfl rfl (exec_call Try.func41 (by kernel_rfl) (by kernel_rfl) _ rfl _ _ (args2 (pe hs_11 rfl rfl) (pe hs_11 rfl rfl))) (Feed_any _ hMr1 hd9 hS hSl (piece_last _ (by omega) J (by rw [hl_2]; exact hJl)) (by omega) (by omega) (by omega)) (fun e_11 w_17 hR_14 => ?_)
              obtain ⟨ps_4, A_7, c_7, rfl, hm_7, hRw_4, hAO_4, ⟨M_10, hR_15, hN_8, hs_15, hs_16⟩, hX_6⟩ := hR_14
              obtain ⟨p_2, rfl, hp_2⟩ := map_one hm_7
              have sp_22 : Sep M_8 M_10 := hN_8.sep (sMwr) hMw1.lt
              have sp_23 : Sep (blkA A_7) M_8 := (Sep.new hMw1.lt hRw_4.ge').symm
              have sp_24 : Sep (blkP ([p_2])) M_8 := (Sep.new hMw1.lt hAO_4.ge').symm
              have sp_25 : Sep (blkA A_5) M_10 := hN_8.sep (sMxr) hMx1.lt
              have sp_26 : Sep (blkA A_7) (blkA A_5) := (Sep.new hMx1.lt hRw_4.ge').symm
              have sp_27 : Sep (blkP ([p_2])) (blkA A_5) := (Sep.new hMx1.lt hAO_4.ge').symm
              replace hMw1 := hMw1.keepM hX_6 (sMwr)
              replace hMx1 := hMx1.keepM hX_6 (sMxr)
              have gg_10 := hN_8.ge gMr HBM.size
              replace hRw_4 := hRw_4.mono HBM.size
              replace hAO_4 := hAO_4.mono HBM.size
              have HB_13 := hX_6.below HBM HBM.size gMr
              obtain ⟨g_6, cur_2, rfl, hB_2, hcu_2⟩ := hRw_4.at (i := 0) (by simp)
              have hOp_2 := hAO_4 p_2 (by simp)
              refine ⟨_, rfl, ?_⟩
              refine op_val (d := 76) (v := .tuple #[.slice ((some ⟨g_6, 0, none⟩)) (1) (c_7), .int .i64 ((0 : Nat) : Int)]) rfl rfl (o_move rfl (pe hs_11 rfl rfl)) ?_
              refine op_val (d := 84) (v := .slice ((some ⟨g_6, 0, none⟩)) (1) (c_7)) rfl rfl (o_extract rfl (pe hs_11 rfl rfl) rfl) ?_
              refine op_val (d := 85) (v := .int .i64 ((0 : Nat) : Int)) rfl rfl (o_extract rfl (pe hs_11 rfl rfl) rfl) ?_
              refine op_val (d := 19) (v := .slice ((some ⟨g_6, 0, none⟩)) (1) (c_7)) rfl rfl (o_assign rfl (pe hs_11 rfl rfl)) ?_
              refine op_val (d := 20) (v := .int .i64 ((0 : Nat) : Int)) rfl rfl (o_assign rfl (pe hs_11 rfl rfl)) ?_
              refine x_nil ?_
              refine hK_44 _ _ ?_
              refine w2_seq (fun K_46 hK_46 => ?_)
              refine x_drawn 29 [fun _ v => v = .int .i64 ((0 : Nat) : Int), fun _ v => v = .bool (false), fun _ v => v = .bool (false), fun _ v => v = .slice ((some ⟨g_6, 0, none⟩)) (1) (c_7), fun _ v => v = .int .i64 ((1 : Nat) : Int), fun _ v => v = .bool (true), fun _ v => v = .int .i64 ((J : Nat) : Int), fun _ v => v = .slice A_5 (sizeN lb + 34) (c_5), fun _ v => v = .int .i64 ((sizeN lb + 34 : Nat) : Int), fun _ v => v = .int .i64 (((sizeN lb + 34) - 1 : Nat) : Int), fun _ v => v = .bool (true), fun _ v => v = .bool (false), fun _ v => v = .bool (false), fun _ v => v = .bool (false), fun _ v => v = .slice ((some ⟨g_6, 0, none⟩)) (1) (c_7), fun _ v => v = .int .i64 ((1 : Nat) : Int), fun _ v => v = .bool (false), fun _ v => v = .bool (false), fun _ v => v = .bool (false), fun _ v => v = .slice ((some ⟨g_6, 0, none⟩)) (1) (c_7), fun _ v => v = .int .i64 ((1 : Nat) : Int), fun _ v => v = .bool (true), fun _ v => v = .bool (true), fun _ v => v = .slice ((some ⟨g_6, 0, none⟩)) (1) (c_7), fun _ v => v = .pointer (some ⟨g_6, 0, none⟩), fun _ v => v = .slice p_2.A (p_2.xs.length) (p_2.c), fun _ v => v = .string (strB p_2.xs), fun _ v => v = .slice A2 (lb) (c2), fun _ v => v = .string (strB xb)] [86, 87, 88, 89, 90, 91, 92, 93, 94, 95, 96, 97, 98, 99, 100, 101, 102, 103, 104, 105, 106, 107, 108, 109, 110, 111, 112, 113, 114] hs_11 hd_5 (by kernel_rfl) (by kernel_rfl) (by kernel_rfl) (by kernel_rfl) (by kernel_rfl) ⟨stLit, stLit, stLit, stLit, stLit, stLit, stLit, stLit, stLit, stLit, stLit, stLit, stLit, stLit, stLit, stLit, stLit, stLit, stLit, stLit, stLit, stLit, stLit, stLit, stLit, stLit, stLit, stLit, stLit, trivial⟩ ⟨(step_ok rfl (fun a' w' hb' hO hD => by
                  have d_88 : a'.eval (.tmp 20) = .int .i64 ((0 : Nat) : Int) := (hO 20 (by decide)).trans (pe hs_11 rfl rfl)
                  exact .inl ⟨_, _, (o_move rfl d_88), rfl, Below.refl _ _⟩)),
(step_ok rfl (fun a' w' hb' hO hD => by
                  have d_89 : a'.eval (.tmp 86) = .int .i64 ((0 : Nat) : Int) := hD 0 86 (by kernel_rfl) rfl
                  exact .inl ⟨_, _, (o_eq (o_neq (m := 0) (n := 0) rfl d_89 rfl) rfl), rfl, Below.refl _ _⟩)),
(step_ok rfl (fun a' w' hb' hO hD => by
                  have d_90 : a'.eval (.tmp 87) = .bool (false) := hD 1 87 (by kernel_rfl) rfl
                  exact .inl ⟨_, _, (o_move rfl d_90), rfl, Below.refl _ _⟩)),
(step_yes 2 false 88 rfl rfl (by kernel_rfl) (fun _ _ h => h) (fun a' w' hb' hO hD => by
                  have d_91 : a'.eval (.tmp 19) = .slice ((some ⟨g_6, 0, none⟩)) (1) (c_7) := (hO 19 (by decide)).trans (pe hs_11 rfl rfl)
                  exact .inl ⟨_, _, (o_move rfl d_91), rfl, Below.refl _ _⟩)),
(step_yes 2 false 88 rfl rfl (by kernel_rfl) (fun _ _ h => h) (fun a' w' hb' hO hD => by
                  have d_92 : a'.eval (.tmp 89) = .slice ((some ⟨g_6, 0, none⟩)) (1) (c_7) := hD 3 89 (by kernel_rfl) rfl
                  exact .inl ⟨_, _, (o_lenS rfl d_92), rfl, Below.refl _ _⟩)),
(step_yes 2 false 88 rfl rfl (by kernel_rfl) (fun _ _ h => h) (fun a' w' hb' hO hD => by
                  have d_93 : a'.eval (.tmp 90) = .int .i64 ((1 : Nat) : Int) := hD 4 90 (by kernel_rfl) rfl
                  exact .inl ⟨_, _, (o_eq (o_eql (m := 1) (n := 1) rfl d_93 rfl) rfl), rfl, Below.refl _ _⟩)),
(step_yes 2 false 88 rfl rfl (by kernel_rfl) (fun _ _ h => h) (fun a' w' hb' hO hD => by
                  have d_94 : a'.eval (.tmp 18) = .int .i64 ((J : Nat) : Int) := (hO 18 (by decide)).trans (pe hs_11 rfl rfl)
                  exact .inl ⟨_, _, (o_move rfl d_94), rfl, Below.refl _ _⟩)),
(step_yes 2 false 88 rfl rfl (by kernel_rfl) (fun _ _ h => h) (fun a' w' hb' hO hD => by
                  have d_95 : a'.eval (.tmp 16) = .slice A_5 (sizeN lb + 34) (c_5) := (hO 16 (by decide)).trans ((pm rfl).trans ta_5_16)
                  exact .inl ⟨_, _, (o_move rfl d_95), rfl, Below.refl _ _⟩)),
(step_yes 2 false 88 rfl rfl (by kernel_rfl) (fun _ _ h => h) (fun a' w' hb' hO hD => by
                  have d_96 : a'.eval (.tmp 93) = .slice A_5 (sizeN lb + 34) (c_5) := hD 7 93 (by kernel_rfl) rfl
                  exact .inl ⟨_, _, (o_len rfl d_96), rfl, Below.refl _ _⟩)),
(step_yes 2 false 88 rfl rfl (by kernel_rfl) (fun _ _ h => h) (fun a' w' hb' hO hD => by
                  have d_97 : a'.eval (.tmp 94) = .int .i64 ((sizeN lb + 34 : Nat) : Int) := hD 8 94 (by kernel_rfl) rfl
                  exact .inl ⟨_, _, (o_sub64 (m := (sizeN lb + 34)) (n := 1) rfl d_97 rfl (by omega) (by omega)), rfl, Below.refl _ _⟩)),
(step_yes 2 false 88 rfl rfl (by kernel_rfl) (fun _ _ h => h) (fun a' w' hb' hO hD => by
                  have d_98 : a'.eval (.tmp 92) = .int .i64 ((J : Nat) : Int) := hD 6 92 (by kernel_rfl) rfl
                  have d_99 : a'.eval (.tmp 95) = .int .i64 (((sizeN lb + 34) - 1 : Nat) : Int) := hD 9 95 (by kernel_rfl) rfl
                  have e0 : (.bool (decide (J = ((sizeN lb + 34) - 1))) : Value) = .bool (true) := (by rw [decide_eq_true (by omega)])
                  exact .inl ⟨_, _, (o_eql (m := J) (n := ((sizeN lb + 34) - 1)) rfl d_98 d_99), e0, Below.refl _ _⟩)),
(step_yes 2 false 88 rfl rfl (by kernel_rfl) (fun _ _ h => h) (fun a' w' hb' hO hD => by
                  have d_100 : a'.eval (.tmp 91) = .bool (true) := hD 5 91 (by kernel_rfl) rfl
                  have d_101 : a'.eval (.tmp 96) = .bool (true) := hD 10 96 (by kernel_rfl) rfl
                  have e0 : (.bool (! (true == true)) : Value) = .bool (false) := rfl
                  exact .inl ⟨_, _, (o_neB rfl d_100 d_101 (fun _ => by kernel_rfl)), e0, Below.refl _ _⟩)),
(step_ok rfl (fun a' w' hb' hO hD => by
                  have d_102 : a'.eval (.tmp 88) = .bool (false) := hD 2 88 (by kernel_rfl) rfl
                  have d_103 : a'.eval (.tmp 97) = .bool (false) := hD 11 97 (by kernel_rfl) rfl
                  exact .inl ⟨_, _, (o_pickF rfl d_102 d_103), rfl, Below.refl _ _⟩)),
(step_ok rfl (fun a' w' hb' hO hD => by
                  have d_104 : a'.eval (.tmp 98) = .bool (false) := hD 12 98 (by kernel_rfl) rfl
                  exact .inl ⟨_, _, (o_move rfl d_104), rfl, Below.refl _ _⟩)),
(step_yes 13 false 99 rfl rfl (by kernel_rfl) (fun _ _ h => h) (fun a' w' hb' hO hD => by
                  have d_105 : a'.eval (.tmp 19) = .slice ((some ⟨g_6, 0, none⟩)) (1) (c_7) := (hO 19 (by decide)).trans (pe hs_11 rfl rfl)
                  exact .inl ⟨_, _, (o_move rfl d_105), rfl, Below.refl _ _⟩)),
(step_yes 13 false 99 rfl rfl (by kernel_rfl) (fun _ _ h => h) (fun a' w' hb' hO hD => by
                  have d_106 : a'.eval (.tmp 100) = .slice ((some ⟨g_6, 0, none⟩)) (1) (c_7) := hD 14 100 (by kernel_rfl) rfl
                  exact .inl ⟨_, _, (o_lenS rfl d_106), rfl, Below.refl _ _⟩)),
(step_yes 13 false 99 rfl rfl (by kernel_rfl) (fun _ _ h => h) (fun a' w' hb' hO hD => by
                  have d_107 : a'.eval (.tmp 101) = .int .i64 ((1 : Nat) : Int) := hD 15 101 (by kernel_rfl) rfl
                  exact .inl ⟨_, _, (o_eq (o_gtr (m := 1) (n := 1) rfl d_107 rfl) rfl), rfl, Below.refl _ _⟩)),
(step_ok rfl (fun a' w' hb' hO hD => by
                  have d_108 : a'.eval (.tmp 99) = .bool (false) := hD 13 99 (by kernel_rfl) rfl
                  have d_109 : a'.eval (.tmp 102) = .bool (false) := hD 16 102 (by kernel_rfl) rfl
                  exact .inl ⟨_, _, (o_pickF rfl d_108 d_109), rfl, Below.refl _ _⟩)),
(step_ok rfl (fun a' w' hb' hO hD => by
                  have d_110 : a'.eval (.tmp 103) = .bool (false) := hD 17 103 (by kernel_rfl) rfl
                  exact .inl ⟨_, _, (o_move rfl d_110), rfl, Below.refl _ _⟩)),
(step_yes 18 false 104 rfl rfl (by kernel_rfl) (fun _ _ h => h) (fun a' w' hb' hO hD => by
                  have d_111 : a'.eval (.tmp 19) = .slice ((some ⟨g_6, 0, none⟩)) (1) (c_7) := (hO 19 (by decide)).trans (pe hs_11 rfl rfl)
                  exact .inl ⟨_, _, (o_move rfl d_111), rfl, Below.refl _ _⟩)),
(step_yes 18 false 104 rfl rfl (by kernel_rfl) (fun _ _ h => h) (fun a' w' hb' hO hD => by
                  have d_112 : a'.eval (.tmp 105) = .slice ((some ⟨g_6, 0, none⟩)) (1) (c_7) := hD 19 105 (by kernel_rfl) rfl
                  exact .inl ⟨_, _, (o_lenS rfl d_112), rfl, Below.refl _ _⟩)),
(step_yes 18 false 104 rfl rfl (by kernel_rfl) (fun _ _ h => h) (fun a' w' hb' hO hD => by
                  have d_113 : a'.eval (.tmp 106) = .int .i64 ((1 : Nat) : Int) := hD 20 106 (by kernel_rfl) rfl
                  exact .inl ⟨_, _, (o_eq (o_eql (m := 1) (n := 1) rfl d_113 rfl) rfl), rfl, Below.refl _ _⟩)),
(step_yes 18 false 104 rfl rfl (by kernel_rfl) (fun _ _ h => h) (fun a' w' hb' hO hD => by
                  have d_114 : a'.eval (.tmp 107) = .bool (true) := hD 21 107 (by kernel_rfl) rfl
                  exact .inl ⟨_, _, (o_move rfl d_114), rfl, Below.refl _ _⟩)),
(step_yes 22 true 108 rfl rfl (by kernel_rfl) (fun _ _ h => h) (fun a' w' hb' hO hD => by
                  have d_115 : a'.eval (.tmp 19) = .slice ((some ⟨g_6, 0, none⟩)) (1) (c_7) := (hO 19 (by decide)).trans (pe hs_11 rfl rfl)
                  exact .inl ⟨_, _, (o_move rfl d_115), rfl, Below.refl _ _⟩)),
(step_yes 22 true 108 rfl rfl (by kernel_rfl) (fun _ _ h => h) (fun a' w' hb' hO hD => by
                  have d_116 : a'.eval (.tmp 109) = .slice ((some ⟨g_6, 0, none⟩)) (1) (c_7) := hD 23 109 (by kernel_rfl) rfl
                  exact .inl ⟨_, _, (zero_off (o_ixS (off := 0) (i := 0) rfl d_116 rfl (by omega))), rfl, Below.refl _ _⟩)),
(step_yes 22 true 108 rfl rfl (by kernel_rfl) (fun _ _ h => h) (fun a' w' hb' hO hD => by
                  have d_117 : a'.eval (.tmp 110) = .pointer (some ⟨g_6, 0, none⟩) := hD 24 110 (by kernel_rfl) rfl
                  exact .inl ⟨_, _, (o_load1 rfl d_117 (hB_2.nx hb') hcu_2 ⟨by kernel_rfl, by kernel_rfl⟩), rfl, Below.refl _ _⟩)),
(step_yes 22 true 108 rfl rfl (by kernel_rfl) (fun _ _ h => h) (fun a' w' hb' hO hD => by
                  have d_118 : a'.eval (.tmp 111) = .slice p_2.A (p_2.xs.length) (p_2.c) := hD 25 111 (by kernel_rfl) rfl
                  exact .inl ⟨_, _, (o_str rfl d_118 ((hOp_2.nx hb')).bs rfl), rfl, Below.refl _ _⟩)),
(step_yes 22 true 108 rfl rfl (by kernel_rfl) (fun _ _ h => h) (fun a' w' hb' hO hD => by
                  have d_119 : a'.eval (.tmp 15) = .slice A2 (lb) (c2) := (hO 15 (by decide)).trans ((pm rfl).trans ta_5_15)
                  exact .inl ⟨_, _, (o_move rfl d_119), rfl, Below.refl _ _⟩)),
(step_yes 22 true 108 rfl rfl (by kernel_rfl) (fun _ _ h => h) (fun a' w' hb' hO hD => by
                  have d_120 : a'.eval (.tmp 113) = .slice A2 (lb) (c2) := hD 27 113 (by kernel_rfl) rfl
                  exact .inl ⟨_, _, (o_str rfl d_120 (h2.below (below_from HB_13 hb')) hlb), rfl, Below.refl _ _⟩)), trivial⟩ (fun a_7 w_18 hs_17 hd_7 hb_9 hO_4 hV_4 => ?_)
              have ta_7_0 : a_7.eval (.tmp 0) = .slice A0 (m) (c0) := (hO_4 0 (by decide)).trans ((pm rfl).trans ta_5_0)
              have ta_7_1 : a_7.eval (.tmp 1) = .slice A1 (la) (c1) := (hO_4 1 (by decide)).trans ((pm rfl).trans ta_5_1)
              have ta_7_2 : a_7.eval (.tmp 2) = .slice A2 (lb) (c2) := (hO_4 2 (by decide)).trans ((pm rfl).trans ta_5_2)
              have ta_7_21 : a_7.eval (.tmp 21) = .slice A1 (la) (c1) := (hO_4 21 (by decide)).trans ((pm rfl).trans ta_5_21)
              have ta_7_22 : a_7.eval (.tmp 22) = .int .i64 ((la : Nat) : Int) := (hO_4 22 (by decide)).trans ((pm rfl).trans ta_5_22)
              have ta_7_23 : a_7.eval (.tmp 23) = .bool (false) := (hO_4 23 (by decide)).trans ((pm rfl).trans ta_5_23)
              have ta_7_24 : a_7.eval (.tmp 24) = .bool (false) := (hO_4 24 (by decide)).trans ((pm rfl).trans ta_5_24)
              have ta_7_25 : a_7.eval (.tmp 25) = .slice A2 (lb) (c2) := (hO_4 25 (by decide)).trans ((pm rfl).trans ta_5_25)
              have ta_7_26 : a_7.eval (.tmp 26) = .int .i64 ((lb : Nat) : Int) := (hO_4 26 (by decide)).trans ((pm rfl).trans ta_5_26)
              have ta_7_27 : a_7.eval (.tmp 27) = .bool (false) := (hO_4 27 (by decide)).trans ((pm rfl).trans ta_5_27)
              have ta_7_28 : a_7.eval (.tmp 28) = .bool (false) := (hO_4 28 (by decide)).trans ((pm rfl).trans ta_5_28)
              have ta_7_30 : a_7.eval (.tmp 30) = .slice A0 (m) (c0) := (hO_4 30 (by decide)).trans ((pm rfl).trans ta_5_30)
              have ta_7_31 : a_7.eval (.tmp 31) = .slice A_1 (32) (c_1) := (hO_4 31 (by decide)).trans ((pm rfl).trans ta_5_31)
              have ta_7_7 : a_7.eval (.tmp 7) = .slice A_1 (32) (c_1) := (hO_4 7 (by decide)).trans ((pm rfl).trans ta_5_7)
              have ta_7_33 : a_7.eval (.tmp 33) = .slice A_1 (32) (c_1) := (hO_4 33 (by decide)).trans ((pm rfl).trans ta_5_33)
              have ta_7_34 : a_7.eval (.tmp 34) = .tuple #[.pointer (some ⟨g_1, 0, none⟩), .int .i64 ((0 : Nat) : Int)] := (hO_4 34 (by decide)).trans ((pm rfl).trans ta_5_34)
              have ta_7_32 : a_7.eval (.tmp 32) = .tuple #[.pointer (some ⟨g_1, 0, none⟩), .int .i64 ((0 : Nat) : Int)] := (hO_4 32 (by decide)).trans ((pm rfl).trans ta_5_32)
              have ta_7_35 : a_7.eval (.tmp 35) = .pointer (some ⟨g_1, 0, none⟩) := (hO_4 35 (by decide)).trans ((pm rfl).trans ta_5_35)
              have ta_7_36 : a_7.eval (.tmp 36) = .int .i64 ((0 : Nat) : Int) := (hO_4 36 (by decide)).trans ((pm rfl).trans ta_5_36)
              have ta_7_8 : a_7.eval (.tmp 8) = .pointer (some ⟨g_1, 0, none⟩) := (hO_4 8 (by decide)).trans ((pm rfl).trans ta_5_8)
              have ta_7_9 : a_7.eval (.tmp 9) = .int .i64 ((0 : Nat) : Int) := (hO_4 9 (by decide)).trans ((pm rfl).trans ta_5_9)
              have ta_7_38 : a_7.eval (.tmp 38) = .slice A_1 (32) (c_1) := (hO_4 38 (by decide)).trans ((pm rfl).trans ta_5_38)
              have ta_7_39 : a_7.eval (.tmp 39) = .tuple #[.pointer (some ⟨g_2, 0, none⟩), .int .i64 ((0 : Nat) : Int)] := (hO_4 39 (by decide)).trans ((pm rfl).trans ta_5_39)
              have ta_7_37 : a_7.eval (.tmp 37) = .tuple #[.pointer (some ⟨g_2, 0, none⟩), .int .i64 ((0 : Nat) : Int)] := (hO_4 37 (by decide)).trans ((pm rfl).trans ta_5_37)
              have ta_7_40 : a_7.eval (.tmp 40) = .pointer (some ⟨g_2, 0, none⟩) := (hO_4 40 (by decide)).trans ((pm rfl).trans ta_5_40)
              have ta_7_41 : a_7.eval (.tmp 41) = .int .i64 ((0 : Nat) : Int) := (hO_4 41 (by decide)).trans ((pm rfl).trans ta_5_41)
              have ta_7_10 : a_7.eval (.tmp 10) = .pointer (some ⟨g_2, 0, none⟩) := (hO_4 10 (by decide)).trans ((pm rfl).trans ta_5_10)
              have ta_7_11 : a_7.eval (.tmp 11) = .int .i64 ((0 : Nat) : Int) := (hO_4 11 (by decide)).trans ((pm rfl).trans ta_5_11)
              have ta_7_42 : a_7.eval (.tmp 42) = .int .i64 ((0 : Nat) : Int) := (hO_4 42 (by decide)).trans ((pm rfl).trans ta_5_42)
              have ta_7_43 : a_7.eval (.tmp 43) = .bool (false) := (hO_4 43 (by decide)).trans ((pm rfl).trans ta_5_43)
              have ta_7_44 : a_7.eval (.tmp 44) = .bool (false) := (hO_4 44 (by decide)).trans ((pm rfl).trans ta_5_44)
              have ta_7_45 : a_7.eval (.tmp 45) = .int .i64 ((0 : Nat) : Int) := (hO_4 45 (by decide)).trans ((pm rfl).trans ta_5_45)
              have ta_7_46 : a_7.eval (.tmp 46) = .bool (false) := (hO_4 46 (by decide)).trans ((pm rfl).trans ta_5_46)
              have ta_7_47 : a_7.eval (.tmp 47) = .bool (false) := (hO_4 47 (by decide)).trans ((pm rfl).trans ta_5_47)
              have ta_7_48 : a_7.eval (.tmp 48) = .pointer (some ⟨g_1, 0, none⟩) := (hO_4 48 (by decide)).trans ((pm rfl).trans ta_5_48)
              have ta_7_49 : a_7.eval (.tmp 49) = .pointer (some ⟨g_3, 0, none⟩) := (hO_4 49 (by decide)).trans ((pm rfl).trans ta_5_49)
              have ta_7_50 : a_7.eval (.tmp 50) = .pointer (some ⟨g_2, 0, none⟩) := (hO_4 50 (by decide)).trans ((pm rfl).trans ta_5_50)
              have ta_7_51 : a_7.eval (.tmp 51) = .pointer (some ⟨g_4, 0, none⟩) := (hO_4 51 (by decide)).trans ((pm rfl).trans ta_5_51)
              have ta_7_12 : a_7.eval (.tmp 12) = .pointer (some ⟨g_3, 0, none⟩) := (hO_4 12 (by decide)).trans ((pm rfl).trans ta_5_12)
              have ta_7_13 : a_7.eval (.tmp 13) = .pointer (some ⟨g_4, 0, none⟩) := (hO_4 13 (by decide)).trans ((pm rfl).trans ta_5_13)
              have ta_7_52 : a_7.eval (.tmp 52) = .slice A1 (la) (c1) := (hO_4 52 (by decide)).trans ((pm rfl).trans ta_5_52)
              have ta_7_53 : a_7.eval (.tmp 53) = .slice A2 (lb) (c2) := (hO_4 53 (by decide)).trans ((pm rfl).trans ta_5_53)
              have ta_7_54 : a_7.eval (.tmp 54) = .agg #[.slice A1 (la) (c1), .slice A2 (lb) (c2)] := (hO_4 54 (by decide)).trans ((pm rfl).trans ta_5_54)
              have ta_7_55 : a_7.eval (.tmp 55) = .int .i64 ((1 : Nat) : Int) := (hO_4 55 (by decide)).trans ((pm rfl).trans ta_5_55)
              have ta_7_56 : a_7.eval (.tmp 56) = .bool (decide (1 < 2)) := (hO_4 56 (by decide)).trans ((pm rfl).trans ta_5_56)
              have ta_7_57 : a_7.eval (.tmp 57) = .slice A2 (lb) (c2) := (hO_4 57 (by decide)).trans ((pm rfl).trans ta_5_57)
              have ta_7_15 : a_7.eval (.tmp 15) = .slice A2 (lb) (c2) := (hO_4 15 (by decide)).trans ((pm rfl).trans ta_5_15)
              have ta_7_59 : a_7.eval (.tmp 59) = .pointer (some ⟨g_3, 0, none⟩) := (hO_4 59 (by decide)).trans ((pm rfl).trans ta_5_59)
              have ta_7_60 : a_7.eval (.tmp 60) = .slice A2 (lb) (c2) := (hO_4 60 (by decide)).trans ((pm rfl).trans ta_5_60)
              have ta_7_61 : a_7.eval (.tmp 61) = .tuple #[.slice A_5 (sizeN lb + 34) (c_5), .int .i64 ((0 : Nat) : Int)] := (hO_4 61 (by decide)).trans ((pm rfl).trans ta_5_61)
              have ta_7_58 : a_7.eval (.tmp 58) = .tuple #[.slice A_5 (sizeN lb + 34) (c_5), .int .i64 ((0 : Nat) : Int)] := (hO_4 58 (by decide)).trans ((pm rfl).trans ta_5_58)
              have ta_7_62 : a_7.eval (.tmp 62) = .slice A_5 (sizeN lb + 34) (c_5) := (hO_4 62 (by decide)).trans ((pm rfl).trans ta_5_62)
              have ta_7_63 : a_7.eval (.tmp 63) = .int .i64 ((0 : Nat) : Int) := (hO_4 63 (by decide)).trans ((pm rfl).trans ta_5_63)
              have ta_7_16 : a_7.eval (.tmp 16) = .slice A_5 (sizeN lb + 34) (c_5) := (hO_4 16 (by decide)).trans ((pm rfl).trans ta_5_16)
              have ta_7_17 : a_7.eval (.tmp 17) = .int .i64 ((0 : Nat) : Int) := (hO_4 17 (by decide)).trans ((pm rfl).trans ta_5_17)
              have ta_7_64 : a_7.eval (.tmp 64) = .int .i64 ((0 : Nat) : Int) := (hO_4 64 (by decide)).trans ((pm rfl).trans ta_5_64)
              have ta_7_65 : a_7.eval (.tmp 65) = .bool (false) := (hO_4 65 (by decide)).trans ((pm rfl).trans ta_5_65)
              have ta_7_66 : a_7.eval (.tmp 66) = .bool (false) := (hO_4 66 (by decide)).trans ((pm rfl).trans ta_5_66)
              have ta_7_67 : a_7.eval (.tmp 67) = .slice A_5 (sizeN lb + 34) (c_5) := (hO_4 67 (by decide)).trans ((pm rfl).trans ta_5_67)
              have ta_7_68 : a_7.eval (.tmp 68) = .int .i64 ((sizeN lb + 34 : Nat) : Int) := (hO_4 68 (by decide)).trans ((pm rfl).trans ta_5_68)
              have ta_7_69 : a_7.eval (.tmp 69) = .bool (false) := (hO_4 69 (by decide)).trans ((pm rfl).trans ta_5_69)
              have ta_7_70 : a_7.eval (.tmp 70) = .bool (false) := (hO_4 70 (by decide)).trans ((pm rfl).trans ta_5_70)
              have ta_7_71 : a_7.eval (.tmp 71) = .slice A_5 (sizeN lb + 34) (c_5) := (hO_4 71 (by decide)).trans ((pm rfl).trans ta_5_71)
              have ta_7_72 : a_7.eval (.tmp 72) = .int .i64 ((sizeN lb + 34 : Nat) : Int) := (hO_4 72 (by decide)).trans ((pm rfl).trans ta_5_72)
              have ta_7_73 : a_7.eval (.tmp 73) = .int .i64 ((J : Nat) : Int) := (hO_4 73 (by decide)).trans ((pm rfl).trans ta_5_73)
              have ta_7_74 : a_7.eval (.tmp 74) = .bool (decide (J < (sizeN lb + 34))) := (hO_4 74 (by decide)).trans (pe hs_11 rfl rfl)
              have ta_7_75 : a_7.eval (.tmp 75) = .int .i64 ((J : Nat) : Int) := (hO_4 75 (by decide)).trans (pe hs_11 rfl rfl)
              have ta_7_18 : a_7.eval (.tmp 18) = .int .i64 ((J : Nat) : Int) := (hO_4 18 (by decide)).trans (pe hs_11 rfl rfl)
              have ta_7_77 : a_7.eval (.tmp 77) = .pointer (some ⟨g_4, 0, none⟩) := (hO_4 77 (by decide)).trans (pe hs_11 rfl rfl)
              have ta_7_78 : a_7.eval (.tmp 78) = .slice A_5 (sizeN lb + 34) (c_5) := (hO_4 78 (by decide)).trans (pe hs_11 rfl rfl)
              have ta_7_79 : a_7.eval (.tmp 79) = .int .i64 ((J : Nat) : Int) := (hO_4 79 (by decide)).trans (pe hs_11 rfl rfl)
              have ta_7_80 : a_7.eval (.tmp 80) = .int .i64 ((J : Nat) : Int) := (hO_4 80 (by decide)).trans (pe hs_11 rfl rfl)
              have ta_7_81 : a_7.eval (.tmp 81) = .int .i64 ((J + 1 : Nat) : Int) := (hO_4 81 (by decide)).trans (pe hs_11 rfl rfl)
              have ta_7_82 : a_7.eval (.tmp 82) = .slice ((subA A_5 J c_5)) ((J + 1) - J) (c_5 - J) := (hO_4 82 (by decide)).trans (pe hs_11 rfl rfl)
              have ta_7_83 : a_7.eval (.tmp 83) = .tuple #[.slice ((some ⟨g_6, 0, none⟩)) (1) (c_7), .int .i64 ((0 : Nat) : Int)] := (hO_4 83 (by decide)).trans (pe hs_11 rfl rfl)
              have ta_7_76 : a_7.eval (.tmp 76) = .tuple #[.slice ((some ⟨g_6, 0, none⟩)) (1) (c_7), .int .i64 ((0 : Nat) : Int)] := (hO_4 76 (by decide)).trans (pe hs_11 rfl rfl)
              have ta_7_84 : a_7.eval (.tmp 84) = .slice ((some ⟨g_6, 0, none⟩)) (1) (c_7) := (hO_4 84 (by decide)).trans (pe hs_11 rfl rfl)
              have ta_7_85 : a_7.eval (.tmp 85) = .int .i64 ((0 : Nat) : Int) := (hO_4 85 (by decide)).trans (pe hs_11 rfl rfl)
              have ta_7_19 : a_7.eval (.tmp 19) = .slice ((some ⟨g_6, 0, none⟩)) (1) (c_7) := (hO_4 19 (by decide)).trans (pe hs_11 rfl rfl)
              have ta_7_20 : a_7.eval (.tmp 20) = .int .i64 ((0 : Nat) : Int) := (hO_4 20 (by decide)).trans (pe hs_11 rfl rfl)
              clear ta_5_0 ta_5_1 ta_5_2 ta_5_21 ta_5_22 ta_5_23 ta_5_24 ta_5_25 ta_5_26 ta_5_27 ta_5_28 ta_5_30 ta_5_31 ta_5_7 ta_5_33 ta_5_34 ta_5_32 ta_5_35 ta_5_36 ta_5_8 ta_5_9 ta_5_38 ta_5_39 ta_5_37 ta_5_40 ta_5_41 ta_5_10 ta_5_11 ta_5_42 ta_5_43 ta_5_44 ta_5_45 ta_5_46 ta_5_47 ta_5_48 ta_5_49 ta_5_50 ta_5_51 ta_5_12 ta_5_13 ta_5_52 ta_5_53 ta_5_54 ta_5_55 ta_5_56 ta_5_57 ta_5_15 ta_5_59 ta_5_60 ta_5_61 ta_5_58 ta_5_62 ta_5_63 ta_5_16 ta_5_17 ta_5_64 ta_5_65 ta_5_66 ta_5_67 ta_5_68 ta_5_69 ta_5_70 ta_5_71 ta_5_72 ta_5_73 hd_5
              replace hMw1 := hMw1.nx hb_9
              replace hMx1 := hMx1.nx hb_9
              replace hR_15 := hR_15.nx hb_9
              replace hRw_4 := hRw_4.nx hb_9
              replace hAO_4 := hAO_4.nx hb_9
              replace hB_2 := hB_2.nx hb_9
              replace hOp_2 := hOp_2.nx hb_9
              have HB_14 := below_from HB_13 hb_9
              have ta_7_86 : a_7.eval (.tmp 86) = .int .i64 ((0 : Nat) : Int) := hV_4 0 86 rfl rfl
              have ta_7_87 : a_7.eval (.tmp 87) = .bool (false) := hV_4 1 87 rfl rfl
              have ta_7_88 : a_7.eval (.tmp 88) = .bool (false) := hV_4 2 88 rfl rfl
              have ta_7_89 : a_7.eval (.tmp 89) = .slice ((some ⟨g_6, 0, none⟩)) (1) (c_7) := hV_4 3 89 rfl rfl
              have ta_7_90 : a_7.eval (.tmp 90) = .int .i64 ((1 : Nat) : Int) := hV_4 4 90 rfl rfl
              have ta_7_91 : a_7.eval (.tmp 91) = .bool (true) := hV_4 5 91 rfl rfl
              have ta_7_92 : a_7.eval (.tmp 92) = .int .i64 ((J : Nat) : Int) := hV_4 6 92 rfl rfl
              have ta_7_93 : a_7.eval (.tmp 93) = .slice A_5 (sizeN lb + 34) (c_5) := hV_4 7 93 rfl rfl
              have ta_7_94 : a_7.eval (.tmp 94) = .int .i64 ((sizeN lb + 34 : Nat) : Int) := hV_4 8 94 rfl rfl
              have ta_7_95 : a_7.eval (.tmp 95) = .int .i64 (((sizeN lb + 34) - 1 : Nat) : Int) := hV_4 9 95 rfl rfl
              have ta_7_96 : a_7.eval (.tmp 96) = .bool (true) := hV_4 10 96 rfl rfl
              have ta_7_97 : a_7.eval (.tmp 97) = .bool (false) := hV_4 11 97 rfl rfl
              have ta_7_98 : a_7.eval (.tmp 98) = .bool (false) := hV_4 12 98 rfl rfl
              have ta_7_99 : a_7.eval (.tmp 99) = .bool (false) := hV_4 13 99 rfl rfl
              have ta_7_100 : a_7.eval (.tmp 100) = .slice ((some ⟨g_6, 0, none⟩)) (1) (c_7) := hV_4 14 100 rfl rfl
              have ta_7_101 : a_7.eval (.tmp 101) = .int .i64 ((1 : Nat) : Int) := hV_4 15 101 rfl rfl
              have ta_7_102 : a_7.eval (.tmp 102) = .bool (false) := hV_4 16 102 rfl rfl
              have ta_7_103 : a_7.eval (.tmp 103) = .bool (false) := hV_4 17 103 rfl rfl
              have ta_7_104 : a_7.eval (.tmp 104) = .bool (false) := hV_4 18 104 rfl rfl
              have ta_7_105 : a_7.eval (.tmp 105) = .slice ((some ⟨g_6, 0, none⟩)) (1) (c_7) := hV_4 19 105 rfl rfl
              have ta_7_106 : a_7.eval (.tmp 106) = .int .i64 ((1 : Nat) : Int) := hV_4 20 106 rfl rfl
              have ta_7_107 : a_7.eval (.tmp 107) = .bool (true) := hV_4 21 107 rfl rfl
              have ta_7_108 : a_7.eval (.tmp 108) = .bool (true) := hV_4 22 108 rfl rfl
              have ta_7_109 : a_7.eval (.tmp 109) = .slice ((some ⟨g_6, 0, none⟩)) (1) (c_7) := hV_4 23 109 rfl rfl
              have ta_7_110 : a_7.eval (.tmp 110) = .pointer (some ⟨g_6, 0, none⟩) := hV_4 24 110 rfl rfl
              have ta_7_111 : a_7.eval (.tmp 111) = .slice p_2.A (p_2.xs.length) (p_2.c) := hV_4 25 111 rfl rfl
              have ta_7_112 : a_7.eval (.tmp 112) = .string (strB p_2.xs) := hV_4 26 112 rfl rfl
              have ta_7_113 : a_7.eval (.tmp 113) = .slice A2 (lb) (c2) := hV_4 27 113 rfl rfl
              have ta_7_114 : a_7.eval (.tmp 114) = .string (strB xb) := hV_4 28 114 rfl rfl
              clear hV_4 hO_4
              simp only [List.drop_succ_cons, List.drop_zero]
              refine op_valG (e := 108) (d := 115) (v := .bool (false)) rfl rfl (by kernel_rfl) ((pm rfl).trans ta_7_108) (o_neS rfl ((pm rfl).trans ta_7_112) ((pm rfl).trans ta_7_114) (by rw [hp_2])) ?_
              refine op_valG (e := 104) (d := 116) (v := .bool (false)) rfl rfl (by kernel_rfl) ((pm rfl).trans ta_7_104) (o_pickT rfl ((pm rfl).trans ta_7_108) (pe hs_17 rfl rfl)) ?_
              refine op_val (d := 117) (v := .bool (false)) rfl rfl (o_pickF rfl ((pm rfl).trans ta_7_104) (pe hs_17 rfl rfl)) ?_
              refine x_nil ?_
              refine hK_46 _ _ ?_
              refine w2_condF (pe hs_17 rfl rfl) ?_
              refine w2_skip ?_
              refine hK_42 _ _ ?_
              refine hK_41 _ _ ?_
              refine x_region (by kernel_rfl) ?_
              refine op_val (d := 118) (v := .int .i64 ((J + 1 : Nat) : Int)) rfl rfl (o_add64 (m := J) (n := 1) rfl ((pm rfl).trans ta_7_73) rfl (by omega)) ?_
              refine op_val (d := 73) (v := .int .i64 ((J + 1 : Nat) : Int)) rfl rfl (o_move rfl (pe hs_17 rfl rfl)) ?_
              refine x_nil ?_
              refine hK_38 _ _ _ ⟨J + 1, M_10, rfl, (by rw [putsR_size]; exact hs_17), (by rw [putsR_defers]; exact hd_7), ((pm rfl).trans ta_7_0), ((pm rfl).trans ta_7_1), ((pm rfl).trans ta_7_2), ((pm rfl).trans ta_7_7), ((pm rfl).trans ta_7_8), ((pm rfl).trans ta_7_9), ((pm rfl).trans ta_7_10), ((pm rfl).trans ta_7_11), ((pm rfl).trans ta_7_12), ((pm rfl).trans ta_7_13), ((pm rfl).trans ta_7_15), ((pm rfl).trans ta_7_16), ((pm rfl).trans ta_7_17), ((pm rfl).trans ta_7_21), ((pm rfl).trans ta_7_22), ((pm rfl).trans ta_7_23), ((pm rfl).trans ta_7_24), ((pm rfl).trans ta_7_25), ((pm rfl).trans ta_7_26), ((pm rfl).trans ta_7_27), ((pm rfl).trans ta_7_28), ((pm rfl).trans ta_7_30), ((pm rfl).trans ta_7_31), ((pm rfl).trans ta_7_32), ((pm rfl).trans ta_7_33), ((pm rfl).trans ta_7_34), ((pm rfl).trans ta_7_35), ((pm rfl).trans ta_7_36), ((pm rfl).trans ta_7_37), ((pm rfl).trans ta_7_38), ((pm rfl).trans ta_7_39), ((pm rfl).trans ta_7_40), ((pm rfl).trans ta_7_41), ((pm rfl).trans ta_7_42), ((pm rfl).trans ta_7_43), ((pm rfl).trans ta_7_44), ((pm rfl).trans ta_7_45), ((pm rfl).trans ta_7_46), ((pm rfl).trans ta_7_47), ((pm rfl).trans ta_7_48), ((pm rfl).trans ta_7_49), ((pm rfl).trans ta_7_50), ((pm rfl).trans ta_7_51), ((pm rfl).trans ta_7_52), ((pm rfl).trans ta_7_53), ((pm rfl).trans ta_7_54), ((pm rfl).trans ta_7_55), ((pm rfl).trans ta_7_56), ((pm rfl).trans ta_7_57), ((pm rfl).trans ta_7_58), ((pm rfl).trans ta_7_59), ((pm rfl).trans ta_7_60), ((pm rfl).trans ta_7_61), ((pm rfl).trans ta_7_62), ((pm rfl).trans ta_7_63), ((pm rfl).trans ta_7_64), ((pm rfl).trans ta_7_65), ((pm rfl).trans ta_7_66), ((pm rfl).trans ta_7_67), ((pm rfl).trans ta_7_68), ((pm rfl).trans ta_7_69), ((pm rfl).trans ta_7_70), ((pm rfl).trans ta_7_71), ((pm rfl).trans ta_7_72), (pe hs_17 rfl rfl), (by omega), hMw1, (by rw [hJl, ← hl_2, piece_all _ (by omega)]; exact hR_15), hMx1, sp_22, sp_25, gg_10, HB_14⟩ ?_
              omega
          · simp only [decide_eq_true_eq, decide_eq_false_iff_not, Bool.not_eq_true', Bool.not_eq_false', Bool.not_true, Bool.not_false, Nat.not_lt, Nat.not_le] at h_3
            obtain rfl : J = sizeN lb + 34 := by omega
            rw [← hl_2, piece_all _ (by omega)] at hMr1
            refine w2_exit ?_
            refine thn_exit ?_
            refine thn_exit ?_
            refine exb_hit ?_
            refine hK_37 _ _ ?_
            refine hK_17 _ _ ?_
            refine hK_16 _ _ ?_
            refine x_region (by kernel_rfl) ?_
            refine op_val (d := 119) (v := .int .i64 ((1 + 1 : Nat) : Int)) rfl rfl (o_add64 (m := 1) (n := 1) rfl ((pm rfl).trans ta_5_55) rfl (by omega)) ?_
            refine op_val (d := 55) (v := .int .i64 ((1 + 1 : Nat) : Int)) rfl rfl (o_move rfl (pe hs_11 rfl rfl)) ?_
            refine x_nil ?_
            refine hK_13 _ _ _ ⟨2, M_8, Mq, rfl, (by rw [putsR_size]; exact hs_11), (by rw [putsR_defers]; exact hd_5), ((pm rfl).trans ta_5_0), ((pm rfl).trans ta_5_1), ((pm rfl).trans ta_5_2), ((pm rfl).trans ta_5_7), ((pm rfl).trans ta_5_8), ((pm rfl).trans ta_5_9), ((pm rfl).trans ta_5_10), ((pm rfl).trans ta_5_11), ((pm rfl).trans ta_5_12), ((pm rfl).trans ta_5_13), ((pm rfl).trans ta_5_21), ((pm rfl).trans ta_5_22), ((pm rfl).trans ta_5_23), ((pm rfl).trans ta_5_24), ((pm rfl).trans ta_5_25), ((pm rfl).trans ta_5_26), ((pm rfl).trans ta_5_27), ((pm rfl).trans ta_5_28), ((pm rfl).trans ta_5_30), ((pm rfl).trans ta_5_31), ((pm rfl).trans ta_5_32), ((pm rfl).trans ta_5_33), ((pm rfl).trans ta_5_34), ((pm rfl).trans ta_5_35), ((pm rfl).trans ta_5_36), ((pm rfl).trans ta_5_37), ((pm rfl).trans ta_5_38), ((pm rfl).trans ta_5_39), ((pm rfl).trans ta_5_40), ((pm rfl).trans ta_5_41), ((pm rfl).trans ta_5_42), ((pm rfl).trans ta_5_43), ((pm rfl).trans ta_5_44), ((pm rfl).trans ta_5_45), ((pm rfl).trans ta_5_46), ((pm rfl).trans ta_5_47), ((pm rfl).trans ta_5_48), ((pm rfl).trans ta_5_49), ((pm rfl).trans ta_5_50), ((pm rfl).trans ta_5_51), ((pm rfl).trans ta_5_52), ((pm rfl).trans ta_5_53), ((pm rfl).trans ta_5_54), (pe hs_11 rfl rfl), (by omega), (by rw [show putsL co ([xa, xb].take 2) = P1.put from by rw [hP1]; rfl]; exact hMw1), (by rw [show putsL co ([xa, xb].take 2) = P1.put from by rw [hP1]; rfl]; exact hMr1), sMwr, gg_8, gMr, HBM⟩ ?_
            omega
    · simp only [decide_eq_true_eq, decide_eq_false_iff_not, Bool.not_eq_true', Bool.not_eq_false', Bool.not_true, Bool.not_false, Nat.not_lt, Nat.not_le] at h_1
      have hge := h_1
      refine w2_exit ?_
      refine thn_exit ?_
      refine thn_exit ?_
      refine exb_hit ?_
      refine hK_12 _ _ ?_
      refine hK_10 _ _ ?_
      refine w2_seq (fun K_47 hK_47 => ?_)
      refine x_region (by kernel_rfl) ?_
      refine op_val (d := 120) (v := .pointer (some ⟨g_4, 0, none⟩)) rfl rfl (o_move rfl ((pm rfl).trans ta_1_13)) ?_
      refine op_call (vs := #[.pointer (some ⟨g_4, 0, none⟩)]) rfl rfl (exec_call Try.func42 (by kernel_rfl) (by kernel_rfl) _ rfl _ _ (args1 (pe hs_1 rfl rfl))) (RLeft_any _ hLr) (fun e_12 w_19 hR_16 => ?_)
      obtain ⟨rfl, rfl⟩ := hR_16
      refine ⟨_, rfl, ?_⟩
      refine op_val (d := 122) (v := .bool (true)) rfl rfl (o_eq (o_eql (m := 0) (n := 0) rfl (pe hs_1 rfl rfl) rfl) rfl) ?_
      refine op_val (d := 123) (v := .bool (true)) rfl rfl (o_move rfl (pe hs_1 rfl rfl)) ?_
      refine op_callG (e := 123) (vs := #[]) rfl rfl (by kernel_rfl) (pe hs_1 rfl rfl) (exec_call Try.func34 (by kernel_rfl) (by kernel_rfl) _ rfl _ _ (args0)) (awake12_any _) (fun e_13 w_20 hR_17 => ?_)
      obtain ⟨rfl, hb_12⟩ := hR_17
      replace hLw := hLw.nx hb_12
      replace hLr := hLr.nx hb_12
      have HB_15 := below_from HBL hb_12
      refine ⟨_, rfl, ?_⟩
      refine op_val (d := 125) (v := .bool (true)) rfl rfl (o_pickT rfl (pe hs_1 rfl rfl) (pe hs_1 rfl rfl)) ?_
      refine op_val (d := 6) (v := .bool (true)) rfl rfl (o_assign rfl (pe hs_1 rfl rfl)) ?_
      refine x_nil ?_
      refine hK_47 _ _ ?_
      refine w2_ret ?_
      refine ret1 rfl hd_1 (pe hs_1 rfl rfl) ?_
      exact ⟨rfl, HB_15⟩
end Go.Proofs.Ytoiamaljkodlnaa
