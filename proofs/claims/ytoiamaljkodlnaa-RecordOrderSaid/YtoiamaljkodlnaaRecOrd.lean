/-
  WALKS: sapperlaw12.same, RecordOrder.
-/
import Derived.Test.YtoiamaljkodlnaaAwake12
import Derived.Test.YtoiamaljkodlnaaRow
namespace Go.Proofs.Ytoiamaljkodlnaa
open Go.RowKit
set_option linter.unusedVariables false
set_option linter.unusedSimpArgs false
set_option maxRecDepth 100000
attribute [local irreducible] wpList wpListIn putsR

theorem runR_invO : ∀ (f : Nat) (r : Rd), (runR f r []).2.1 = 0 → (runR f r []).1.dead = r.dead ∧ (runR f r []).1.co.n + (runR f r []).1.wait.length ≤ r.co.n + r.wait.length ∧ (runR f r []).1.co.cnt + (runR f r []).1.wait.length ≤ r.co.cnt + r.wait.length ∧ (runR f r []).1.wait.length ≤ r.wait.length
  | 0, r, _ => ⟨rfl, Nat.le_refl _, Nat.le_refl _, Nat.le_refl _⟩
  | f + 1, r, h => by
    cases hs : stepR r with
    | none =>
      rw [run_none hs]
      exact ⟨rfl, Nat.le_refl _, Nat.le_refl _, Nat.le_refl _⟩
    | some x =>
      by_cases hx : x.2.1 = 0
      · rw [run_good hs hx, runR_out] at h ⊢
        dsimp only at h ⊢
        have ih := runR_invO f x.1 h
        obtain ⟨i1, i2, i3, i4, i5, i6⟩ := stepR_inv hs
        have i7 := stepR_lt hs
        exact ⟨ih.1.trans i4, by omega, by omega, by omega⟩
      · rw [run_bad hs hx] at h
        exact absurd h hx
theorem feed_invO {r : Rd} {b : List Nat} (h : (feedR r b).2.1 = 0) : (feedR r b).1.dead = r.dead ∧ (feedR r b).1.co.n + (feedR r b).1.wait.length ≤ r.co.n + (r.wait.length + b.length) ∧ (feedR r b).1.co.cnt + (feedR r b).1.wait.length ≤ r.co.cnt + (r.wait.length + b.length) ∧ (feedR r b).1.wait.length ≤ r.wait.length + b.length := by
  have h1 := runR_invO _ _ h
  have e : (r.more b).wait.length = r.wait.length + b.length := List.length_append
  exact ⟨h1.1, Nat.le_trans h1.2.1 (Nat.le_of_eq (by rw [e]; rfl)), Nat.le_trans h1.2.2.1 (Nat.le_of_eq (by rw [e]; rfl)), Nat.le_trans h1.2.2.2 (Nat.le_of_eq e)⟩
theorem RowS.whole {w : World} {B c : Nat} {A : Option Addr} {ps : List Part} (h : RowS w B A c ps) (h0 : 0 < ps.length) : ∃ g cur, A = some ⟨g, 0, none⟩ ∧ Blk w g cur 22 ∧ ∀ i, i < ps.length → cur[i]? = some (Part.at ps i).val := by
  rcases h.2 with ⟨hv, hn⟩ | ⟨g, cap, cur, hv, hg, hh, hle, hmax, hsz, htake⟩
  · omega
  · simp only [Value.slice.injEq] at hv
    obtain ⟨rfl, _, rfl⟩ := hv
    refine ⟨g, cur, rfl, hh, fun i hi => ?_⟩
    have h1 := congrArg (fun l : List Value => l[i]?) htake
    simp only [Nat.mul_one, List.getElem?_take, hi, if_true, Array.getElem?_toList] at h1
    rw [h1]
    simp [Part.at, hi]
theorem map_at {ps qs : List Part} (h : ps.map Part.xs = qs.map Part.xs) {K : Nat} (hK : K < ps.length) : (Part.at ps K).xs = (Part.at qs K).xs := by
  have hl : ps.length = qs.length := by simpa using congrArg List.length h
  have h1 := congrArg (fun l : List (List Nat) => l[K]?) h
  simp only [List.getElem?_map] at h1
  rw [List.getElem?_eq_getElem hK, List.getElem?_eq_getElem (by omega)] at h1
  unfold Part.at
  rw [List.getD_eq_getElem?_getD, List.getD_eq_getElem?_getD, List.getElem?_eq_getElem hK, List.getElem?_eq_getElem (by omega)]
  simpa using h1
theorem CipherAt.keptTb {T : TypeId} {w w' : World} {M : Nat → Prop} {g n : Nat} {k : List Nat} (h : CipherAt w M g k n) (hk : KeptT T w w') (h1 : 104 ≠ T) (h2 : 5 ≠ T) : CipherAt w' M g k n := h.keptT hk h1 h2
section
variable {o : Oper} {ev : Operand → Value} {w : World} {x y z : Operand} {T U t : TypeId} {g k : Nat}
theorem o_ixR {A : Option Addr} {n c k : Nat} (ho : o.op = .indexAddr 53 x y) (hx : ev x = .slice A n c) (hy : ev y = .int .i64 (k : Int)) (hk : k < n) (hA : A.isSome = true) : (execOp ev o).run Try.prog w = .ok (.value (.pointer (atA A k))) w := by
  obtain ⟨p, rfl⟩ := Option.isSome_iff_exists.1 hA
  have h1 : (k : Int) < (n : Int) := by omega
  simp [execOp, ho, hx, hy, go_sem, h1, atA]
theorem o_ixI {A : Option Addr} {n c k : Nat} (ho : o.op = .indexAddr 57 x y) (hx : ev x = .slice A n c) (hy : ev y = .int .i64 (k : Int)) (hk : k < n) (hA : A.isSome = true) : (execOp ev o).run Try.prog w = .ok (.value (.pointer (atA A k))) w := by
  obtain ⟨p, rfl⟩ := Option.isSome_iff_exists.1 hA
  have h1 : (k : Int) < (n : Int) := by omega
  simp [execOp, ho, hx, hy, go_sem, h1, atA]
theorem o_loadC {A : Option Addr} {k gg off : Nat} {v : Value} (ho : o.op = .load t x) (hx : ev x = .pointer (atA A k)) (hA : A = some ⟨gg, off, none⟩) (hc : w.cell? ⟨gg, off + k, none⟩ = some v) (ht : IsOne t) : (execOp ev o).run Try.prog w = .ok (.value v) w := by
  subst hA
  have e : atA (some ⟨gg, off, none⟩) k = some ⟨gg, off + k, none⟩ := by simp [atA, Addr.add_lit]
  rw [e] at hx
  simp [execOp, ho, hx, go_sem, loadVar, (one_runs ht w).1, hc]
theorem o_lenI {A : Option Addr} {n c : Nat} (ho : o.op = .call { callee := .builtin .len, args := #[x], argTypes := #[57] }) (hx : ev x = .slice A n c) : (execOp ev o).run Try.prog w = .ok (.value (.int .i64 (n : Int))) w := by
  simp [execOp, ho, hx, go_sem, resolve, invoke, builtin]
/-- append(out, x), in terms of the blocks that are changed. -/
theorem o_appR1 {A A2 : Option Addr} {base c c2 n m d : Nat} {ps : List Part} {xs : List Nat} (ho : o.op = .call { callee := .builtin .append, args := #[x, y], argTypes := #[53, 53] }) (hx : ev x = .slice A n c) (hy : ev y = .slice (some ⟨g, 0, none⟩) 1 d)
    (hO : RowS w base A c ps) (hB : Blk w g #[.slice A2 m c2] 22) (hm : xs.length = m) (hn : ps.length = n) (hl : n ≤ 100000000000) (hbase : base ≤ w.heap.size) :
    ∃ v w', (execOp ev o).run Try.prog w = .ok (.value v) w' ∧ ∃ A' c', v = .slice A' (n + 1) c' ∧ RowS w' base A' c' (ps ++ [⟨A2, c2, xs⟩]) ∧ BelowX (blkA A) w w' ∧ NextM w (blkA A) (blkA A') := by
  obtain ⟨A', c', w', hrun, h1, h2, h3, h4, h5⟩ := rows_app (qs := [⟨A2, c2, xs⟩]) (ad := ⟨g, 0, none⟩) (d := d) o.type hO (fun j u hu => by
    have hj : j = 0 := by
      have := (List.getElem?_eq_some_iff.1 hu).1
      simpa using this
    subst hj
    rw [Addr.add_lit]
    refine (hB.cell 0).trans ?_
    rw [← hu]
    subst hm
    rfl) hn rfl (by simp only [List.length_cons, List.length_nil]; omega) hbase
  simp only [List.length_cons, List.length_nil, Nat.zero_add] at hrun
  refine ⟨_, w', ?_, A', c', rfl, h1, h4, h5⟩
  simp only [execOp, ho, resolve, invoke, builtin, Sem.run_bind, Sem.run_pure, Result.andThen_ok, List.map_toArray, List.map_cons, List.map_nil, hx, hy, hrun]
/-- append(got, p...) -/
theorem o_appRs {A A2 : Option Addr} {base base2 c c2 n m : Nat} {ps qs : List Part} (ho : o.op = .call { callee := .builtin .append, args := #[x, y], argTypes := #[53, 53] }) (hx : ev x = .slice A n c) (hy : ev y = .slice A2 m c2)
    (hO : RowS w base A c ps) (hB : RowS w base2 A2 c2 qs) (hn : ps.length = n) (hm : qs.length = m) (hl : n + m ≤ 100000000000) (hbase : base ≤ w.heap.size) :
    ∃ v w', (execOp ev o).run Try.prog w = .ok (.value v) w' ∧ ∃ A' c', v = .slice A' (n + m) c' ∧ RowS w' base A' c' (ps ++ qs) ∧ BelowX (blkA A) w w' ∧ NextM w (blkA A) (blkA A') := by
  cases A2 with
  | none =>
    obtain rfl : qs = [] := by
      rcases hB.2 with ⟨hv, h0⟩ | ⟨g, cap, cur, hv, _⟩
      · exact List.eq_nil_of_length_eq_zero h0
      · simp at hv
    obtain rfl : m = 0 := by rw [← hm]; rfl
    obtain ⟨i, hi, hz, hs, hby⟩ := sl_parts
    have hrun : (Builtin.append_ #[53, 53] o.type #[.slice A n c, .slice none 0 c2]).run Try.prog w = .ok (.slice A (n + 0) c) w := by
      subst hn
      rcases hO.2 with ⟨h1, h2⟩ | ⟨g, cap, cur, h1, _, _, hnc, _⟩
      · simp only [Value.slice.injEq] at h1
        obtain ⟨rfl, h3, rfl⟩ := h1
        simp [Builtin.append_, run_underlying Try.underlying53, sizeOf, typeInfo, hi, Builtin.lenOf, Builtin.firstCells, h2]
      · simp only [Value.slice.injEq] at h1
        obtain ⟨rfl, _, rfl⟩ := h1
        simp [Builtin.append_, run_underlying Try.underlying53, sizeOf, typeInfo, hi, Builtin.lenOf, Builtin.firstCells, hnc, storeCells]
    refine ⟨_, w, ?_, A, c, rfl, by simpa using hO, BelowX.refl _ _, NextM.refl _ _⟩
    simp only [execOp, ho, resolve, invoke, builtin, Sem.run_bind, Sem.run_pure, Result.andThen_ok, List.map_toArray, List.map_cons, List.map_nil, hx, hy, hrun]
  | some ad =>
    obtain ⟨A', c', w', hrun, h1, h2, h3, h4, h5⟩ := rows_app (qs := qs) (ad := ad) (d := c2) o.type hO (fun j u hu => by
      have hj : j < qs.length := by
        have := (List.getElem?_eq_some_iff.1 hu).1
        simpa using this
      obtain ⟨g, cur, hA, hBk, hcu⟩ := hB.whole (by omega)
      cases hA
      rw [Addr.add_lit]
      refine (hBk.cell _).trans ?_
      rw [Nat.zero_add, hcu j hj, ← hu]
      simp [Part.at, hj]) hn hm (by omega) hbase
    refine ⟨_, w', ?_, A', c', rfl, h1, h4, h5⟩
    simp only [execOp, ho, resolve, invoke, builtin, Sem.run_bind, Sem.run_pure, Result.andThen_ok, List.map_toArray, List.map_cons, List.map_nil, hx, hy, hrun]
end
theorem same_rows {g1 g2 n c1 c2 : Nat} {cur1 cur2 : Array Value} {ps qs : List Part} (w : World) (hB1 : Blk w g1 cur1 22) (hB2 : Blk w g2 cur2 22) (hc1 : ∀ i, i < ps.length → cur1[i]? = some (Part.at ps i).val) (hc2 : ∀ i, i < qs.length → cur2[i]? = some (Part.at qs i).val) (hP1 : AllBs w ps) (hP2 : AllBs w qs) (hm : ps.map Part.xs = qs.map Part.xs) (hl1 : ps.length = n) (hl2 : qs.length = n) (hbig : n ≤ 100000000) :
    Calls Try.prog 45 #[.slice ((some ⟨g1, 0, none⟩)) (n) (c1), .slice ((some ⟨g2, 0, none⟩)) (n) (c2)] w fun e w' => e = .returned (.bool true) ∧ Below w.heap.size w w' := by
  have hn : n = n := rfl
  refine x_enter 28 Try.func45 rfl rfl (fun a hs hd ha0 => ?_)
  have t0 : a.eval (.tmp 0) = .slice ((some ⟨g1, 0, none⟩)) (n) (c1) := ha0 0 _ rfl
  have t1 : a.eval (.tmp 1) = .slice ((some ⟨g2, 0, none⟩)) (n) (c2) := ha0 1 _ rfl
  clear ha0
  refine w2_seq (fun K_1 hK_1 => ?_)
  refine x_region (by kernel_rfl) ?_
  refine op_val (d := 4) (v := .bool (false)) rfl rfl (o_assign rfl rfl) ?_
  refine x_nil ?_
  refine hK_1 _ _ ?_
  refine w2_seq (fun K_2 hK_2 => ?_)
  refine w2_seq (fun K_3 hK_3 => ?_)
  refine x_region (by kernel_rfl) ?_
  refine op_val (d := 6) (v := .slice ((some ⟨g1, 0, none⟩)) (n) (c1)) rfl rfl (o_move rfl ((pm rfl).trans t0)) ?_
  refine op_val (d := 7) (v := .int .i64 ((n : Nat) : Int)) rfl rfl (o_lenS rfl (pe hs rfl rfl)) ?_
  refine op_val (d := 8) (v := .slice ((some ⟨g2, 0, none⟩)) (n) (c2)) rfl rfl (o_move rfl ((pm rfl).trans t1)) ?_
  refine op_val (d := 9) (v := .int .i64 ((n : Nat) : Int)) rfl rfl (o_lenS rfl (pe hs rfl rfl)) ?_
  refine op_val (d := 10) (v := .bool (false)) rfl rfl (o_eq (o_neq (m := n) (n := n) rfl (pe hs rfl rfl) (pe hs rfl rfl)) (by rw [decide_eq_true hn]; rfl)) ?_
  refine x_nil ?_
  refine hK_3 _ _ ?_
  refine w2_condF (pe hs rfl rfl) ?_
  refine w2_skip ?_
  refine hK_2 _ _ ?_
  refine w2_seq (fun K_4 hK_4 => ?_)
  refine w2_seq (fun K_5 hK_5 => ?_)
  refine x_region (by kernel_rfl) ?_
  refine op_val (d := 11) (v := .slice ((some ⟨g1, 0, none⟩)) (n) (c1)) rfl rfl (o_move rfl ((pm rfl).trans t0)) ?_
  refine op_val (d := 12) (v := .int .i64 ((n : Nat) : Int)) rfl rfl (o_lenS rfl (pe hs rfl rfl)) ?_
  refine op_val (d := 13) (v := .int .i64 ((0 : Nat) : Int)) rfl rfl (o_move rfl rfl) ?_
  refine x_nil ?_
  refine hK_5 _ _ ?_
  refine w2_block (fun K_6 hK_6 => ?_)
  refine x_loop (fun nn aa ww => ∃ (K : Nat), nn = n - K ∧ aa.tmps.size = 28 ∧ aa.defers = [] ∧ aa.eval (.tmp 0) = .slice ((some ⟨g1, 0, none⟩)) (n) (c1) ∧ aa.eval (.tmp 1) = .slice ((some ⟨g2, 0, none⟩)) (n) (c2) ∧ aa.eval (.tmp 6) = .slice ((some ⟨g1, 0, none⟩)) (n) (c1) ∧ aa.eval (.tmp 7) = .int .i64 ((n : Nat) : Int) ∧ aa.eval (.tmp 8) = .slice ((some ⟨g2, 0, none⟩)) (n) (c2) ∧ aa.eval (.tmp 9) = .int .i64 ((n : Nat) : Int) ∧ aa.eval (.tmp 10) = .bool (false) ∧ aa.eval (.tmp 11) = .slice ((some ⟨g1, 0, none⟩)) (n) (c1) ∧ aa.eval (.tmp 12) = .int .i64 ((n : Nat) : Int) ∧ aa.eval (.tmp 13) = .int .i64 ((K : Nat) : Int) ∧ K ≤ n ∧ Below w.heap.size w ww) (n - 0) ?_ ?_
  · exact ⟨0, rfl, (by rw [putsR_size]; exact hs), (by rw [putsR_defers]; exact hd), ((pm rfl).trans t0), ((pm rfl).trans t1), (pe hs rfl rfl), (pe hs rfl rfl), (pe hs rfl rfl), (pe hs rfl rfl), (pe hs rfl rfl), (pe hs rfl rfl), (pe hs rfl rfl), (pe hs rfl rfl), Nat.zero_le _, Below.refl _ _⟩
  · skip
    clear t0 t1 hd
    rintro nna_1 a_1 w_1 ⟨K, hm_1, hs_1, hd_1, ta_1_0, ta_1_1, ta_1_6, ta_1_7, ta_1_8, ta_1_9, ta_1_10, ta_1_11, ta_1_12, ta_1_13, hK, HBL⟩ K_7 hK_7
    subst hm_1
    refine w2_seq (fun K_8 hK_8 => ?_)
    refine x_region (by kernel_rfl) ?_
    refine op_val (d := 14) (v := .bool (decide (K < n))) rfl rfl (o_lss (m := K) (n := n) rfl ((pm rfl).trans ta_1_13) ((pm rfl).trans ta_1_12)) ?_
    refine x_nil ?_
    refine hK_8 _ _ ?_
    refine w2_seq (fun K_9 hK_9 => ?_)
    refine w2_split (pe hs_1 rfl rfl) (fun h_1 => ?_) (fun h_1 => ?_)
    · simp only [decide_eq_true_eq, decide_eq_false_iff_not, Bool.not_eq_true', Bool.not_eq_false', Bool.not_true, Bool.not_false, Nat.not_lt, Nat.not_le] at h_1
      have hlt : K < ps.length := by have h9 := h_1; omega
      have hp9 := hP1 _ (Part.mem hlt)
      have hq9 := hP2 _ (Part.mem (ps := qs) (k := K) (by omega))
      refine w2_skip ?_
      refine hK_9 _ _ ?_
      refine w2_seq (fun K_10 hK_10 => ?_)
      refine w2_block (fun K_11 hK_11 => ?_)
      refine w2_seq (fun K_12 hK_12 => ?_)
      refine x_region (by kernel_rfl) ?_
      refine op_val (d := 15) (v := .int .i64 ((K : Nat) : Int)) rfl rfl (o_move rfl ((pm rfl).trans ta_1_13)) ?_
      refine op_val (d := 5) (v := .int .i64 ((K : Nat) : Int)) rfl rfl (o_assign rfl (pe hs_1 rfl rfl)) ?_
      refine x_nil ?_
      refine hK_12 _ _ ?_
      refine w2_seq (fun K_13 hK_13 => ?_)
      refine x_drawn 10 [fun _ v => v = .slice ((some ⟨g1, 0, none⟩)) (n) (c1), fun _ v => v = .int .i64 ((K : Nat) : Int), fun _ v => v = .pointer (some ⟨g1, K, none⟩), fun _ v => v = .slice ((Part.at ps K).A) ((Part.at ps K).xs.length) ((Part.at ps K).c), fun _ v => v = .string (strB ((Part.at ps K).xs)), fun _ v => v = .slice ((some ⟨g2, 0, none⟩)) (n) (c2), fun _ v => v = .int .i64 ((K : Nat) : Int), fun _ v => v = .pointer (some ⟨g2, K, none⟩), fun _ v => v = .slice ((Part.at qs K).A) ((Part.at qs K).xs.length) ((Part.at qs K).c), fun _ v => v = .string (strB ((Part.at qs K).xs))] [16, 17, 18, 19, 20, 21, 22, 23, 24, 25] hs_1 hd_1 (by kernel_rfl) (by kernel_rfl) (by kernel_rfl) (by kernel_rfl) (by kernel_rfl) ⟨stLit, stLit, stLit, stLit, stLit, stLit, stLit, stLit, stLit, stLit, trivial⟩ ⟨(step_ok rfl (fun a' w' hb' hO hD => by
          have d_1 : a'.eval (.tmp 0) = .slice ((some ⟨g1, 0, none⟩)) (n) (c1) := (hO 0 (by decide)).trans ((pm rfl).trans ta_1_0)
          exact .inl ⟨_, _, (o_move rfl d_1), rfl, Below.refl _ _⟩)),
(step_ok rfl (fun a' w' hb' hO hD => by
          have d_2 : a'.eval (.tmp 5) = .int .i64 ((K : Nat) : Int) := (hO 5 (by decide)).trans (pe hs_1 rfl rfl)
          exact .inl ⟨_, _, (o_move rfl d_2), rfl, Below.refl _ _⟩)),
(step_ok rfl (fun a' w' hb' hO hD => by
          have d_3 : a'.eval (.tmp 16) = .slice ((some ⟨g1, 0, none⟩)) (n) (c1) := hD 0 16 (by kernel_rfl) rfl
          have d_4 : a'.eval (.tmp 17) = .int .i64 ((K : Nat) : Int) := hD 1 17 (by kernel_rfl) rfl
          exact .inl ⟨_, _, (zero_off (o_ixS (off := 0) (i := K) rfl d_3 d_4 (by omega))), rfl, Below.refl _ _⟩)),
(step_ok rfl (fun a' w' hb' hO hD => by
          have d_5 : a'.eval (.tmp 18) = .pointer (some ⟨g1, K, none⟩) := hD 2 18 (by kernel_rfl) rfl
          exact .inl ⟨_, _, (o_load1 rfl d_5 (hB1.nx (below_from HBL hb')) (hc1 K hlt) ⟨by kernel_rfl, by kernel_rfl⟩), rfl, Below.refl _ _⟩)),
(step_ok rfl (fun a' w' hb' hO hD => by
          have d_6 : a'.eval (.tmp 19) = .slice ((Part.at ps K).A) ((Part.at ps K).xs.length) ((Part.at ps K).c) := hD 3 19 (by kernel_rfl) rfl
          exact .inl ⟨_, _, (o_str rfl d_6 (hp9.below (below_from HBL hb')) rfl), rfl, Below.refl _ _⟩)),
(step_ok rfl (fun a' w' hb' hO hD => by
          have d_7 : a'.eval (.tmp 1) = .slice ((some ⟨g2, 0, none⟩)) (n) (c2) := (hO 1 (by decide)).trans ((pm rfl).trans ta_1_1)
          exact .inl ⟨_, _, (o_move rfl d_7), rfl, Below.refl _ _⟩)),
(step_ok rfl (fun a' w' hb' hO hD => by
          have d_8 : a'.eval (.tmp 5) = .int .i64 ((K : Nat) : Int) := (hO 5 (by decide)).trans (pe hs_1 rfl rfl)
          exact .inl ⟨_, _, (o_move rfl d_8), rfl, Below.refl _ _⟩)),
(step_ok rfl (fun a' w' hb' hO hD => by
          have d_9 : a'.eval (.tmp 21) = .slice ((some ⟨g2, 0, none⟩)) (n) (c2) := hD 5 21 (by kernel_rfl) rfl
          have d_10 : a'.eval (.tmp 22) = .int .i64 ((K : Nat) : Int) := hD 6 22 (by kernel_rfl) rfl
          exact .inl ⟨_, _, (zero_off (o_ixS (off := 0) (i := K) rfl d_9 d_10 (by omega))), rfl, Below.refl _ _⟩)),
(step_ok rfl (fun a' w' hb' hO hD => by
          have d_11 : a'.eval (.tmp 23) = .pointer (some ⟨g2, K, none⟩) := hD 7 23 (by kernel_rfl) rfl
          exact .inl ⟨_, _, (o_load1 rfl d_11 (hB2.nx (below_from HBL hb')) (hc2 K (by omega)) ⟨by kernel_rfl, by kernel_rfl⟩), rfl, Below.refl _ _⟩)),
(step_ok rfl (fun a' w' hb' hO hD => by
          have d_12 : a'.eval (.tmp 24) = .slice ((Part.at qs K).A) ((Part.at qs K).xs.length) ((Part.at qs K).c) := hD 8 24 (by kernel_rfl) rfl
          exact .inl ⟨_, _, (o_str rfl d_12 (hq9.below (below_from HBL hb')) rfl), rfl, Below.refl _ _⟩)), trivial⟩ (fun a_2 w_2 hs_2 hd_2 hb_1 hO_1 hV_1 => ?_)
      have ta_2_0 : a_2.eval (.tmp 0) = .slice ((some ⟨g1, 0, none⟩)) (n) (c1) := (hO_1 0 (by decide)).trans ((pm rfl).trans ta_1_0)
      have ta_2_1 : a_2.eval (.tmp 1) = .slice ((some ⟨g2, 0, none⟩)) (n) (c2) := (hO_1 1 (by decide)).trans ((pm rfl).trans ta_1_1)
      have ta_2_6 : a_2.eval (.tmp 6) = .slice ((some ⟨g1, 0, none⟩)) (n) (c1) := (hO_1 6 (by decide)).trans ((pm rfl).trans ta_1_6)
      have ta_2_7 : a_2.eval (.tmp 7) = .int .i64 ((n : Nat) : Int) := (hO_1 7 (by decide)).trans ((pm rfl).trans ta_1_7)
      have ta_2_8 : a_2.eval (.tmp 8) = .slice ((some ⟨g2, 0, none⟩)) (n) (c2) := (hO_1 8 (by decide)).trans ((pm rfl).trans ta_1_8)
      have ta_2_9 : a_2.eval (.tmp 9) = .int .i64 ((n : Nat) : Int) := (hO_1 9 (by decide)).trans ((pm rfl).trans ta_1_9)
      have ta_2_10 : a_2.eval (.tmp 10) = .bool (false) := (hO_1 10 (by decide)).trans ((pm rfl).trans ta_1_10)
      have ta_2_11 : a_2.eval (.tmp 11) = .slice ((some ⟨g1, 0, none⟩)) (n) (c1) := (hO_1 11 (by decide)).trans ((pm rfl).trans ta_1_11)
      have ta_2_12 : a_2.eval (.tmp 12) = .int .i64 ((n : Nat) : Int) := (hO_1 12 (by decide)).trans ((pm rfl).trans ta_1_12)
      have ta_2_13 : a_2.eval (.tmp 13) = .int .i64 ((K : Nat) : Int) := (hO_1 13 (by decide)).trans ((pm rfl).trans ta_1_13)
      have ta_2_14 : a_2.eval (.tmp 14) = .bool (decide (K < n)) := (hO_1 14 (by decide)).trans (pe hs_1 rfl rfl)
      have ta_2_15 : a_2.eval (.tmp 15) = .int .i64 ((K : Nat) : Int) := (hO_1 15 (by decide)).trans (pe hs_1 rfl rfl)
      have ta_2_5 : a_2.eval (.tmp 5) = .int .i64 ((K : Nat) : Int) := (hO_1 5 (by decide)).trans (pe hs_1 rfl rfl)
      clear ta_1_0 ta_1_1 ta_1_6 ta_1_7 ta_1_8 ta_1_9 ta_1_10 ta_1_11 ta_1_12 ta_1_13 hd_1
      have HB_1 := below_from HBL hb_1
      have ta_2_16 : a_2.eval (.tmp 16) = .slice ((some ⟨g1, 0, none⟩)) (n) (c1) := hV_1 0 16 rfl rfl
      have ta_2_17 : a_2.eval (.tmp 17) = .int .i64 ((K : Nat) : Int) := hV_1 1 17 rfl rfl
      have ta_2_18 : a_2.eval (.tmp 18) = .pointer (some ⟨g1, K, none⟩) := hV_1 2 18 rfl rfl
      have ta_2_19 : a_2.eval (.tmp 19) = .slice ((Part.at ps K).A) ((Part.at ps K).xs.length) ((Part.at ps K).c) := hV_1 3 19 rfl rfl
      have ta_2_20 : a_2.eval (.tmp 20) = .string (strB ((Part.at ps K).xs)) := hV_1 4 20 rfl rfl
      have ta_2_21 : a_2.eval (.tmp 21) = .slice ((some ⟨g2, 0, none⟩)) (n) (c2) := hV_1 5 21 rfl rfl
      have ta_2_22 : a_2.eval (.tmp 22) = .int .i64 ((K : Nat) : Int) := hV_1 6 22 rfl rfl
      have ta_2_23 : a_2.eval (.tmp 23) = .pointer (some ⟨g2, K, none⟩) := hV_1 7 23 rfl rfl
      have ta_2_24 : a_2.eval (.tmp 24) = .slice ((Part.at qs K).A) ((Part.at qs K).xs.length) ((Part.at qs K).c) := hV_1 8 24 rfl rfl
      have ta_2_25 : a_2.eval (.tmp 25) = .string (strB ((Part.at qs K).xs)) := hV_1 9 25 rfl rfl
      clear hV_1 hO_1
      simp only [List.drop_succ_cons, List.drop_zero]
      refine op_val (d := 26) (v := .bool (false)) rfl rfl (o_neS rfl ((pm rfl).trans ta_2_20) ((pm rfl).trans ta_2_25) (by rw [map_at hm hlt])) ?_
      refine x_nil ?_
      refine hK_13 _ _ ?_
      refine w2_condF (pe hs_2 rfl rfl) ?_
      refine w2_skip ?_
      refine hK_11 _ _ ?_
      refine hK_10 _ _ ?_
      refine x_region (by kernel_rfl) ?_
      refine op_val (d := 27) (v := .int .i64 ((K + 1 : Nat) : Int)) rfl rfl (o_add64 (m := K) (n := 1) rfl ((pm rfl).trans ta_2_13) rfl (by omega)) ?_
      refine op_val (d := 13) (v := .int .i64 ((K + 1 : Nat) : Int)) rfl rfl (o_move rfl (pe hs_2 rfl rfl)) ?_
      refine x_nil ?_
      refine hK_7 _ _ _ ⟨K + 1, rfl, (by rw [putsR_size]; exact hs_2), (by rw [putsR_defers]; exact hd_2), ((pm rfl).trans ta_2_0), ((pm rfl).trans ta_2_1), ((pm rfl).trans ta_2_6), ((pm rfl).trans ta_2_7), ((pm rfl).trans ta_2_8), ((pm rfl).trans ta_2_9), ((pm rfl).trans ta_2_10), ((pm rfl).trans ta_2_11), ((pm rfl).trans ta_2_12), (pe hs_2 rfl rfl), (by omega), HB_1⟩ ?_
      omega
    · simp only [decide_eq_true_eq, decide_eq_false_iff_not, Bool.not_eq_true', Bool.not_eq_false', Bool.not_true, Bool.not_false, Nat.not_lt, Nat.not_le] at h_1
      refine w2_exit ?_
      refine thn_exit ?_
      refine thn_exit ?_
      refine exb_hit ?_
      refine hK_6 _ _ ?_
      refine hK_4 _ _ ?_
      refine w2_seq (fun K_14 hK_14 => ?_)
      refine x_region (by kernel_rfl) ?_
      refine op_val (d := 4) (v := .bool (true)) rfl rfl (o_assign rfl rfl) ?_
      refine x_nil ?_
      refine hK_14 _ _ ?_
      refine w2_ret ?_
      refine ret1 rfl hd_1 (pe hs_1 rfl rfl) ?_
      exact ⟨rfl, HBL⟩
theorem same_none {A1 A2 : Option Addr} {c1 c2 : Nat} (w : World) :
    Calls Try.prog 45 #[.slice A1 (0) (c1), .slice A2 (0) (c2)] w fun e w' => e = .returned (.bool true) ∧ Below w.heap.size w w' := by
  refine x_enter 28 Try.func45 rfl rfl (fun a hs hd ha0 => ?_)
  have t0 : a.eval (.tmp 0) = .slice A1 (0) (c1) := ha0 0 _ rfl
  have t1 : a.eval (.tmp 1) = .slice A2 (0) (c2) := ha0 1 _ rfl
  clear ha0
  refine w2_seq (fun K_1 hK_1 => ?_)
  refine x_region (by kernel_rfl) ?_
  refine op_val (d := 4) (v := .bool (false)) rfl rfl (o_assign rfl rfl) ?_
  refine x_nil ?_
  refine hK_1 _ _ ?_
  refine w2_seq (fun K_2 hK_2 => ?_)
  refine w2_seq (fun K_3 hK_3 => ?_)
  refine x_region (by kernel_rfl) ?_
  refine op_val (d := 6) (v := .slice A1 (0) (c1)) rfl rfl (o_move rfl ((pm rfl).trans t0)) ?_
  refine op_val (d := 7) (v := .int .i64 ((0 : Nat) : Int)) rfl rfl (o_lenS rfl (pe hs rfl rfl)) ?_
  refine op_val (d := 8) (v := .slice A2 (0) (c2)) rfl rfl (o_move rfl ((pm rfl).trans t1)) ?_
  refine op_val (d := 9) (v := .int .i64 ((0 : Nat) : Int)) rfl rfl (o_lenS rfl (pe hs rfl rfl)) ?_
  refine op_val (d := 10) (v := .bool (false)) rfl rfl (o_eq (o_neq (m := 0) (n := 0) rfl (pe hs rfl rfl) (pe hs rfl rfl)) rfl) ?_
  refine x_nil ?_
  refine hK_3 _ _ ?_
  refine w2_condF (pe hs rfl rfl) ?_
  refine w2_skip ?_
  refine hK_2 _ _ ?_
  refine w2_seq (fun K_4 hK_4 => ?_)
  refine w2_seq (fun K_5 hK_5 => ?_)
  refine x_region (by kernel_rfl) ?_
  refine op_val (d := 11) (v := .slice A1 (0) (c1)) rfl rfl (o_move rfl ((pm rfl).trans t0)) ?_
  refine op_val (d := 12) (v := .int .i64 ((0 : Nat) : Int)) rfl rfl (o_lenS rfl (pe hs rfl rfl)) ?_
  refine op_val (d := 13) (v := .int .i64 ((0 : Nat) : Int)) rfl rfl (o_move rfl rfl) ?_
  refine x_nil ?_
  refine hK_5 _ _ ?_
  refine w2_block (fun K_6 hK_6 => ?_)
  refine x_loop (fun nn aa ww => ∃ (K : Nat), nn = 0 ∧ aa.tmps.size = 28 ∧ aa.defers = [] ∧ aa.eval (.tmp 0) = .slice A1 (0) (c1) ∧ aa.eval (.tmp 1) = .slice A2 (0) (c2) ∧ aa.eval (.tmp 6) = .slice A1 (0) (c1) ∧ aa.eval (.tmp 7) = .int .i64 ((0 : Nat) : Int) ∧ aa.eval (.tmp 8) = .slice A2 (0) (c2) ∧ aa.eval (.tmp 9) = .int .i64 ((0 : Nat) : Int) ∧ aa.eval (.tmp 10) = .bool (false) ∧ aa.eval (.tmp 11) = .slice A1 (0) (c1) ∧ aa.eval (.tmp 12) = .int .i64 ((0 : Nat) : Int) ∧ aa.eval (.tmp 13) = .int .i64 ((K : Nat) : Int) ∧ K = 0 ∧ w = ww) (0) ?_ ?_
  · exact ⟨0, rfl, (by rw [putsR_size]; exact hs), (by rw [putsR_defers]; exact hd), ((pm rfl).trans t0), ((pm rfl).trans t1), (pe hs rfl rfl), (pe hs rfl rfl), (pe hs rfl rfl), (pe hs rfl rfl), (pe hs rfl rfl), (pe hs rfl rfl), (pe hs rfl rfl), (pe hs rfl rfl), rfl, rfl⟩
  · skip
    clear t0 t1 hd
    rintro nna_1 a_1 w_1 ⟨K, hm_1, hs_1, hd_1, ta_1_0, ta_1_1, ta_1_6, ta_1_7, ta_1_8, ta_1_9, ta_1_10, ta_1_11, ta_1_12, ta_1_13, hK, hW⟩ K_7 hK_7
    subst hm_1
    refine w2_seq (fun K_8 hK_8 => ?_)
    refine x_region (by kernel_rfl) ?_
    refine op_val (d := 14) (v := .bool (decide (K < 0))) rfl rfl (o_lss (m := K) (n := 0) rfl ((pm rfl).trans ta_1_13) ((pm rfl).trans ta_1_12)) ?_
    refine x_nil ?_
    refine hK_8 _ _ ?_
    refine w2_seq (fun K_9 hK_9 => ?_)
    refine w2_split (pe hs_1 rfl rfl) (fun h_1 => ?_) (fun h_1 => ?_)
    · simp only [decide_eq_true_eq, decide_eq_false_iff_not, Bool.not_eq_true', Bool.not_eq_false', Bool.not_true, Bool.not_false, Nat.not_lt, Nat.not_le] at h_1
      exact absurd h_1 (by omega)
    · simp only [decide_eq_true_eq, decide_eq_false_iff_not, Bool.not_eq_true', Bool.not_eq_false', Bool.not_true, Bool.not_false, Nat.not_lt, Nat.not_le] at h_1
      refine w2_exit ?_
      refine thn_exit ?_
      refine thn_exit ?_
      refine exb_hit ?_
      refine hK_6 _ _ ?_
      refine hK_4 _ _ ?_
      refine w2_seq (fun K_10 hK_10 => ?_)
      refine x_region (by kernel_rfl) ?_
      refine op_val (d := 4) (v := .bool (true)) rfl rfl (o_assign rfl rfl) ?_
      refine x_nil ?_
      refine hK_10 _ _ ?_
      refine w2_ret ?_
      refine ret1 rfl hd_1 (pe hs_1 rfl rfl) ?_
      subst hW; exact ⟨rfl, Below.refl _ _⟩
theorem same_any {A1 A2 : Option Addr} {B1 B2 n m c1 c2 : Nat} {ps qs : List Part} (w : World) (h1 : RowS w B1 A1 c1 ps) (h2 : RowS w B2 A2 c2 qs) (hP1 : AllBs w ps) (hP2 : AllBs w qs) (hm : ps.map Part.xs = qs.map Part.xs) (hl1 : ps.length = n) (hl2 : qs.length = m) (hbig : n ≤ 100000000) :
    Calls Try.prog 45 #[.slice A1 n c1, .slice A2 m c2] w fun e w' => e = .returned (.bool true) ∧ Below w.heap.size w w' := by
  have hl : ps.length = qs.length := by simpa using congrArg List.length hm
  obtain rfl : n = m := by omega
  rcases Nat.eq_zero_or_pos n with h0 | h0
  · subst h0
    exact same_none w
  · obtain ⟨g1, cur1, rfl, hB1, hc1⟩ := h1.whole (by omega)
    obtain ⟨g2, cur2, rfl, hB2, hc2⟩ := h2.whole (by omega)
    exact same_rows w hB1 hB2 hc1 hc2 hP1 hP2 hm hl1 hl2 hbig
theorem Wt.firstO {w : World} {A : Option Addr} {c n : Nat} {xs : List Nat} (h : Wt w A c xs) (hn : n ≤ xs.length) : Bs w (subA A 0 c) c (xs.take n) := h.first hn
theorem take_snoc (ls : List Part) {K : Nat} (h : K < ls.length) : ls.take (K + 1) = ls.take K ++ [Part.at ls K] := by
  rw [List.take_add_one, List.getElem?_eq_getElem h]
  unfold Part.at
  rw [List.getD_eq_getElem?_getD, List.getElem?_eq_getElem h]
  rfl
theorem ord_step {c : Co} {S T U : List Nat} {q : List (List Nat)} {r : Rd} (nn : Nat) (hT : T ++ U = S) (hg : feedR (Rd.at0 c []) S = (r, 0, q)) :
    (feedR (Rd.at0 c []) T).2.1 = 0 ∧ ∃ o, feedR (feedR (Rd.at0 c []) T).1 (U.take nn) = ((feedR (Rd.at0 c []) (T ++ U.take nn)).1, 0, o) ∧ (feedR (Rd.at0 c []) (T ++ U.take nn)).2.2 = (feedR (Rd.at0 c []) T).2.2 ++ o := by
  have h1 : (feedR (Rd.at0 c []) T).2.1 = 0 := feedR_good _ T U (by rw [hT, hg])
  have h2 : (feedR (Rd.at0 c []) (T ++ U.take nn)).2.1 = 0 := feedR_good _ (T ++ U.take nn) (U.drop nn) (by rw [List.append_assoc, List.take_append_drop, hT, hg])
  have h3 := feedR_split (Rd.at0 c []) T (U.take nn) h1
  refine ⟨h1, (feedR (feedR (Rd.at0 c []) T).1 (U.take nn)).2.2, ?_, by rw [h3]⟩
  rw [h3] at h2
  simp only at h2
  rw [h3]
  simp only
  rw [← h2]
theorem runR_outs : ∀ (f : Nat) (r : Rd), (runR f r []).2.2.length ≤ f
  | 0, r => Nat.le_refl _
  | f + 1, r => by
    cases hs : stepR r with
    | none => rw [run_none hs]; exact Nat.zero_le _
    | some x =>
      by_cases hx : x.2.1 = 0
      · rw [run_good hs hx, runR_out]
        have ih := runR_outs f x.1
        have hl : x.2.2.length ≤ 1 := by
          unfold stepR at hs
          split at hs
          · split at hs
            · cases hs
            · dsimp only at hs
              split at hs
              · cases hs; exact Nat.zero_le _
              · split at hs <;> (cases hs; exact Nat.zero_le _)
          · split at hs
            · cases hs
            · dsimp only at hs
              split at hs
              · cases hs; exact Nat.zero_le _
              · split at hs
                · cases hs; exact Nat.zero_le _
                · cases hs; exact Nat.le_refl _
        dsimp only
        rw [List.nil_append, List.length_append]
        omega
      · rw [run_bad hs hx]; exact Nat.zero_le _
theorem feed_outs {r r' : Rd} {b : List Nat} {e : Nat} {o : List (List Nat)} (h : feedR r b = (r', e, o)) : o.length ≤ r.wait.length + b.length + 1 := by
  have h1 := runR_outs ((r.more b).wait.length + 1) (r.more b)
  have e1 : (r.more b).wait.length = r.wait.length + b.length := List.length_append
  have h2 : (feedR r b).2.2.length ≤ (r.more b).wait.length + 1 := h1
  rw [h, e1] at h2
  exact h2
set_option maxHeartbeats 2000000 in
theorem RecOrdM {A0 Al Ac : Option Addr} {c0 m nl cl nc cc : Nat} {ks : List Nat} {ls : List Part} (z : Int) (w : World) (h0 : Bs w A0 c0 ks) (hm : ks.length = m) (hls : ls.length = nl) (hP : AllBs w ls) (hcell : ∀ i, i < nl → ∃ g off, Al = some ⟨g, off, none⟩ ∧ w.cell? ⟨g, off + i, none⟩ = some (Part.at ls i).val) (hcut : ∀ i, i < nc → ∃ g off zc, Ac = some ⟨g, off, none⟩ ∧ w.cell? ⟨g, off + i, none⟩ = some (.int .i64 zc)) :
    Calls Try.prog 11 #[.slice A0 (m) (c0), .int .i64 (z), .slice Al (nl) (cl), .slice Ac (nc) (cc)] w fun e w' => e = .returned (.bool true) ∧ Below w.heap.size w w' := by
  obtain ⟨ev, hev⟩ : ∃ q, 1 + at64 z % 5 = q := ⟨_, rfl⟩
  have hev4 : ev ≤ 5 := by omega
  obtain ⟨co, hco⟩ : ∃ q : Co, q = ⟨padTo 32 ks, 0, everyN ((ev : Nat) : Int), 0⟩ := ⟨_, rfl⟩
  have hn0 : co.n = 0 := by rw [hco]
  have hc0 : co.cnt = 0 := by rw [hco]
  refine x_enter 169 Try.func11 rfl rfl (fun a hs hd ha0 => ?_)
  have t0 : a.eval (.tmp 0) = .slice A0 (m) (c0) := ha0 0 _ rfl
  have t1 : a.eval (.tmp 1) = .int .i64 (z) := ha0 1 _ rfl
  have t2 : a.eval (.tmp 2) = .slice Al (nl) (cl) := ha0 2 _ rfl
  have t3 : a.eval (.tmp 3) = .slice Ac (nc) (cc) := ha0 3 _ rfl
  clear ha0
  refine w2_seq (fun K_1 hK_1 => ?_)
  refine x_region (by kernel_rfl) ?_
  refine op_val (d := 8) (v := .bool (false)) rfl rfl (o_assign rfl rfl) ?_
  refine x_nil ?_
  refine hK_1 _ _ ?_
  refine w2_seq (fun K_2 hK_2 => ?_)
  have hz := at64_lt z
  refine x_region (by kernel_rfl) ?_
  refine op_val (d := 27) (v := .int .i64 (z)) rfl rfl (o_move rfl ((pm rfl).trans t1)) ?_
  refine op_val (d := 28) (v := .int .u64 ((at64 z : Nat) : Int)) rfl rfl (o_convZ rfl (pe hs rfl rfl) ⟨.int .i64, fun _ => by kernel_rfl⟩ (fun _ => by kernel_rfl)) ?_
  refine op_val (d := 29) (v := .int .u64 (((at64 z) % 5 : Nat) : Int)) rfl rfl (o_rem (m := (at64 z)) (n := 5) rfl (pe hs rfl rfl) rfl (by omega) (by rw [IntKind.wrap_u64]; omega)) ?_
  refine op_val (d := 30) (v := .int .i64 (((at64 z) % 5 : Nat) : Int)) rfl rfl (o_conv (m := ((at64 z) % 5)) (r := (at64 z) % 5) rfl (pe hs rfl rfl) ⟨.int .u64, fun _ => by kernel_rfl⟩ (fun _ => by kernel_rfl) (IntWalk.i64_in _ (by omega))) ?_
  refine op_val (d := 31) (v := .int .i64 ((ev : Nat) : Int)) rfl rfl (o_eq (o_add64 (m := 1) (n := ((at64 z) % 5)) rfl rfl (pe hs rfl rfl) (by omega)) (by rw [hev])) ?_
  refine op_val (d := 1) (v := .int .i64 ((ev : Nat) : Int)) rfl rfl (o_assign rfl (pe hs rfl rfl)) ?_
  refine x_nil ?_
  refine hK_2 _ _ ?_
  refine w2_seq (fun K_3 hK_3 => ?_)
  refine x_region (by kernel_rfl) ?_
  refine op_val (d := 32) (v := .slice A0 (m) (c0)) rfl rfl (o_move rfl ((pm rfl).trans t0)) ?_
  refine op_call (vs := #[.slice A0 (m) (c0)]) rfl rfl (exec_call Try.func35 (by kernel_rfl) (by kernel_rfl) _ rfl _ _ (args1 (pe hs rfl rfl))) (Key_any _ h0 hm) (fun e_1 w_1 hR_1 => ?_)
  obtain ⟨A_1, c_1, rfl, ho_1, hb_1⟩ := hR_1
  refine ⟨_, rfl, ?_⟩
  refine op_val (d := 9) (v := .slice A_1 (32) (c_1)) rfl rfl (o_assign rfl (pe hs rfl rfl)) ?_
  refine x_nil ?_
  refine hK_3 _ _ ?_
  refine w2_seq (fun K_4 hK_4 => ?_)
  refine x_region (by kernel_rfl) ?_
  refine op_val (d := 35) (v := .slice A_1 (32) (c_1)) rfl rfl (o_move rfl (pe hs rfl rfl)) ?_
  refine op_call (vs := #[.slice A_1 (32) (c_1)]) rfl rfl (exec_call Try.func36 (by kernel_rfl) (by kernel_rfl) _ rfl _ _ (args1 (pe hs rfl rfl))) (NewCipher_any _ (ho_1).bs (by simp only [padTo_length]) rfl) (fun e_2 w_2 hR_2 => ?_)
  obtain ⟨M_1, g_1, rfl, hC_1, hge_1, hb_2⟩ := hR_2
  have sp_1 : Sep (blkA A_1) M_1 := Sep.new ho_1.lt hge_1
  have gg_1 := hge_1.down hb_1.size
  replace ho_1 := ho_1.nx hb_2
  have HB_1 := below_from hb_1 hb_2
  refine ⟨_, rfl, ?_⟩
  refine op_val (d := 34) (v := .tuple #[.pointer (some ⟨g_1, 0, none⟩), .int .i64 ((0 : Nat) : Int)]) rfl rfl (o_move rfl (pe hs rfl rfl)) ?_
  refine op_val (d := 37) (v := .pointer (some ⟨g_1, 0, none⟩)) rfl rfl (o_extract rfl (pe hs rfl rfl) rfl) ?_
  refine op_val (d := 38) (v := .int .i64 ((0 : Nat) : Int)) rfl rfl (o_extract rfl (pe hs rfl rfl) rfl) ?_
  refine op_val (d := 10) (v := .pointer (some ⟨g_1, 0, none⟩)) rfl rfl (o_assign rfl (pe hs rfl rfl)) ?_
  refine op_val (d := 11) (v := .int .i64 ((0 : Nat) : Int)) rfl rfl (o_assign rfl (pe hs rfl rfl)) ?_
  refine x_nil ?_
  refine hK_4 _ _ ?_
  refine w2_seq (fun K_5 hK_5 => ?_)
  refine x_region (by kernel_rfl) ?_
  refine op_val (d := 40) (v := .slice A_1 (32) (c_1)) rfl rfl (o_move rfl (pe hs rfl rfl)) ?_
  refine op_call (vs := #[.slice A_1 (32) (c_1)]) rfl rfl (exec_call Try.func36 (by kernel_rfl) (by kernel_rfl) _ rfl _ _ (args1 (pe hs rfl rfl))) (NewCipher_any _ (ho_1).bs (by simp only [padTo_length]) rfl) (fun e_3 w_3 hR_3 => ?_)
  obtain ⟨M_2, g_2, rfl, hC_2, hge_2, hb_3⟩ := hR_3
  have sp_2 : Sep (blkA A_1) M_2 := Sep.new ho_1.lt hge_2
  have sp_3 : Sep M_1 M_2 := Sep.new hC_1.lt hge_2
  have gg_2 := hge_2.down HB_1.size
  replace ho_1 := ho_1.nx hb_3
  replace hC_1 := hC_1.nx hb_3
  have HB_2 := below_from HB_1 hb_3
  refine ⟨_, rfl, ?_⟩
  refine op_val (d := 39) (v := .tuple #[.pointer (some ⟨g_2, 0, none⟩), .int .i64 ((0 : Nat) : Int)]) rfl rfl (o_move rfl (pe hs rfl rfl)) ?_
  refine op_val (d := 42) (v := .pointer (some ⟨g_2, 0, none⟩)) rfl rfl (o_extract rfl (pe hs rfl rfl) rfl) ?_
  refine op_val (d := 43) (v := .int .i64 ((0 : Nat) : Int)) rfl rfl (o_extract rfl (pe hs rfl rfl) rfl) ?_
  refine op_val (d := 12) (v := .pointer (some ⟨g_2, 0, none⟩)) rfl rfl (o_assign rfl (pe hs rfl rfl)) ?_
  refine op_val (d := 13) (v := .int .i64 ((0 : Nat) : Int)) rfl rfl (o_assign rfl (pe hs rfl rfl)) ?_
  refine x_nil ?_
  refine hK_5 _ _ ?_
  refine w2_seq (fun K_6 hK_6 => ?_)
  refine w2_seq (fun K_7 hK_7 => ?_)
  refine x_region (by kernel_rfl) ?_
  refine op_val (d := 44) (v := .int .i64 ((0 : Nat) : Int)) rfl rfl (o_move rfl (pe hs rfl rfl)) ?_
  refine op_val (d := 45) (v := .bool (false)) rfl rfl (o_eq (o_neq (m := 0) (n := 0) rfl (pe hs rfl rfl) rfl) rfl) ?_
  refine op_val (d := 46) (v := .bool (false)) rfl rfl (o_move rfl (pe hs rfl rfl)) ?_
  refine op_valG (e := 46) (d := 47) (v := .int .i64 ((0 : Nat) : Int)) rfl rfl (by kernel_rfl) (pe hs rfl rfl) (o_move rfl (pe hs rfl rfl)) ?_
  refine op_valG (e := 46) (d := 48) (v := .bool (false)) rfl rfl (by kernel_rfl) (pe hs rfl rfl) (o_eq (o_neq (m := 0) (n := 0) rfl (pe hs rfl rfl) rfl) rfl) ?_
  refine op_val (d := 49) (v := .bool (false)) rfl rfl (o_pickF rfl (pe hs rfl rfl) (pe hs rfl rfl)) ?_
  refine x_nil ?_
  refine hK_7 _ _ ?_
  refine w2_condF (pe hs rfl rfl) ?_
  refine w2_skip ?_
  refine hK_6 _ _ ?_
  refine w2_seq (fun K_8 hK_8 => ?_)
  refine x_region (by kernel_rfl) ?_
  refine op_val (d := 50) (v := .pointer (some ⟨g_1, 0, none⟩)) rfl rfl (o_move rfl (pe hs rfl rfl)) ?_
  refine op_val (d := 51) (v := .int .i64 ((ev : Nat) : Int)) rfl rfl (o_move rfl (pe hs rfl rfl)) ?_
  refine op_call (vs := #[.pointer (some ⟨g_1, 0, none⟩), .int .i64 ((ev : Nat) : Int)]) rfl rfl (exec_call Try.func37 (by kernel_rfl) (by kernel_rfl) _ rfl _ _ (args2 (pe hs rfl rfl) (pe hs rfl rfl))) (NewWriter_any (((ev : Nat) : Int) : Int) _ hC_1) (fun e_4 w_4 hR_4 => ?_)
  obtain ⟨M_3, g_3, rfl, hW_1, hN_1, hb_4⟩ := hR_4
  rw [← hco] at hW_1
  have sp_4 : Sep (blkA A_1) M_3 := hN_1.sep (sp_1) ho_1.lt
  have sp_5 : Sep M_2 M_3 := hN_1.sep (sp_3.symm) hC_2.lt
  have gg_3 := hN_1.ge gg_1 HB_2.size
  replace ho_1 := ho_1.nx hb_4
  replace hC_2 := hC_2.nx hb_4
  have HB_3 := below_from HB_2 hb_4
  refine ⟨_, rfl, ?_⟩
  refine op_val (d := 53) (v := .pointer (some ⟨g_2, 0, none⟩)) rfl rfl (o_move rfl (pe hs rfl rfl)) ?_
  refine op_val (d := 54) (v := .int .i64 ((ev : Nat) : Int)) rfl rfl (o_move rfl (pe hs rfl rfl)) ?_
  refine op_call (vs := #[.pointer (some ⟨g_2, 0, none⟩), .int .i64 ((ev : Nat) : Int)]) rfl rfl (exec_call Try.func40 (by kernel_rfl) (by kernel_rfl) _ rfl _ _ (args2 (pe hs rfl rfl) (pe hs rfl rfl))) (NewReader_any (((ev : Nat) : Int) : Int) _ hC_2) (fun e_5 w_5 hR_5 => ?_)
  obtain ⟨M_4, g_4, rfl, hW_2, hN_2, hb_5⟩ := hR_5
  rw [← hco] at hW_2
  have sp_6 : Sep (blkA A_1) M_4 := hN_2.sep (sp_2) ho_1.lt
  have sp_7 : Sep M_3 M_4 := hN_2.sep (sp_5.symm) hW_1.lt
  have gg_4 := hN_2.ge gg_2 HB_3.size
  replace ho_1 := ho_1.nx hb_5
  replace hW_1 := hW_1.nx hb_5
  have HB_4 := below_from HB_3 hb_5
  refine ⟨_, rfl, ?_⟩
  refine op_val (d := 14) (v := .pointer (some ⟨g_3, 0, none⟩)) rfl rfl (o_assign rfl (pe hs rfl rfl)) ?_
  refine op_val (d := 15) (v := .pointer (some ⟨g_4, 0, none⟩)) rfl rfl (o_assign rfl (pe hs rfl rfl)) ?_
  refine x_nil ?_
  refine hK_8 _ _ ?_
  refine w2_seq (fun K_9 hK_9 => ?_)
  refine x_region (by kernel_rfl) ?_
  refine op_val (d := 16) (v := .slice none (0) (0)) rfl rfl (o_assign rfl rfl) ?_
  refine x_nil ?_
  refine hK_9 _ _ ?_
  refine w2_seq (fun K_10 hK_10 => ?_)
  refine x_region (by kernel_rfl) ?_
  refine op_val (d := 17) (v := .slice none (0) (0)) rfl rfl (o_assign rfl rfl) ?_
  refine op_val (d := 18) (v := .slice none (0) (0)) rfl rfl (o_assign rfl rfl) ?_
  refine x_nil ?_
  refine hK_10 _ _ ?_
  refine x_cut (fun aa ww => ∃ (K : Nat) (Aa : Option Addr) (na ca : Nat) (Aq : Option Addr) (cq : Nat), aa.tmps.size = 169 ∧ aa.defers = [] ∧ aa.eval (.tmp 3) = .slice Ac (nc) (cc) ∧ aa.eval (.tmp 15) = .pointer (some ⟨g_4, 0, none⟩) ∧ aa.eval (.tmp 16) = .slice Aa (na) (ca) ∧ aa.eval (.tmp 17) = .slice Aq (K) (cq) ∧ aa.eval (.tmp 18) = .slice none (0) (0) ∧ K ≤ 8 ∧ K ≤ nl ∧ ReaderAt ww M_4 g_4 g_2 (Rd.at0 co []) ∧ Wt ww Aa ca (recsL co ((ls.take K).map Part.xs)) ∧ (recsL co ((ls.take K).map Part.xs)).length = na ∧ RowS ww w.heap.size Aq cq (ls.take K) ∧ (∀ b ∈ (ls.take K).map Part.xs, b.length ≤ 4096) ∧ na ≤ 14300 ∧ Sep (blkA Aa) M_4 ∧ Sep (blkA Aq) M_4 ∧ Sep (blkA Aq) (blkA Aa) ∧ Ge w (blkA Aa) ∧ Below w.heap.size w ww) (fun K_11 hK_11 => ?_) ?_
  · skip
    refine w2_seq (fun K_12 hK_12 => ?_)
    refine x_region (by kernel_rfl) ?_
    refine op_val (d := 56) (v := .slice Al (nl) (cl)) rfl rfl (o_move rfl ((pm rfl).trans t2)) ?_
    refine op_val (d := 57) (v := .int .i64 ((nl : Nat) : Int)) rfl rfl (o_lenS rfl (pe hs rfl rfl)) ?_
    refine op_val (d := 58) (v := .int .i64 ((0 : Nat) : Int)) rfl rfl (o_move rfl rfl) ?_
    refine x_nil ?_
    refine hK_12 _ _ ?_
    refine w2_block (fun K_13 hK_13 => ?_)
    refine x_loop (fun nn aa ww => ∃ (K : Nat) (Aa : Option Addr) (na ca : Nat) (Aq : Option Addr) (cq : Nat) (Mw : Nat → Prop), nn = nl - K ∧ aa.tmps.size = 169 ∧ aa.defers = [] ∧ aa.eval (.tmp 0) = .slice A0 (m) (c0) ∧ aa.eval (.tmp 1) = .int .i64 ((ev : Nat) : Int) ∧ aa.eval (.tmp 2) = .slice Al (nl) (cl) ∧ aa.eval (.tmp 3) = .slice Ac (nc) (cc) ∧ aa.eval (.tmp 9) = .slice A_1 (32) (c_1) ∧ aa.eval (.tmp 10) = .pointer (some ⟨g_1, 0, none⟩) ∧ aa.eval (.tmp 11) = .int .i64 ((0 : Nat) : Int) ∧ aa.eval (.tmp 12) = .pointer (some ⟨g_2, 0, none⟩) ∧ aa.eval (.tmp 13) = .int .i64 ((0 : Nat) : Int) ∧ aa.eval (.tmp 14) = .pointer (some ⟨g_3, 0, none⟩) ∧ aa.eval (.tmp 15) = .pointer (some ⟨g_4, 0, none⟩) ∧ aa.eval (.tmp 16) = .slice Aa (na) (ca) ∧ aa.eval (.tmp 17) = .slice Aq (K) (cq) ∧ aa.eval (.tmp 18) = .slice none (0) (0) ∧ aa.eval (.tmp 27) = .int .i64 (z) ∧ aa.eval (.tmp 28) = .int .u64 ((at64 z : Nat) : Int) ∧ aa.eval (.tmp 29) = .int .u64 (((at64 z) % 5 : Nat) : Int) ∧ aa.eval (.tmp 30) = .int .i64 (((at64 z) % 5 : Nat) : Int) ∧ aa.eval (.tmp 31) = .int .i64 ((ev : Nat) : Int) ∧ aa.eval (.tmp 32) = .slice A0 (m) (c0) ∧ aa.eval (.tmp 33) = .slice A_1 (32) (c_1) ∧ aa.eval (.tmp 34) = .tuple #[.pointer (some ⟨g_1, 0, none⟩), .int .i64 ((0 : Nat) : Int)] ∧ aa.eval (.tmp 35) = .slice A_1 (32) (c_1) ∧ aa.eval (.tmp 36) = .tuple #[.pointer (some ⟨g_1, 0, none⟩), .int .i64 ((0 : Nat) : Int)] ∧ aa.eval (.tmp 37) = .pointer (some ⟨g_1, 0, none⟩) ∧ aa.eval (.tmp 38) = .int .i64 ((0 : Nat) : Int) ∧ aa.eval (.tmp 39) = .tuple #[.pointer (some ⟨g_2, 0, none⟩), .int .i64 ((0 : Nat) : Int)] ∧ aa.eval (.tmp 40) = .slice A_1 (32) (c_1) ∧ aa.eval (.tmp 41) = .tuple #[.pointer (some ⟨g_2, 0, none⟩), .int .i64 ((0 : Nat) : Int)] ∧ aa.eval (.tmp 42) = .pointer (some ⟨g_2, 0, none⟩) ∧ aa.eval (.tmp 43) = .int .i64 ((0 : Nat) : Int) ∧ aa.eval (.tmp 44) = .int .i64 ((0 : Nat) : Int) ∧ aa.eval (.tmp 45) = .bool (false) ∧ aa.eval (.tmp 46) = .bool (false) ∧ aa.eval (.tmp 47) = .int .i64 ((0 : Nat) : Int) ∧ aa.eval (.tmp 48) = .bool (false) ∧ aa.eval (.tmp 49) = .bool (false) ∧ aa.eval (.tmp 50) = .pointer (some ⟨g_1, 0, none⟩) ∧ aa.eval (.tmp 51) = .int .i64 ((ev : Nat) : Int) ∧ aa.eval (.tmp 52) = .pointer (some ⟨g_3, 0, none⟩) ∧ aa.eval (.tmp 53) = .pointer (some ⟨g_2, 0, none⟩) ∧ aa.eval (.tmp 54) = .int .i64 ((ev : Nat) : Int) ∧ aa.eval (.tmp 55) = .pointer (some ⟨g_4, 0, none⟩) ∧ aa.eval (.tmp 56) = .slice Al (nl) (cl) ∧ aa.eval (.tmp 57) = .int .i64 ((nl : Nat) : Int) ∧ aa.eval (.tmp 58) = .int .i64 ((K : Nat) : Int) ∧ K ≤ 8 ∧ K ≤ nl ∧ ReaderAt ww M_4 g_4 g_2 (Rd.at0 co []) ∧ Wt ww Aa ca (recsL co ((ls.take K).map Part.xs)) ∧ (recsL co ((ls.take K).map Part.xs)).length = na ∧ RowS ww w.heap.size Aq cq (ls.take K) ∧ (∀ b ∈ (ls.take K).map Part.xs, b.length ≤ 4096) ∧ na ≤ 14300 ∧ Sep (blkA Aa) M_4 ∧ Sep (blkA Aq) M_4 ∧ Sep (blkA Aq) (blkA Aa) ∧ Ge w (blkA Aa) ∧ WriterAt ww Mw g_3 g_1 (putsL co ((ls.take K).map Part.xs)) ∧ Sep Mw M_4 ∧ Sep (blkA Aa) Mw ∧ Sep (blkA Aq) Mw ∧ Ge w Mw ∧ Below w.heap.size w ww) (nl - 0) ?_ ?_
    · exact ⟨0, none, 0, 0, none, 0, M_3, rfl, (by rw [putsR_size]; exact hs), (by rw [putsR_defers]; exact hd), ((pm rfl).trans t0), (pe hs rfl rfl), ((pm rfl).trans t2), ((pm rfl).trans t3), (pe hs rfl rfl), (pe hs rfl rfl), (pe hs rfl rfl), (pe hs rfl rfl), (pe hs rfl rfl), (pe hs rfl rfl), (pe hs rfl rfl), (pe hs rfl rfl), (pe hs rfl rfl), (pe hs rfl rfl), (pe hs rfl rfl), (pe hs rfl rfl), (pe hs rfl rfl), (pe hs rfl rfl), (pe hs rfl rfl), (pe hs rfl rfl), (pe hs rfl rfl), (pe hs rfl rfl), (pe hs rfl rfl), (pe hs rfl rfl), (pe hs rfl rfl), (pe hs rfl rfl), (pe hs rfl rfl), (pe hs rfl rfl), (pe hs rfl rfl), (pe hs rfl rfl), (pe hs rfl rfl), (pe hs rfl rfl), (pe hs rfl rfl), (pe hs rfl rfl), (pe hs rfl rfl), (pe hs rfl rfl), (pe hs rfl rfl), (pe hs rfl rfl), (pe hs rfl rfl), (pe hs rfl rfl), (pe hs rfl rfl), (pe hs rfl rfl), (pe hs rfl rfl), (pe hs rfl rfl), (pe hs rfl rfl), (pe hs rfl rfl), Nat.zero_le _, Nat.zero_le _, hW_2, Wt.nil _, rfl, RowS.nil _ _, (fun b hb => absurd hb (by simp)), (by omega), (fun j hj => absurd hj blkA_none), (fun j hj => absurd hj blkA_none), (fun j hj => absurd hj blkA_none), (fun j hj => absurd hj blkA_none), hW_1, sp_7, (fun j hj => absurd hj blkA_none), (fun j hj => absurd hj blkA_none), gg_3, HB_4⟩
    · skip
      clear t0 t1 t2 t3 hd ho_1 hW_1 hW_2 HB_4
      rintro nna_1 a_1 w_6 ⟨K, Aa, na, ca, Aq, cq, Mw, hm_1, hs_1, hd_1, ta_1_0, ta_1_1, ta_1_2, ta_1_3, ta_1_9, ta_1_10, ta_1_11, ta_1_12, ta_1_13, ta_1_14, ta_1_15, ta_1_16, ta_1_17, ta_1_18, ta_1_27, ta_1_28, ta_1_29, ta_1_30, ta_1_31, ta_1_32, ta_1_33, ta_1_34, ta_1_35, ta_1_36, ta_1_37, ta_1_38, ta_1_39, ta_1_40, ta_1_41, ta_1_42, ta_1_43, ta_1_44, ta_1_45, ta_1_46, ta_1_47, ta_1_48, ta_1_49, ta_1_50, ta_1_51, ta_1_52, ta_1_53, ta_1_54, ta_1_55, ta_1_56, ta_1_57, ta_1_58, b1, b2, hLr, hWa, hna, hQ, hb4, b8, sAr, sQr, sQA, gA, hLw, sWr, sAw, sQw, gW, HBL⟩ K_14 hK_14
      subst hm_1
      refine w2_seq (fun K_15 hK_15 => ?_)
      refine x_region (by kernel_rfl) ?_
      refine op_val (d := 59) (v := .bool (decide (K < nl))) rfl rfl (o_lss (m := K) (n := nl) rfl ((pm rfl).trans ta_1_58) ((pm rfl).trans ta_1_57)) ?_
      refine x_nil ?_
      refine hK_15 _ _ ?_
      refine w2_seq (fun K_16 hK_16 => ?_)
      refine w2_split (pe hs_1 rfl rfl) (fun h_1 => ?_) (fun h_1 => ?_)
      · simp only [decide_eq_true_eq, decide_eq_false_iff_not, Bool.not_eq_true', Bool.not_eq_false', Bool.not_true, Bool.not_false, Nat.not_lt, Nat.not_le] at h_1
        have hlt : K < nl := h_1
        obtain ⟨gl, ol, hAl, hcl⟩ := hcell K hlt
        have hp9 := hP _ (Part.mem (ps := ls) (k := K) (by omega))
        have htk := take_snoc ls (K := K) (by omega)
        have hsz := sizeN_top (Part.at ls K).xs.length
        refine w2_skip ?_
        refine hK_16 _ _ ?_
        refine w2_seq (fun K_17 hK_17 => ?_)
        refine w2_block (fun K_18 hK_18 => ?_)
        refine w2_seq (fun K_19 hK_19 => ?_)
        refine x_region (by kernel_rfl) ?_
        refine op_val (d := 60) (v := .int .i64 ((K : Nat) : Int)) rfl rfl (o_move rfl ((pm rfl).trans ta_1_58)) ?_
        refine op_val (d := 61) (v := .pointer (atA Al (K))) rfl rfl (o_ixR (k := K) rfl ((pm rfl).trans ta_1_56) ((pm rfl).trans ta_1_58) hlt (by rw [hAl]; rfl)) ?_
        refine op_val (d := 62) (v := .slice ((Part.at ls K).A) ((Part.at ls K).xs.length) ((Part.at ls K).c)) rfl rfl (o_loadC rfl (pe hs_1 rfl rfl) hAl ((HBL.cell (p := ⟨gl, ol + K, none⟩) (World.block_lt_of_cell? w _ hcl)).trans hcl) ⟨by kernel_rfl, by kernel_rfl⟩) ?_
        refine op_val (d := 19) (v := .int .i64 ((K : Nat) : Int)) rfl rfl (o_assign rfl (pe hs_1 rfl rfl)) ?_
        refine op_val (d := 20) (v := .slice ((Part.at ls K).A) ((Part.at ls K).xs.length) ((Part.at ls K).c)) rfl rfl (o_assign rfl (pe hs_1 rfl rfl)) ?_
        refine x_nil ?_
        refine hK_19 _ _ ?_
        refine w2_seq (fun K_20 hK_20 => ?_)
        refine w2_seq (fun K_21 hK_21 => ?_)
        rcases (show 8 ≤ K ∨ (K < 8 ∧ 4096 < (Part.at ls K).xs.length) ∨ (K < 8 ∧ (Part.at ls K).xs.length ≤ 4096 ∧ 6000 < na) ∨ (K < 8 ∧ (Part.at ls K).xs.length ≤ 4096 ∧ na ≤ 6000) by omega) with q1 | ⟨q1, q2⟩ | ⟨q1, q2, q3⟩ | ⟨q1, q3, q4⟩
        · skip
          refine x_region (by kernel_rfl) ?_
          refine op_val (d := 63) (v := .int .i64 ((K : Nat) : Int)) rfl rfl (o_move rfl (pe hs_1 rfl rfl)) ?_
          refine op_val (d := 64) (v := .bool (true)) rfl rfl (o_eq (o_geq (m := K) (n := 8) rfl (pe hs_1 rfl rfl) rfl) (by rw [decide_eq_true (by omega)])) ?_
          refine op_val (d := 65) (v := .bool (true)) rfl rfl (o_move rfl (pe hs_1 rfl rfl)) ?_
          refine op_left (e := 65) rfl rfl (by kernel_rfl) (pe hs_1 rfl rfl) rfl ?_
          refine op_left (e := 65) rfl rfl (by kernel_rfl) (pe hs_1 rfl rfl) rfl ?_
          refine op_left (e := 65) rfl rfl (by kernel_rfl) (pe hs_1 rfl rfl) rfl ?_
          refine op_val (d := 69) (v := .bool (true)) rfl rfl (o_pickT rfl (pe hs_1 rfl rfl) rfl) ?_
          refine op_val (d := 70) (v := .bool (true)) rfl rfl (o_move rfl (pe hs_1 rfl rfl)) ?_
          refine op_left (e := 70) rfl rfl (by kernel_rfl) (pe hs_1 rfl rfl) rfl ?_
          refine op_left (e := 70) rfl rfl (by kernel_rfl) (pe hs_1 rfl rfl) rfl ?_
          refine op_left (e := 70) rfl rfl (by kernel_rfl) (pe hs_1 rfl rfl) rfl ?_
          refine op_val (d := 74) (v := .bool (true)) rfl rfl (o_pickT rfl (pe hs_1 rfl rfl) rfl) ?_
          refine x_nil ?_
          refine hK_21 _ _ ?_
          refine w2_condT (pe hs_1 rfl rfl) ?_
          refine w2_exit ?_
          refine thn_exit ?_
          refine exb_out rfl ?_
          refine thn_exit ?_
          refine thn_exit ?_
          refine exb_hit ?_
          refine hK_13 _ _ ?_
          exact hK_11 _ _ ⟨K, Aa, na, ca, Aq, cq, (by rw [putsR_size]; exact hs_1), (by rw [putsR_defers]; exact hd_1), ((pm rfl).trans ta_1_3), ((pm rfl).trans ta_1_15), ((pm rfl).trans ta_1_16), ((pm rfl).trans ta_1_17), ((pm rfl).trans ta_1_18), b1, b2, hLr, hWa, hna, hQ, hb4, b8, sAr, sQr, sQA, gA, HBL⟩
        · skip
          refine x_region (by kernel_rfl) ?_
          refine op_val (d := 63) (v := .int .i64 ((K : Nat) : Int)) rfl rfl (o_move rfl (pe hs_1 rfl rfl)) ?_
          refine op_val (d := 64) (v := .bool (false)) rfl rfl (o_eq (o_geq (m := K) (n := 8) rfl (pe hs_1 rfl rfl) rfl) (by rw [decide_eq_false (by omega)])) ?_
          refine op_val (d := 65) (v := .bool (false)) rfl rfl (o_move rfl (pe hs_1 rfl rfl)) ?_
          refine op_valG (e := 65) (d := 66) (v := .slice ((Part.at ls K).A) ((Part.at ls K).xs.length) ((Part.at ls K).c)) rfl rfl (by kernel_rfl) (pe hs_1 rfl rfl) (o_move rfl (pe hs_1 rfl rfl)) ?_
          refine op_valG (e := 65) (d := 67) (v := .int .i64 (((Part.at ls K).xs.length : Nat) : Int)) rfl rfl (by kernel_rfl) (pe hs_1 rfl rfl) (o_len rfl (pe hs_1 rfl rfl)) ?_
          refine op_valG (e := 65) (d := 68) (v := .bool (true)) rfl rfl (by kernel_rfl) (pe hs_1 rfl rfl) (o_eq (o_gtr (m := ((Part.at ls K).xs.length)) (n := 4096) rfl (pe hs_1 rfl rfl) rfl) (by rw [decide_eq_true (by omega)])) ?_
          refine op_val (d := 69) (v := .bool (true)) rfl rfl (o_pickF rfl (pe hs_1 rfl rfl) (pe hs_1 rfl rfl)) ?_
          refine op_val (d := 70) (v := .bool (true)) rfl rfl (o_move rfl (pe hs_1 rfl rfl)) ?_
          refine op_left (e := 70) rfl rfl (by kernel_rfl) (pe hs_1 rfl rfl) rfl ?_
          refine op_left (e := 70) rfl rfl (by kernel_rfl) (pe hs_1 rfl rfl) rfl ?_
          refine op_left (e := 70) rfl rfl (by kernel_rfl) (pe hs_1 rfl rfl) rfl ?_
          refine op_val (d := 74) (v := .bool (true)) rfl rfl (o_pickT rfl (pe hs_1 rfl rfl) rfl) ?_
          refine x_nil ?_
          refine hK_21 _ _ ?_
          refine w2_condT (pe hs_1 rfl rfl) ?_
          refine w2_exit ?_
          refine thn_exit ?_
          refine exb_out rfl ?_
          refine thn_exit ?_
          refine thn_exit ?_
          refine exb_hit ?_
          refine hK_13 _ _ ?_
          exact hK_11 _ _ ⟨K, Aa, na, ca, Aq, cq, (by rw [putsR_size]; exact hs_1), (by rw [putsR_defers]; exact hd_1), ((pm rfl).trans ta_1_3), ((pm rfl).trans ta_1_15), ((pm rfl).trans ta_1_16), ((pm rfl).trans ta_1_17), ((pm rfl).trans ta_1_18), b1, b2, hLr, hWa, hna, hQ, hb4, b8, sAr, sQr, sQA, gA, HBL⟩
        · skip
          refine x_region (by kernel_rfl) ?_
          refine op_val (d := 63) (v := .int .i64 ((K : Nat) : Int)) rfl rfl (o_move rfl (pe hs_1 rfl rfl)) ?_
          refine op_val (d := 64) (v := .bool (false)) rfl rfl (o_eq (o_geq (m := K) (n := 8) rfl (pe hs_1 rfl rfl) rfl) (by rw [decide_eq_false (by omega)])) ?_
          refine op_val (d := 65) (v := .bool (false)) rfl rfl (o_move rfl (pe hs_1 rfl rfl)) ?_
          refine op_valG (e := 65) (d := 66) (v := .slice ((Part.at ls K).A) ((Part.at ls K).xs.length) ((Part.at ls K).c)) rfl rfl (by kernel_rfl) (pe hs_1 rfl rfl) (o_move rfl (pe hs_1 rfl rfl)) ?_
          refine op_valG (e := 65) (d := 67) (v := .int .i64 (((Part.at ls K).xs.length : Nat) : Int)) rfl rfl (by kernel_rfl) (pe hs_1 rfl rfl) (o_len rfl (pe hs_1 rfl rfl)) ?_
          refine op_valG (e := 65) (d := 68) (v := .bool (false)) rfl rfl (by kernel_rfl) (pe hs_1 rfl rfl) (o_eq (o_gtr (m := ((Part.at ls K).xs.length)) (n := 4096) rfl (pe hs_1 rfl rfl) rfl) (by rw [decide_eq_false (by omega)])) ?_
          refine op_val (d := 69) (v := .bool (false)) rfl rfl (o_pickF rfl (pe hs_1 rfl rfl) (pe hs_1 rfl rfl)) ?_
          refine op_val (d := 70) (v := .bool (false)) rfl rfl (o_move rfl (pe hs_1 rfl rfl)) ?_
          refine op_valG (e := 70) (d := 71) (v := .slice Aa (na) (ca)) rfl rfl (by kernel_rfl) (pe hs_1 rfl rfl) (o_move rfl ((pm rfl).trans ta_1_16)) ?_
          refine op_valG (e := 70) (d := 72) (v := .int .i64 ((na : Nat) : Int)) rfl rfl (by kernel_rfl) (pe hs_1 rfl rfl) (o_len rfl (pe hs_1 rfl rfl)) ?_
          refine op_valG (e := 70) (d := 73) (v := .bool (true)) rfl rfl (by kernel_rfl) (pe hs_1 rfl rfl) (o_eq (o_gtr (m := na) (n := 6000) rfl (pe hs_1 rfl rfl) rfl) (by rw [decide_eq_true (by omega)])) ?_
          refine op_val (d := 74) (v := .bool (true)) rfl rfl (o_pickF rfl (pe hs_1 rfl rfl) (pe hs_1 rfl rfl)) ?_
          refine x_nil ?_
          refine hK_21 _ _ ?_
          refine w2_condT (pe hs_1 rfl rfl) ?_
          refine w2_exit ?_
          refine thn_exit ?_
          refine exb_out rfl ?_
          refine thn_exit ?_
          refine thn_exit ?_
          refine exb_hit ?_
          refine hK_13 _ _ ?_
          exact hK_11 _ _ ⟨K, Aa, na, ca, Aq, cq, (by rw [putsR_size]; exact hs_1), (by rw [putsR_defers]; exact hd_1), ((pm rfl).trans ta_1_3), ((pm rfl).trans ta_1_15), ((pm rfl).trans ta_1_16), ((pm rfl).trans ta_1_17), ((pm rfl).trans ta_1_18), b1, b2, hLr, hWa, hna, hQ, hb4, b8, sAr, sQr, sQA, gA, HBL⟩
        · skip
          refine x_region (by kernel_rfl) ?_
          refine op_val (d := 63) (v := .int .i64 ((K : Nat) : Int)) rfl rfl (o_move rfl (pe hs_1 rfl rfl)) ?_
          refine op_val (d := 64) (v := .bool (false)) rfl rfl (o_eq (o_geq (m := K) (n := 8) rfl (pe hs_1 rfl rfl) rfl) (by rw [decide_eq_false (by omega)])) ?_
          refine op_val (d := 65) (v := .bool (false)) rfl rfl (o_move rfl (pe hs_1 rfl rfl)) ?_
          refine op_valG (e := 65) (d := 66) (v := .slice ((Part.at ls K).A) ((Part.at ls K).xs.length) ((Part.at ls K).c)) rfl rfl (by kernel_rfl) (pe hs_1 rfl rfl) (o_move rfl (pe hs_1 rfl rfl)) ?_
          refine op_valG (e := 65) (d := 67) (v := .int .i64 (((Part.at ls K).xs.length : Nat) : Int)) rfl rfl (by kernel_rfl) (pe hs_1 rfl rfl) (o_len rfl (pe hs_1 rfl rfl)) ?_
          refine op_valG (e := 65) (d := 68) (v := .bool (false)) rfl rfl (by kernel_rfl) (pe hs_1 rfl rfl) (o_eq (o_gtr (m := ((Part.at ls K).xs.length)) (n := 4096) rfl (pe hs_1 rfl rfl) rfl) (by rw [decide_eq_false (by omega)])) ?_
          refine op_val (d := 69) (v := .bool (false)) rfl rfl (o_pickF rfl (pe hs_1 rfl rfl) (pe hs_1 rfl rfl)) ?_
          refine op_val (d := 70) (v := .bool (false)) rfl rfl (o_move rfl (pe hs_1 rfl rfl)) ?_
          refine op_valG (e := 70) (d := 71) (v := .slice Aa (na) (ca)) rfl rfl (by kernel_rfl) (pe hs_1 rfl rfl) (o_move rfl ((pm rfl).trans ta_1_16)) ?_
          refine op_valG (e := 70) (d := 72) (v := .int .i64 ((na : Nat) : Int)) rfl rfl (by kernel_rfl) (pe hs_1 rfl rfl) (o_len rfl (pe hs_1 rfl rfl)) ?_
          refine op_valG (e := 70) (d := 73) (v := .bool (false)) rfl rfl (by kernel_rfl) (pe hs_1 rfl rfl) (o_eq (o_gtr (m := na) (n := 6000) rfl (pe hs_1 rfl rfl) rfl) (by rw [decide_eq_false (by omega)])) ?_
          refine op_val (d := 74) (v := .bool (false)) rfl rfl (o_pickF rfl (pe hs_1 rfl rfl) (pe hs_1 rfl rfl)) ?_
          refine x_nil ?_
          refine hK_21 _ _ ?_
          refine w2_condF (pe hs_1 rfl rfl) ?_
          refine w2_skip ?_
          refine hK_20 _ _ ?_
          refine w2_seq (fun K_22 hK_22 => ?_)
          have hpn : (putsL co ((ls.take K).map Part.xs)).n ≤ 100 := by rw [putsL_n, List.length_map, List.length_take]; omega
          have hpc : (putsL co ((ls.take K).map Part.xs)).cnt ≤ 100 := by rw [putsL_cnt, List.length_map, List.length_take]; omega
          refine x_region (by kernel_rfl) ?_
          refine op_val (d := 76) (v := .pointer (some ⟨g_3, 0, none⟩)) rfl rfl (o_move rfl ((pm rfl).trans ta_1_14)) ?_
          refine op_val (d := 77) (v := .slice ((Part.at ls K).A) ((Part.at ls K).xs.length) ((Part.at ls K).c)) rfl rfl (o_move rfl (pe hs_1 rfl rfl)) ?_
          refine op_call (vs := #[.pointer (some ⟨g_3, 0, none⟩), .slice ((Part.at ls K).A) ((Part.at ls K).xs.length) ((Part.at ls K).c)]) rfl rfl (exec_call Try.func38 (by kernel_rfl) (by kernel_rfl) _ rfl _ _ (args2 (pe hs_1 rfl rfl) (pe hs_1 rfl rfl))) (Put_any _ hLw (hp9.below HBL) rfl (by omega) (by omega) (by omega)) (fun e_6 w_7 hR_6 => ?_)
          obtain ⟨A_2, c_2, rfl, ho_2, ⟨M_5, hW_3, hN_3, hs_2⟩, hX_1⟩ := hR_6
          have hl_1 : (recL (putsL co ((ls.take K).map Part.xs)) ((Part.at ls K).xs)).length = sizeN ((Part.at ls K).xs.length) + 34 := (recL_length _ (by have h9 : ((Part.at ls K).xs).length = (Part.at ls K).xs.length := rfl; omega)).trans (congrArg (fun q => sizeN q + 34) (show ((Part.at ls K).xs).length = (Part.at ls K).xs.length from rfl))
          have sp_8 : Sep M_4 M_5 := hN_3.sep (sWr.symm) hLr.lt
          have sp_9 : Sep (blkA A_2) M_4 := (Sep.new hLr.lt ho_2.ge').symm
          have sp_10 : Sep (blkA Aa) M_5 := hN_3.sep (sAw) hWa.lt
          have sp_11 : Sep (blkA A_2) (blkA Aa) := (Sep.new hWa.lt ho_2.ge').symm
          have sp_12 : Sep (blkA Aq) M_5 := hN_3.sep (sQw) hQ.lt
          have sp_13 : Sep (blkA A_2) (blkA Aq) := (Sep.new hQ.lt ho_2.ge').symm
          replace hLr := hLr.keepM hX_1 (sWr.symm)
          replace hWa := hWa.keepM hX_1 (sAw)
          replace hQ := hQ.keepM hX_1 (sQw)
          have gg_5 := hN_3.ge gW HBL.size
          replace ho_2 := ho_2.mono HBL.size
          have HB_5 := hX_1.below HBL HBL.size gW
          refine ⟨_, rfl, ?_⟩
          refine op_val (d := 75) (v := .tuple #[.slice A_2 (sizeN ((Part.at ls K).xs.length) + 34) (c_2), .int .i64 ((0 : Nat) : Int)]) rfl rfl (o_move rfl (pe hs_1 rfl rfl)) ?_
          refine op_val (d := 79) (v := .slice A_2 (sizeN ((Part.at ls K).xs.length) + 34) (c_2)) rfl rfl (o_extract rfl (pe hs_1 rfl rfl) rfl) ?_
          refine op_val (d := 80) (v := .int .i64 ((0 : Nat) : Int)) rfl rfl (o_extract rfl (pe hs_1 rfl rfl) rfl) ?_
          refine op_val (d := 21) (v := .slice A_2 (sizeN ((Part.at ls K).xs.length) + 34) (c_2)) rfl rfl (o_assign rfl (pe hs_1 rfl rfl)) ?_
          refine op_val (d := 22) (v := .int .i64 ((0 : Nat) : Int)) rfl rfl (o_assign rfl (pe hs_1 rfl rfl)) ?_
          refine x_nil ?_
          refine hK_22 _ _ ?_
          refine w2_seq (fun K_23 hK_23 => ?_)
          refine w2_seq (fun K_24 hK_24 => ?_)
          refine x_region (by kernel_rfl) ?_
          refine op_val (d := 81) (v := .int .i64 ((0 : Nat) : Int)) rfl rfl (o_move rfl (pe hs_1 rfl rfl)) ?_
          refine op_val (d := 82) (v := .bool (false)) rfl rfl (o_eq (o_neq (m := 0) (n := 0) rfl (pe hs_1 rfl rfl) rfl) rfl) ?_
          refine op_val (d := 83) (v := .bool (false)) rfl rfl (o_move rfl (pe hs_1 rfl rfl)) ?_
          refine op_valG (e := 83) (d := 84) (v := .slice A_2 (sizeN ((Part.at ls K).xs.length) + 34) (c_2)) rfl rfl (by kernel_rfl) (pe hs_1 rfl rfl) (o_move rfl (pe hs_1 rfl rfl)) ?_
          refine op_valG (e := 83) (d := 85) (v := .int .i64 ((sizeN ((Part.at ls K).xs.length) + 34 : Nat) : Int)) rfl rfl (by kernel_rfl) (pe hs_1 rfl rfl) (o_len rfl (pe hs_1 rfl rfl)) ?_
          refine op_valG (e := 83) (d := 86) (v := .slice ((Part.at ls K).A) ((Part.at ls K).xs.length) ((Part.at ls K).c)) rfl rfl (by kernel_rfl) (pe hs_1 rfl rfl) (o_move rfl (pe hs_1 rfl rfl)) ?_
          refine op_valG (e := 83) (d := 87) (v := .int .i64 (((Part.at ls K).xs.length : Nat) : Int)) rfl rfl (by kernel_rfl) (pe hs_1 rfl rfl) (o_len rfl (pe hs_1 rfl rfl)) ?_
          refine op_callG (e := 83) (vs := #[.int .i64 (((Part.at ls K).xs.length : Nat) : Int)]) rfl rfl (by kernel_rfl) (pe hs_1 rfl rfl) (exec_call Try.func44 (by kernel_rfl) (by kernel_rfl) _ rfl _ _ (args1 (pe hs_1 rfl rfl))) (Size_any _ _) (fun e_7 w_8 hR_7 => ?_)
          obtain ⟨rfl, rfl⟩ := hR_7
          refine ⟨_, rfl, ?_⟩
          refine op_valG (e := 83) (d := 89) (v := .int .i64 (((sizeN ((Part.at ls K).xs.length)) + 34 : Nat) : Int)) rfl rfl (by kernel_rfl) (pe hs_1 rfl rfl) (o_add64 (m := (sizeN ((Part.at ls K).xs.length))) (n := 34) rfl (pe hs_1 rfl rfl) rfl (by omega)) ?_
          refine op_valG (e := 83) (d := 90) (v := .bool (false)) rfl rfl (by kernel_rfl) (pe hs_1 rfl rfl) (o_eq (o_neq (m := (sizeN ((Part.at ls K).xs.length) + 34)) (n := ((sizeN ((Part.at ls K).xs.length)) + 34)) rfl (pe hs_1 rfl rfl) (pe hs_1 rfl rfl)) (by rw [decide_eq_true rfl]; rfl)) ?_
          refine op_val (d := 91) (v := .bool (false)) rfl rfl (o_pickF rfl (pe hs_1 rfl rfl) (pe hs_1 rfl rfl)) ?_
          refine x_nil ?_
          refine hK_24 _ _ ?_
          refine w2_condF (pe hs_1 rfl rfl) ?_
          refine w2_skip ?_
          refine hK_23 _ _ ?_
          refine w2_seq (fun K_25 hK_25 => ?_)
          refine x_region (by kernel_rfl) ?_
          refine op_val (d := 92) (v := .slice Aa (na) (ca)) rfl rfl (o_move rfl ((pm rfl).trans ta_1_16)) ?_
          refine op_val (d := 93) (v := .slice A_2 (sizeN ((Part.at ls K).xs.length) + 34) (c_2)) rfl rfl (o_move rfl (pe hs_1 rfl rfl)) ?_
          refine op_ex (d := 94) rfl rfl (o_appW rfl (pe hs_1 rfl rfl) (pe hs_1 rfl rfl) hWa ho_2.bs hna hl_1 (by omega)) (fun v_1 w_9 hR_8 => ?_)
          obtain ⟨A_3, c_3, rfl, hWt_1, hX_2, hA_1⟩ := hR_8
          replace hA_1 : NextM w_7 (blkA Aa) (blkA A_3) := hA_1
          have sp_14 : Sep M_4 (blkA A_3) := hA_1.sep (sAr.symm) hLr.lt
          have sp_15 : Sep (blkA Aq) (blkA A_3) := hA_1.sep (sQA) hQ.lt
          have sp_16 : Sep M_5 (blkA A_3) := hA_1.sep (sp_10.symm) hW_3.lt
          have sp_17 : Sep (blkA A_2) (blkA A_3) := hA_1.sep (sp_11) ho_2.lt
          replace hLr := hLr.keepM hX_2 (sAr.symm)
          replace hQ := hQ.keepM hX_2 (sQA)
          replace hW_3 := hW_3.keepM hX_2 (sp_10.symm)
          replace ho_2 := ho_2.keepM hX_2 (sp_11)
          have gg_6 := hA_1.ge gA HB_5.size
          have HB_6 := hX_2.below HB_5 HB_5.size gA
          refine op_val (d := 16) (v := .slice A_3 (na + (sizeN ((Part.at ls K).xs.length) + 34)) (c_3)) rfl rfl (o_assign rfl (pe hs_1 rfl rfl)) ?_
          refine x_nil ?_
          refine hK_25 _ _ ?_
          refine x_region (by kernel_rfl) ?_
          refine op_val (d := 95) (v := .slice Aq (K) (cq)) rfl rfl (o_move rfl ((pm rfl).trans ta_1_17)) ?_
          refine op_val (d := 96) (v := .slice ((Part.at ls K).A) ((Part.at ls K).xs.length) ((Part.at ls K).c)) rfl rfl (o_move rfl (pe hs_1 rfl rfl)) ?_
          refine op_ex (d := 97) rfl rfl (o_bldS (vs := #[(0, .slice ((Part.at ls K).A) ((Part.at ls K).xs.length) ((Part.at ls K).c))]) (cs := #[.slice ((Part.at ls K).A) ((Part.at ls K).xs.length) ((Part.at ls K).c)]) (e := 22) rfl (bld1 (pe hs_1 rfl rfl)) (fun _ => by kernel_rfl)) (fun v_2 w_10 hR_9 => ?_)
          obtain ⟨g_5, rfl, hle_5, hB_1, hb_7⟩ := hR_9
          have ge_1 : w.heap.size ≤ g_5 := Nat.le_trans HB_6.size hle_5
          replace hLr := hLr.nx hb_7
          replace hQ := hQ.nx hb_7
          replace hW_3 := hW_3.nx hb_7
          replace ho_2 := ho_2.nx hb_7
          replace hWt_1 := hWt_1.nx hb_7
          have HB_7 := below_from HB_6 hb_7
          refine op_ex (d := 98) rfl rfl (o_appR1 (xs := (Part.at ls K).xs) rfl (pe hs_1 rfl rfl) (pe hs_1 rfl rfl) hQ hB_1 rfl (List.length_take_of_le (by omega)) (by omega) HB_7.size) (fun v_3 w_11 hR_10 => ?_)
          obtain ⟨A_4, c_4, rfl, hQ_1, hX_3, hA_2⟩ := hR_10
          have sp_18 : Sep M_4 (blkA A_4) := hA_2.sep (sQr.symm) hLr.lt
          have sp_19 : Sep M_5 (blkA A_4) := hA_2.sep (sp_12.symm) hW_3.lt
          have sp_20 : Sep (blkA A_2) (blkA A_4) := hA_2.sep (sp_13) ho_2.lt
          have sp_21 : Sep (blkA A_3) (blkA A_4) := hA_2.sep (sp_15.symm) hWt_1.lt
          replace hLr := hLr.keepM hX_3 (sQr.symm)
          replace hW_3 := hW_3.keepM hX_3 (sp_12.symm)
          replace ho_2 := ho_2.keepM hX_3 (sp_13)
          replace hWt_1 := hWt_1.keepM hX_3 (sp_15.symm)
          have gg_7 := hA_2.ge hQ.ge' HB_7.size
          have HB_8 := hX_3.below HB_7 HB_7.size hQ.ge'
          refine op_val (d := 17) (v := .slice A_4 (K + 1) (c_4)) rfl rfl (o_assign rfl (pe hs_1 rfl rfl)) ?_
          refine x_nil ?_
          refine hK_18 _ _ ?_
          refine hK_17 _ _ ?_
          refine x_region (by kernel_rfl) ?_
          refine op_val (d := 99) (v := .int .i64 ((K + 1 : Nat) : Int)) rfl rfl (o_add64 (m := K) (n := 1) rfl ((pm rfl).trans ta_1_58) rfl (by omega)) ?_
          refine op_val (d := 58) (v := .int .i64 ((K + 1 : Nat) : Int)) rfl rfl (o_move rfl (pe hs_1 rfl rfl)) ?_
          refine x_nil ?_
          refine hK_14 _ _ _ ⟨K + 1, A_3, na + (sizeN ((Part.at ls K).xs.length) + 34), c_3, A_4, c_4, M_5, rfl, (by rw [putsR_size]; exact hs_1), (by rw [putsR_defers]; exact hd_1), ((pm rfl).trans ta_1_0), ((pm rfl).trans ta_1_1), ((pm rfl).trans ta_1_2), ((pm rfl).trans ta_1_3), ((pm rfl).trans ta_1_9), ((pm rfl).trans ta_1_10), ((pm rfl).trans ta_1_11), ((pm rfl).trans ta_1_12), ((pm rfl).trans ta_1_13), ((pm rfl).trans ta_1_14), ((pm rfl).trans ta_1_15), (pe hs_1 rfl rfl), (pe hs_1 rfl rfl), ((pm rfl).trans ta_1_18), ((pm rfl).trans ta_1_27), ((pm rfl).trans ta_1_28), ((pm rfl).trans ta_1_29), ((pm rfl).trans ta_1_30), ((pm rfl).trans ta_1_31), ((pm rfl).trans ta_1_32), ((pm rfl).trans ta_1_33), ((pm rfl).trans ta_1_34), ((pm rfl).trans ta_1_35), ((pm rfl).trans ta_1_36), ((pm rfl).trans ta_1_37), ((pm rfl).trans ta_1_38), ((pm rfl).trans ta_1_39), ((pm rfl).trans ta_1_40), ((pm rfl).trans ta_1_41), ((pm rfl).trans ta_1_42), ((pm rfl).trans ta_1_43), ((pm rfl).trans ta_1_44), ((pm rfl).trans ta_1_45), ((pm rfl).trans ta_1_46), ((pm rfl).trans ta_1_47), ((pm rfl).trans ta_1_48), ((pm rfl).trans ta_1_49), ((pm rfl).trans ta_1_50), ((pm rfl).trans ta_1_51), ((pm rfl).trans ta_1_52), ((pm rfl).trans ta_1_53), ((pm rfl).trans ta_1_54), ((pm rfl).trans ta_1_55), ((pm rfl).trans ta_1_56), ((pm rfl).trans ta_1_57), (pe hs_1 rfl rfl), (by omega), (by omega), hLr, (by rw [htk, List.map_append]; show Wt _ _ _ (recsL co (_ ++ [_])); rw [recsL_snoc]; exact hWt_1), (by rw [htk, List.map_append]; show (recsL co (_ ++ [_])).length = _; rw [recsL_snoc]; exact (by rw [List.length_append, hna]; have h9 : (recL (putsL co ((ls.take K).map Part.xs)) ((Part.at ls K).xs)).length = sizeN ((Part.at ls K).xs.length) + 34 := hl_1; omega)), (by rw [htk]; exact hQ_1), (by rw [htk, List.map_append]; intro b hb; rcases List.mem_append.1 hb with h | h; (exact hb4 b h); (rw [List.mem_singleton.1 h]; exact q3)), (by omega), sp_14.symm, sp_18.symm, sp_21.symm, gg_6, (by rw [htk, List.map_append]; show WriterAt _ _ _ _ (putsL co (_ ++ [_])); rw [putsL_snoc]; exact hW_3), sp_8.symm, sp_16.symm, sp_19.symm, gg_5, HB_8⟩ ?_
          omega
      · simp only [decide_eq_true_eq, decide_eq_false_iff_not, Bool.not_eq_true', Bool.not_eq_false', Bool.not_true, Bool.not_false, Nat.not_lt, Nat.not_le] at h_1
        refine w2_exit ?_
        refine thn_exit ?_
        refine thn_exit ?_
        refine exb_hit ?_
        refine hK_13 _ _ ?_
        exact hK_11 _ _ ⟨K, Aa, na, ca, Aq, cq, (by rw [putsR_size]; exact hs_1), (by rw [putsR_defers]; exact hd_1), ((pm rfl).trans ta_1_3), ((pm rfl).trans ta_1_15), ((pm rfl).trans ta_1_16), ((pm rfl).trans ta_1_17), ((pm rfl).trans ta_1_18), b1, b2, hLr, hWa, hna, hQ, hb4, b8, sAr, sQr, sQA, gA, HBL⟩
  · skip
    clear t0 t1 t2 t3 hd ho_1 hW_1 hW_2 HB_4
    rintro a_2 w_12 ⟨K, Aa, na, ca, Aq, cq, hs_3, hd_2, ta_2_3, ta_2_15, ta_2_16, ta_2_17, ta_2_18, b1, b2, hLr, hWa, hna, hQ, hb4, b8, sAr, sQr, sQA, gA, HBL⟩
    obtain ⟨bs, hbs⟩ : ∃ q, q = (ls.take K).map Part.xs := ⟨_, rfl⟩
    rw [← hbs] at hWa hna hb4
    have hfin := feed_recs bs co hb4
    have hbl : bs.length = K := by rw [hbs, List.length_map, List.length_take]; omega
    refine x_cut (fun aa ww => ∃ (Mq : Nat → Prop) (Ag : Option Addr) (ng cg : Nat) (gs : List Part), aa.tmps.size = 169 ∧ aa.defers = [] ∧ aa.eval (.tmp 15) = .pointer (some ⟨g_4, 0, none⟩) ∧ aa.eval (.tmp 17) = .slice Aq (K) (cq) ∧ aa.eval (.tmp 18) = .slice Ag (ng) (cg) ∧ ReaderAt ww Mq g_4 g_2 (Rd.at0 (putsL co bs) []) ∧ RowS ww w.heap.size Ag cg gs ∧ AllOwn ww w.heap.size gs ∧ gs.map Part.xs = bs ∧ gs.length = ng ∧ RowS ww w.heap.size Aq cq (ls.take K) ∧ Below w.heap.size w ww) (fun K_26 hK_26 => ?_) ?_
    · skip
      refine w2_seq (fun K_27 hK_27 => ?_)
      refine x_region (by kernel_rfl) ?_
      refine op_val (d := 23) (v := .int .i64 ((0 : Nat) : Int)) rfl rfl (o_assign rfl rfl) ?_
      refine x_nil ?_
      refine hK_27 _ _ ?_
      refine w2_block (fun K_28 hK_28 => ?_)
      refine x_loop (fun nn aa ww => ∃ (I : Nat) (Mq : Nat → Prop) (Aa : Option Addr) (na ca : Nat) (T U : List Nat) (Ag : Option Addr) (ng cg : Nat) (gs : List Part), nn = 61 - I ∧ aa.tmps.size = 169 ∧ aa.defers = [] ∧ aa.eval (.tmp 3) = .slice Ac (nc) (cc) ∧ aa.eval (.tmp 15) = .pointer (some ⟨g_4, 0, none⟩) ∧ aa.eval (.tmp 16) = .slice Aa (na) (ca) ∧ aa.eval (.tmp 17) = .slice Aq (K) (cq) ∧ aa.eval (.tmp 18) = .slice Ag (ng) (cg) ∧ aa.eval (.tmp 23) = .int .i64 ((I : Nat) : Int) ∧ ReaderAt ww Mq g_4 g_2 (feedR (Rd.at0 co []) T).1 ∧ Wt ww Aa ca U ∧ RowS ww w.heap.size Ag cg gs ∧ AllOwn ww w.heap.size gs ∧ RowS ww w.heap.size Aq cq (ls.take K) ∧ T ++ U = recsL co bs ∧ U.length = na ∧ gs.map Part.xs = (feedR (Rd.at0 co []) T).2.2 ∧ gs.length = ng ∧ I ≤ 60 ∧ (50 < I → na = 0) ∧ Sep (blkA Aa) Mq ∧ Sep (blkA Aq) Mq ∧ Sep (blkA Ag) Mq ∧ Sep (blkP gs) Mq ∧ Sep (blkA Aa) (blkA Ag) ∧ Sep (blkA Aq) (blkA Ag) ∧ Sep (blkP gs) (blkA Ag) ∧ Ge w Mq ∧ ng ≤ 100000 + I * 1000000 ∧ Below w.heap.size w ww) (61 - 0) ?_ ?_
      · exact ⟨0, M_4, Aa, na, ca, [], recsL co bs, none, 0, 0, [], rfl, (by rw [putsR_size]; exact hs_3), (by rw [putsR_defers]; exact hd_2), ((pm rfl).trans ta_2_3), ((pm rfl).trans ta_2_15), ((pm rfl).trans ta_2_16), ((pm rfl).trans ta_2_17), ((pm rfl).trans ta_2_18), (pe hs_3 rfl rfl), (by rw [feed_none]; exact hLr), hWa, RowS.nil _ _, (fun p hp => absurd hp (by simp)), hQ, (List.nil_append _), hna, (by rw [feed_none]; rfl), rfl, Nat.zero_le _, (fun h => absurd h (by omega)), sAr, sQr, (fun j hj => absurd hj blkA_none), (fun j hj => absurd hj blkP_nil), (fun j hj hm => absurd hm blkA_none), (fun j hj hm => absurd hm blkA_none), (fun j hj => absurd hj blkP_nil), gg_4, (by omega), HBL⟩
      · skip
        clear ta_2_3 ta_2_15 ta_2_18 ta_2_16 ta_2_17 hd_2 hLr hWa hQ HBL
        rintro nna_3 a_3 w_13 ⟨I, Mq, Aa, na, ca, T, U, Ag, ng, cg, gs, hm_2, hs_4, hd_3, ta_3_3, ta_3_15, ta_3_16, ta_3_17, ta_3_18, ta_3_23, hLr, hWa, hG, hPg, hQ, p1, p3, p5, p8, p9, p10, sAr, sQr, sGr, sPr, sAG, sQG, sPG, gR, p11, HBM⟩ K_29 hK_29
        subst hm_2
        refine w2_seq (fun K_30 hK_30 => ?_)
        refine w2_seq (fun K_31 hK_31 => ?_)
        rcases (show na = 0 ∨ (0 < na ∧ I < 60) by by_cases h5 : 50 < I; (exact .inl (p10 h5)); omega) with q1 | ⟨q1, q2⟩
        · skip
          obtain rfl : U = [] := List.eq_nil_of_length_eq_zero (by omega)
          rw [List.append_nil] at p1
          subst p1
          rw [hfin] at hLr p5
          dsimp only at hLr p5
          refine x_region (by kernel_rfl) ?_
          refine op_val (d := 100) (v := .slice Aa (na) (ca)) rfl rfl (o_move rfl ((pm rfl).trans ta_3_16)) ?_
          refine op_val (d := 101) (v := .int .i64 ((na : Nat) : Int)) rfl rfl (o_len rfl (pe hs_4 rfl rfl)) ?_
          refine op_val (d := 102) (v := .bool (false)) rfl rfl (o_eq (o_gtr (m := na) (n := 0) rfl (pe hs_4 rfl rfl) rfl) (by rw [decide_eq_false (by omega)])) ?_
          refine op_val (d := 103) (v := .bool (false)) rfl rfl (o_move rfl (pe hs_4 rfl rfl)) ?_
          refine op_left (e := 103) rfl rfl (by kernel_rfl) (pe hs_4 rfl rfl) rfl ?_
          refine op_left (e := 103) rfl rfl (by kernel_rfl) (pe hs_4 rfl rfl) rfl ?_
          refine op_val (d := 106) (v := .bool (false)) rfl rfl (o_pickF rfl (pe hs_4 rfl rfl) rfl) ?_
          refine x_nil ?_
          refine hK_31 _ _ ?_
          refine w2_condF (pe hs_4 rfl rfl) ?_
          refine w2_exit ?_
          refine thn_exit ?_
          refine thn_exit ?_
          refine exb_hit ?_
          refine hK_28 _ _ ?_
          exact hK_26 _ _ ⟨Mq, Ag, ng, cg, gs, (by rw [putsR_size]; exact hs_4), (by rw [putsR_defers]; exact hd_3), ((pm rfl).trans ta_3_15), ((pm rfl).trans ta_3_17), ((pm rfl).trans ta_3_18), hLr, hG, hPg, p5, p8, hQ, HBM⟩
        · skip
          refine x_region (by kernel_rfl) ?_
          refine op_val (d := 100) (v := .slice Aa (na) (ca)) rfl rfl (o_move rfl ((pm rfl).trans ta_3_16)) ?_
          refine op_val (d := 101) (v := .int .i64 ((na : Nat) : Int)) rfl rfl (o_len rfl (pe hs_4 rfl rfl)) ?_
          refine op_val (d := 102) (v := .bool (true)) rfl rfl (o_eq (o_gtr (m := na) (n := 0) rfl (pe hs_4 rfl rfl) rfl) (by rw [decide_eq_true q1])) ?_
          refine op_val (d := 103) (v := .bool (true)) rfl rfl (o_move rfl (pe hs_4 rfl rfl)) ?_
          refine op_valG (e := 103) (d := 104) (v := .int .i64 ((I : Nat) : Int)) rfl rfl (by kernel_rfl) (pe hs_4 rfl rfl) (o_move rfl ((pm rfl).trans ta_3_23)) ?_
          refine op_valG (e := 103) (d := 105) (v := .bool (true)) rfl rfl (by kernel_rfl) (pe hs_4 rfl rfl) (o_eq (o_lss (m := I) (n := 60) rfl (pe hs_4 rfl rfl) rfl) (by rw [decide_eq_true q2])) ?_
          refine op_val (d := 106) (v := .bool (true)) rfl rfl (o_pickT rfl (pe hs_4 rfl rfl) (pe hs_4 rfl rfl)) ?_
          refine x_nil ?_
          refine hK_31 _ _ ?_
          refine w2_condT (pe hs_4 rfl rfl) ?_
          refine w2_skip ?_
          refine hK_30 _ _ ?_
          refine w2_seq (fun K_32 hK_32 => ?_)
          refine w2_block (fun K_33 hK_33 => ?_)
          refine w2_seq (fun K_34 hK_34 => ?_)
          have hna2 : na ≤ 14300 := by have h9 := congrArg List.length p1; rw [List.length_append] at h9; omega
          refine x_region (by kernel_rfl) ?_
          refine op_val (d := 109) (v := .slice Aa (na) (ca)) rfl rfl (o_move rfl ((pm rfl).trans ta_3_16)) ?_
          refine op_val (d := 110) (v := .int .i64 ((na : Nat) : Int)) rfl rfl (o_len rfl (pe hs_4 rfl rfl)) ?_
          refine op_val (d := 24) (v := .int .i64 ((na : Nat) : Int)) rfl rfl (o_assign rfl (pe hs_4 rfl rfl)) ?_
          refine x_nil ?_
          refine hK_34 _ _ ?_
          refine w2_seq (fun K_35 hK_35 => ?_)
          refine w2_seq (fun K_36 hK_36 => ?_)
          rcases (show nc ≤ I ∨ (I < nc ∧ 50 ≤ I) ∨ (I < nc ∧ I < 50) by omega) with q3 | ⟨q3, q4⟩ | ⟨q3, q4⟩
          · skip
            refine x_region (by kernel_rfl) ?_
            refine op_val (d := 111) (v := .int .i64 ((I : Nat) : Int)) rfl rfl (o_move rfl ((pm rfl).trans ta_3_23)) ?_
            refine op_val (d := 112) (v := .slice Ac (nc) (cc)) rfl rfl (o_move rfl ((pm rfl).trans ta_3_3)) ?_
            refine op_val (d := 113) (v := .int .i64 ((nc : Nat) : Int)) rfl rfl (o_lenI rfl (pe hs_4 rfl rfl)) ?_
            refine op_val (d := 114) (v := .bool (false)) rfl rfl (o_eq (o_lss (m := I) (n := nc) rfl (pe hs_4 rfl rfl) (pe hs_4 rfl rfl)) (by rw [decide_eq_false (by omega)])) ?_
            refine op_val (d := 115) (v := .bool (false)) rfl rfl (o_move rfl (pe hs_4 rfl rfl)) ?_
            refine op_left (e := 115) rfl rfl (by kernel_rfl) (pe hs_4 rfl rfl) rfl ?_
            refine op_left (e := 115) rfl rfl (by kernel_rfl) (pe hs_4 rfl rfl) rfl ?_
            refine op_val (d := 118) (v := .bool (false)) rfl rfl (o_pickF rfl (pe hs_4 rfl rfl) rfl) ?_
            refine x_nil ?_
            refine hK_36 _ _ ?_
            refine w2_condF (pe hs_4 rfl rfl) ?_
            refine w2_skip ?_
            refine hK_35 _ _ ?_
            refine w2_seq (fun K_37 hK_37 => ?_)
            have hnle : na ≤ na := by omega
            have hca := hWa.le
            rw [p3] at hca
            have hS := hWa.first (n := na) (by omega)
            have hSl : (U.take na).length = na := List.length_take_of_le (by omega)
            obtain ⟨hgood, o, hq1, hq2⟩ := ord_step (T := T) (U := U) na p1 hfin
            obtain ⟨hd9, i1, i2, i3⟩ := feed_invO hgood
            have hTl : T.length ≤ 14300 := by have h9 := congrArg List.length p1; rw [List.length_append] at h9; omega
            change _ ≤ co.n + (0 + T.length) at i1
            change _ ≤ co.cnt + (0 + T.length) at i2
            change _ ≤ 0 + T.length at i3
            refine x_region (by kernel_rfl) ?_
            refine op_val (d := 131) (v := .pointer (some ⟨g_4, 0, none⟩)) rfl rfl (o_move rfl ((pm rfl).trans ta_3_15)) ?_
            refine op_val (d := 132) (v := .slice Aa (na) (ca)) rfl rfl (o_move rfl ((pm rfl).trans ta_3_16)) ?_
            refine op_val (d := 133) (v := .int .i64 ((na : Nat) : Int)) rfl rfl (o_move rfl (pe hs_4 rfl rfl)) ?_
            refine op_val (d := 134) (v := .slice ((subA Aa 0 ca)) (na) (ca)) rfl rfl (o_sliceH rfl (pe hs_4 rfl rfl) (pe hs_4 rfl rfl) (by omega)) ?_
            refine op_call (vs := #[.pointer (some ⟨g_4, 0, none⟩), .slice ((subA Aa 0 ca)) (na) (ca)]) rfl rfl (exec_call Try.func41 (by kernel_rfl) (by kernel_rfl) _ rfl _ _ (args2 (pe hs_4 rfl rfl) (pe hs_4 rfl rfl))) (Feed_any _ hLr hd9 hS hSl hq1 (by omega) (by omega) (by omega)) (fun e_8 w_14 hR_11 => ?_)
            obtain ⟨ps_1, A_5, c_5, rfl, hm_3, hRw_1, hAO_1, ⟨M_6, hR_12, hN_4, hs_5, hs_6⟩, hX_4⟩ := hR_11
            have sp_22 : Sep (blkA Aq) M_6 := hN_4.sep (sQr) hQ.lt
            have sp_23 : Sep (blkA A_5) (blkA Aq) := (Sep.new hQ.lt hRw_1.ge').symm
            have sp_24 : Sep (blkP ps_1) (blkA Aq) := (Sep.new hQ.lt hAO_1.ge').symm
            have sp_25 : Sep (blkA Aa) M_6 := hN_4.sep (sAr) hWa.lt
            have sp_26 : Sep (blkA A_5) (blkA Aa) := (Sep.new hWa.lt hRw_1.ge').symm
            have sp_27 : Sep (blkP ps_1) (blkA Aa) := (Sep.new hWa.lt hAO_1.ge').symm
            have sp_28 : Sep (blkA Ag) M_6 := hN_4.sep (sGr) hG.lt
            have sp_29 : Sep (blkA A_5) (blkA Ag) := (Sep.new hG.lt hRw_1.ge').symm
            have sp_30 : Sep (blkP ps_1) (blkA Ag) := (Sep.new hG.lt hAO_1.ge').symm
            have sp_31 : Sep (blkP gs) M_6 := hN_4.sep (sPr) hPg.lt
            have sp_32 : Sep (blkA A_5) (blkP gs) := (Sep.new hPg.lt hRw_1.ge').symm
            have sp_33 : Sep (blkP ps_1) (blkP gs) := (Sep.new hPg.lt hAO_1.ge').symm
            replace hQ := hQ.keepM hX_4 (sQr)
            replace hWa := hWa.keepM hX_4 (sAr)
            replace hG := hG.keepM hX_4 (sGr)
            replace hPg := hPg.keepM hX_4 (sPr)
            have gg_8 := hN_4.ge gR HBM.size
            replace hRw_1 := hRw_1.mono HBM.size
            replace hAO_1 := hAO_1.mono HBM.size
            have HB_9 := hX_4.below HBM HBM.size gR
            refine ⟨_, rfl, ?_⟩
            refine op_val (d := 130) (v := .tuple #[.slice A_5 (ps_1.length) (c_5), .int .i64 ((0 : Nat) : Int)]) rfl rfl (o_move rfl (pe hs_4 rfl rfl)) ?_
            refine op_val (d := 136) (v := .slice A_5 (ps_1.length) (c_5)) rfl rfl (o_extract rfl (pe hs_4 rfl rfl) rfl) ?_
            refine op_val (d := 137) (v := .int .i64 ((0 : Nat) : Int)) rfl rfl (o_extract rfl (pe hs_4 rfl rfl) rfl) ?_
            refine op_val (d := 25) (v := .slice A_5 (ps_1.length) (c_5)) rfl rfl (o_assign rfl (pe hs_4 rfl rfl)) ?_
            refine op_val (d := 26) (v := .int .i64 ((0 : Nat) : Int)) rfl rfl (o_assign rfl (pe hs_4 rfl rfl)) ?_
            refine x_nil ?_
            refine hK_37 _ _ ?_
            refine w2_seq (fun K_38 hK_38 => ?_)
            refine w2_seq (fun K_39 hK_39 => ?_)
            refine x_region (by kernel_rfl) ?_
            refine op_val (d := 138) (v := .int .i64 ((0 : Nat) : Int)) rfl rfl (o_move rfl (pe hs_4 rfl rfl)) ?_
            refine op_val (d := 139) (v := .bool (false)) rfl rfl (o_eq (o_neq (m := 0) (n := 0) rfl (pe hs_4 rfl rfl) rfl) rfl) ?_
            refine x_nil ?_
            refine hK_39 _ _ ?_
            refine w2_condF (pe hs_4 rfl rfl) ?_
            refine w2_skip ?_
            refine hK_38 _ _ ?_
            refine w2_seq (fun K_40 hK_40 => ?_)
            refine x_region (by kernel_rfl) ?_
            refine op_val (d := 140) (v := .slice Ag (ng) (cg)) rfl rfl (o_move rfl ((pm rfl).trans ta_3_18)) ?_
            refine op_val (d := 141) (v := .slice A_5 (ps_1.length) (c_5)) rfl rfl (o_move rfl (pe hs_4 rfl rfl)) ?_
            have hpl : ps_1.length ≤ 1000000 := by have h9 := congrArg List.length hm_3; rw [List.length_map] at h9; have h8 := feed_outs hq1; omega
            refine op_ex (d := 142) rfl rfl (o_appRs rfl (pe hs_4 rfl rfl) (pe hs_4 rfl rfl) hG hRw_1 p8 rfl (by omega) HB_9.size) (fun v_4 w_15 hR_13 => ?_)
            obtain ⟨A_6, c_6, rfl, hG_1, hX_5, hA_3⟩ := hR_13
            have sp_34 : Sep (blkA Aq) (blkA A_6) := hA_3.sep (sQG) hQ.lt
            have sp_35 : Sep (blkA Aa) (blkA A_6) := hA_3.sep (sAG) hWa.lt
            have sp_36 : Sep (blkP gs) (blkA A_6) := hA_3.sep (sPG) hPg.lt
            have sp_37 : Sep M_6 (blkA A_6) := hA_3.sep (sp_28.symm) hR_12.lt
            have sp_38 : Sep (blkA A_5) (blkA A_6) := hA_3.sep (sp_29) hRw_1.lt
            have sp_39 : Sep (blkP ps_1) (blkA A_6) := hA_3.sep (sp_30) hAO_1.lt
            replace hQ := hQ.keepM hX_5 (sQG)
            replace hWa := hWa.keepM hX_5 (sAG)
            replace hPg := hPg.keepM hX_5 (sPG)
            replace hR_12 := hR_12.keepM hX_5 (sp_28.symm)
            replace hRw_1 := hRw_1.keepM hX_5 (sp_29)
            replace hAO_1 := hAO_1.keepM hX_5 (sp_30)
            have gg_9 := hA_3.ge hG.ge' HB_9.size
            have HB_10 := hX_5.below HB_9 HB_9.size hG.ge'
            refine op_val (d := 18) (v := .slice A_6 (ng + ps_1.length) (c_6)) rfl rfl (o_assign rfl (pe hs_4 rfl rfl)) ?_
            refine x_nil ?_
            refine hK_40 _ _ ?_
            refine x_region (by kernel_rfl) ?_
            refine op_val (d := 143) (v := .slice Aa (na) (ca)) rfl rfl (o_move rfl ((pm rfl).trans ta_3_16)) ?_
            refine op_val (d := 144) (v := .int .i64 ((na : Nat) : Int)) rfl rfl (o_move rfl (pe hs_4 rfl rfl)) ?_
            refine op_val (d := 145) (v := .slice ((subA Aa na ca)) (na - na) (ca - na)) rfl rfl (o_sliceL rfl (pe hs_4 rfl rfl) (pe hs_4 rfl rfl) (by omega)) ?_
            refine op_val (d := 16) (v := .slice ((subA Aa na ca)) (na - na) (ca - na)) rfl rfl (o_assign rfl (pe hs_4 rfl rfl)) ?_
            refine x_nil ?_
            refine hK_33 _ _ ?_
            refine hK_32 _ _ ?_
            refine x_region (by kernel_rfl) ?_
            refine op_val (d := 107) (v := .int .i64 ((I : Nat) : Int)) rfl rfl (o_move rfl ((pm rfl).trans ta_3_23)) ?_
            refine op_val (d := 108) (v := .int .i64 ((I + 1 : Nat) : Int)) rfl rfl (o_add64 (m := I) (n := 1) rfl (pe hs_4 rfl rfl) rfl (by omega)) ?_
            refine op_val (d := 23) (v := .int .i64 ((I + 1 : Nat) : Int)) rfl rfl (o_assign rfl (pe hs_4 rfl rfl)) ?_
            refine x_nil ?_
            refine hK_29 _ _ _ ⟨I + 1, M_6, (subA Aa na ca), na - na, ca - na, T ++ U.take na, U.drop na, A_6, ng + ps_1.length, c_6, gs ++ ps_1, rfl, (by rw [putsR_size]; exact hs_4), (by rw [putsR_defers]; exact hd_3), ((pm rfl).trans ta_3_3), ((pm rfl).trans ta_3_15), (pe hs_4 rfl rfl), ((pm rfl).trans ta_3_17), (pe hs_4 rfl rfl), (pe hs_4 rfl rfl), hR_12, (hWa.drop (by omega)), hG_1, (hPg.app hAO_1), hQ, (by rw [List.append_assoc, List.take_append_drop]; exact p1), (by rw [List.length_drop, p3]), (by rw [List.map_append, p5, hm_3, hq2]), (by rw [List.length_append, p8]), (by omega), (fun _ => by omega), (fun j hj => (sp_25) j (blkA_sub hj)), sp_22, sp_37.symm, (fun j hj => (blkP_app hj).elim (sp_31 j) (hs_5 j)), (fun j hj => (sp_35) j (blkA_sub hj)), sp_34, (fun j hj => (blkP_app hj).elim (sp_36 j) (sp_39 j)), gg_8, (by omega), HB_10⟩ ?_
            omega
          · skip
            refine x_region (by kernel_rfl) ?_
            refine op_val (d := 111) (v := .int .i64 ((I : Nat) : Int)) rfl rfl (o_move rfl ((pm rfl).trans ta_3_23)) ?_
            refine op_val (d := 112) (v := .slice Ac (nc) (cc)) rfl rfl (o_move rfl ((pm rfl).trans ta_3_3)) ?_
            refine op_val (d := 113) (v := .int .i64 ((nc : Nat) : Int)) rfl rfl (o_lenI rfl (pe hs_4 rfl rfl)) ?_
            refine op_val (d := 114) (v := .bool (true)) rfl rfl (o_eq (o_lss (m := I) (n := nc) rfl (pe hs_4 rfl rfl) (pe hs_4 rfl rfl)) (by rw [decide_eq_true q3])) ?_
            refine op_val (d := 115) (v := .bool (true)) rfl rfl (o_move rfl (pe hs_4 rfl rfl)) ?_
            refine op_valG (e := 115) (d := 116) (v := .int .i64 ((I : Nat) : Int)) rfl rfl (by kernel_rfl) (pe hs_4 rfl rfl) (o_move rfl ((pm rfl).trans ta_3_23)) ?_
            refine op_valG (e := 115) (d := 117) (v := .bool (false)) rfl rfl (by kernel_rfl) (pe hs_4 rfl rfl) (o_eq (o_lss (m := I) (n := 50) rfl (pe hs_4 rfl rfl) rfl) (by rw [decide_eq_false (by omega)])) ?_
            refine op_val (d := 118) (v := .bool (false)) rfl rfl (o_pickT rfl (pe hs_4 rfl rfl) (pe hs_4 rfl rfl)) ?_
            refine x_nil ?_
            refine hK_36 _ _ ?_
            refine w2_condF (pe hs_4 rfl rfl) ?_
            refine w2_skip ?_
            refine hK_35 _ _ ?_
            refine w2_seq (fun K_41 hK_41 => ?_)
            have hnle : na ≤ na := by omega
            have hca := hWa.le
            rw [p3] at hca
            have hS := hWa.first (n := na) (by omega)
            have hSl : (U.take na).length = na := List.length_take_of_le (by omega)
            obtain ⟨hgood, o, hq1, hq2⟩ := ord_step (T := T) (U := U) na p1 hfin
            obtain ⟨hd9, i1, i2, i3⟩ := feed_invO hgood
            have hTl : T.length ≤ 14300 := by have h9 := congrArg List.length p1; rw [List.length_append] at h9; omega
            change _ ≤ co.n + (0 + T.length) at i1
            change _ ≤ co.cnt + (0 + T.length) at i2
            change _ ≤ 0 + T.length at i3
            refine x_region (by kernel_rfl) ?_
            refine op_val (d := 131) (v := .pointer (some ⟨g_4, 0, none⟩)) rfl rfl (o_move rfl ((pm rfl).trans ta_3_15)) ?_
            refine op_val (d := 132) (v := .slice Aa (na) (ca)) rfl rfl (o_move rfl ((pm rfl).trans ta_3_16)) ?_
            refine op_val (d := 133) (v := .int .i64 ((na : Nat) : Int)) rfl rfl (o_move rfl (pe hs_4 rfl rfl)) ?_
            refine op_val (d := 134) (v := .slice ((subA Aa 0 ca)) (na) (ca)) rfl rfl (o_sliceH rfl (pe hs_4 rfl rfl) (pe hs_4 rfl rfl) (by omega)) ?_
            refine op_call (vs := #[.pointer (some ⟨g_4, 0, none⟩), .slice ((subA Aa 0 ca)) (na) (ca)]) rfl rfl (exec_call Try.func41 (by kernel_rfl) (by kernel_rfl) _ rfl _ _ (args2 (pe hs_4 rfl rfl) (pe hs_4 rfl rfl))) (Feed_any _ hLr hd9 hS hSl hq1 (by omega) (by omega) (by omega)) (fun e_9 w_16 hR_14 => ?_)
            obtain ⟨ps_2, A_7, c_7, rfl, hm_4, hRw_2, hAO_2, ⟨M_7, hR_15, hN_5, hs_7, hs_8⟩, hX_6⟩ := hR_14
            have sp_40 : Sep (blkA Aq) M_7 := hN_5.sep (sQr) hQ.lt
            have sp_41 : Sep (blkA A_7) (blkA Aq) := (Sep.new hQ.lt hRw_2.ge').symm
            have sp_42 : Sep (blkP ps_2) (blkA Aq) := (Sep.new hQ.lt hAO_2.ge').symm
            have sp_43 : Sep (blkA Aa) M_7 := hN_5.sep (sAr) hWa.lt
            have sp_44 : Sep (blkA A_7) (blkA Aa) := (Sep.new hWa.lt hRw_2.ge').symm
            have sp_45 : Sep (blkP ps_2) (blkA Aa) := (Sep.new hWa.lt hAO_2.ge').symm
            have sp_46 : Sep (blkA Ag) M_7 := hN_5.sep (sGr) hG.lt
            have sp_47 : Sep (blkA A_7) (blkA Ag) := (Sep.new hG.lt hRw_2.ge').symm
            have sp_48 : Sep (blkP ps_2) (blkA Ag) := (Sep.new hG.lt hAO_2.ge').symm
            have sp_49 : Sep (blkP gs) M_7 := hN_5.sep (sPr) hPg.lt
            have sp_50 : Sep (blkA A_7) (blkP gs) := (Sep.new hPg.lt hRw_2.ge').symm
            have sp_51 : Sep (blkP ps_2) (blkP gs) := (Sep.new hPg.lt hAO_2.ge').symm
            replace hQ := hQ.keepM hX_6 (sQr)
            replace hWa := hWa.keepM hX_6 (sAr)
            replace hG := hG.keepM hX_6 (sGr)
            replace hPg := hPg.keepM hX_6 (sPr)
            have gg_10 := hN_5.ge gR HBM.size
            replace hRw_2 := hRw_2.mono HBM.size
            replace hAO_2 := hAO_2.mono HBM.size
            have HB_11 := hX_6.below HBM HBM.size gR
            refine ⟨_, rfl, ?_⟩
            refine op_val (d := 130) (v := .tuple #[.slice A_7 (ps_2.length) (c_7), .int .i64 ((0 : Nat) : Int)]) rfl rfl (o_move rfl (pe hs_4 rfl rfl)) ?_
            refine op_val (d := 136) (v := .slice A_7 (ps_2.length) (c_7)) rfl rfl (o_extract rfl (pe hs_4 rfl rfl) rfl) ?_
            refine op_val (d := 137) (v := .int .i64 ((0 : Nat) : Int)) rfl rfl (o_extract rfl (pe hs_4 rfl rfl) rfl) ?_
            refine op_val (d := 25) (v := .slice A_7 (ps_2.length) (c_7)) rfl rfl (o_assign rfl (pe hs_4 rfl rfl)) ?_
            refine op_val (d := 26) (v := .int .i64 ((0 : Nat) : Int)) rfl rfl (o_assign rfl (pe hs_4 rfl rfl)) ?_
            refine x_nil ?_
            refine hK_41 _ _ ?_
            refine w2_seq (fun K_42 hK_42 => ?_)
            refine w2_seq (fun K_43 hK_43 => ?_)
            refine x_region (by kernel_rfl) ?_
            refine op_val (d := 138) (v := .int .i64 ((0 : Nat) : Int)) rfl rfl (o_move rfl (pe hs_4 rfl rfl)) ?_
            refine op_val (d := 139) (v := .bool (false)) rfl rfl (o_eq (o_neq (m := 0) (n := 0) rfl (pe hs_4 rfl rfl) rfl) rfl) ?_
            refine x_nil ?_
            refine hK_43 _ _ ?_
            refine w2_condF (pe hs_4 rfl rfl) ?_
            refine w2_skip ?_
            refine hK_42 _ _ ?_
            refine w2_seq (fun K_44 hK_44 => ?_)
            refine x_region (by kernel_rfl) ?_
            refine op_val (d := 140) (v := .slice Ag (ng) (cg)) rfl rfl (o_move rfl ((pm rfl).trans ta_3_18)) ?_
            refine op_val (d := 141) (v := .slice A_7 (ps_2.length) (c_7)) rfl rfl (o_move rfl (pe hs_4 rfl rfl)) ?_
            have hpl : ps_2.length ≤ 1000000 := by have h9 := congrArg List.length hm_4; rw [List.length_map] at h9; have h8 := feed_outs hq1; omega
            refine op_ex (d := 142) rfl rfl (o_appRs rfl (pe hs_4 rfl rfl) (pe hs_4 rfl rfl) hG hRw_2 p8 rfl (by omega) HB_11.size) (fun v_5 w_17 hR_16 => ?_)
            obtain ⟨A_8, c_8, rfl, hG_2, hX_7, hA_4⟩ := hR_16
            have sp_52 : Sep (blkA Aq) (blkA A_8) := hA_4.sep (sQG) hQ.lt
            have sp_53 : Sep (blkA Aa) (blkA A_8) := hA_4.sep (sAG) hWa.lt
            have sp_54 : Sep (blkP gs) (blkA A_8) := hA_4.sep (sPG) hPg.lt
            have sp_55 : Sep M_7 (blkA A_8) := hA_4.sep (sp_46.symm) hR_15.lt
            have sp_56 : Sep (blkA A_7) (blkA A_8) := hA_4.sep (sp_47) hRw_2.lt
            have sp_57 : Sep (blkP ps_2) (blkA A_8) := hA_4.sep (sp_48) hAO_2.lt
            replace hQ := hQ.keepM hX_7 (sQG)
            replace hWa := hWa.keepM hX_7 (sAG)
            replace hPg := hPg.keepM hX_7 (sPG)
            replace hR_15 := hR_15.keepM hX_7 (sp_46.symm)
            replace hRw_2 := hRw_2.keepM hX_7 (sp_47)
            replace hAO_2 := hAO_2.keepM hX_7 (sp_48)
            have gg_11 := hA_4.ge hG.ge' HB_11.size
            have HB_12 := hX_7.below HB_11 HB_11.size hG.ge'
            refine op_val (d := 18) (v := .slice A_8 (ng + ps_2.length) (c_8)) rfl rfl (o_assign rfl (pe hs_4 rfl rfl)) ?_
            refine x_nil ?_
            refine hK_44 _ _ ?_
            refine x_region (by kernel_rfl) ?_
            refine op_val (d := 143) (v := .slice Aa (na) (ca)) rfl rfl (o_move rfl ((pm rfl).trans ta_3_16)) ?_
            refine op_val (d := 144) (v := .int .i64 ((na : Nat) : Int)) rfl rfl (o_move rfl (pe hs_4 rfl rfl)) ?_
            refine op_val (d := 145) (v := .slice ((subA Aa na ca)) (na - na) (ca - na)) rfl rfl (o_sliceL rfl (pe hs_4 rfl rfl) (pe hs_4 rfl rfl) (by omega)) ?_
            refine op_val (d := 16) (v := .slice ((subA Aa na ca)) (na - na) (ca - na)) rfl rfl (o_assign rfl (pe hs_4 rfl rfl)) ?_
            refine x_nil ?_
            refine hK_33 _ _ ?_
            refine hK_32 _ _ ?_
            refine x_region (by kernel_rfl) ?_
            refine op_val (d := 107) (v := .int .i64 ((I : Nat) : Int)) rfl rfl (o_move rfl ((pm rfl).trans ta_3_23)) ?_
            refine op_val (d := 108) (v := .int .i64 ((I + 1 : Nat) : Int)) rfl rfl (o_add64 (m := I) (n := 1) rfl (pe hs_4 rfl rfl) rfl (by omega)) ?_
            refine op_val (d := 23) (v := .int .i64 ((I + 1 : Nat) : Int)) rfl rfl (o_assign rfl (pe hs_4 rfl rfl)) ?_
            refine x_nil ?_
            refine hK_29 _ _ _ ⟨I + 1, M_7, (subA Aa na ca), na - na, ca - na, T ++ U.take na, U.drop na, A_8, ng + ps_2.length, c_8, gs ++ ps_2, rfl, (by rw [putsR_size]; exact hs_4), (by rw [putsR_defers]; exact hd_3), ((pm rfl).trans ta_3_3), ((pm rfl).trans ta_3_15), (pe hs_4 rfl rfl), ((pm rfl).trans ta_3_17), (pe hs_4 rfl rfl), (pe hs_4 rfl rfl), hR_15, (hWa.drop (by omega)), hG_2, (hPg.app hAO_2), hQ, (by rw [List.append_assoc, List.take_append_drop]; exact p1), (by rw [List.length_drop, p3]), (by rw [List.map_append, p5, hm_4, hq2]), (by rw [List.length_append, p8]), (by omega), (fun _ => by omega), (fun j hj => (sp_43) j (blkA_sub hj)), sp_40, sp_55.symm, (fun j hj => (blkP_app hj).elim (sp_49 j) (hs_7 j)), (fun j hj => (sp_53) j (blkA_sub hj)), sp_52, (fun j hj => (blkP_app hj).elim (sp_54 j) (sp_57 j)), gg_10, (by omega), HB_12⟩ ?_
            omega
          · skip
            obtain ⟨gq, oq, zc, hAc, hcc⟩ := hcut I q3
            have hmd := Nat.mod_lt (at64 zc) (show 0 < na + 1 by omega)
            have hzc := at64_lt zc
            obtain ⟨nn, hnn⟩ : ∃ q, at64 zc % (na + 1) = q := ⟨_, rfl⟩
            refine x_region (by kernel_rfl) ?_
            refine op_val (d := 111) (v := .int .i64 ((I : Nat) : Int)) rfl rfl (o_move rfl ((pm rfl).trans ta_3_23)) ?_
            refine op_val (d := 112) (v := .slice Ac (nc) (cc)) rfl rfl (o_move rfl ((pm rfl).trans ta_3_3)) ?_
            refine op_val (d := 113) (v := .int .i64 ((nc : Nat) : Int)) rfl rfl (o_lenI rfl (pe hs_4 rfl rfl)) ?_
            refine op_val (d := 114) (v := .bool (true)) rfl rfl (o_eq (o_lss (m := I) (n := nc) rfl (pe hs_4 rfl rfl) (pe hs_4 rfl rfl)) (by rw [decide_eq_true q3])) ?_
            refine op_val (d := 115) (v := .bool (true)) rfl rfl (o_move rfl (pe hs_4 rfl rfl)) ?_
            refine op_valG (e := 115) (d := 116) (v := .int .i64 ((I : Nat) : Int)) rfl rfl (by kernel_rfl) (pe hs_4 rfl rfl) (o_move rfl ((pm rfl).trans ta_3_23)) ?_
            refine op_valG (e := 115) (d := 117) (v := .bool (true)) rfl rfl (by kernel_rfl) (pe hs_4 rfl rfl) (o_eq (o_lss (m := I) (n := 50) rfl (pe hs_4 rfl rfl) rfl) (by rw [decide_eq_true q4])) ?_
            refine op_val (d := 118) (v := .bool (true)) rfl rfl (o_pickT rfl (pe hs_4 rfl rfl) (pe hs_4 rfl rfl)) ?_
            refine x_nil ?_
            refine hK_36 _ _ ?_
            refine w2_condT (pe hs_4 rfl rfl) ?_
            refine x_region (by kernel_rfl) ?_
            refine op_val (d := 119) (v := .slice Ac (nc) (cc)) rfl rfl (o_move rfl ((pm rfl).trans ta_3_3)) ?_
            refine op_val (d := 120) (v := .int .i64 ((I : Nat) : Int)) rfl rfl (o_move rfl ((pm rfl).trans ta_3_23)) ?_
            refine op_val (d := 121) (v := .pointer (atA Ac (I))) rfl rfl (o_ixI (k := I) rfl (pe hs_4 rfl rfl) (pe hs_4 rfl rfl) q3 (by rw [hAc]; rfl)) ?_
            refine op_val (d := 122) (v := .int .i64 (zc)) rfl rfl (o_loadC rfl (pe hs_4 rfl rfl) hAc ((HBM.cell (p := ⟨gq, oq + I, none⟩) (World.block_lt_of_cell? w _ hcc)).trans hcc) ⟨by kernel_rfl, by kernel_rfl⟩) ?_
            refine op_val (d := 123) (v := .int .u64 ((at64 zc : Nat) : Int)) rfl rfl (o_convZ rfl (pe hs_4 rfl rfl) ⟨.int .i64, fun _ => by kernel_rfl⟩ (fun _ => by kernel_rfl)) ?_
            refine op_val (d := 124) (v := .slice Aa (na) (ca)) rfl rfl (o_move rfl ((pm rfl).trans ta_3_16)) ?_
            refine op_val (d := 125) (v := .int .i64 ((na : Nat) : Int)) rfl rfl (o_len rfl (pe hs_4 rfl rfl)) ?_
            refine op_val (d := 126) (v := .int .i64 ((na + 1 : Nat) : Int)) rfl rfl (o_add64 (m := na) (n := 1) rfl (pe hs_4 rfl rfl) rfl (by omega)) ?_
            refine op_val (d := 127) (v := .int .u64 ((na + 1 : Nat) : Int)) rfl rfl (o_conv (m := (na + 1)) (r := na + 1) rfl (pe hs_4 rfl rfl) ⟨.int .i64, fun _ => by kernel_rfl⟩ (fun _ => by kernel_rfl) (by rw [IntKind.wrap_u64]; omega)) ?_
            refine op_val (d := 128) (v := .int .u64 (((at64 zc) % (na + 1) : Nat) : Int)) rfl rfl (o_rem (m := (at64 zc)) (n := (na + 1)) rfl (pe hs_4 rfl rfl) (pe hs_4 rfl rfl) (by omega) (by rw [IntKind.wrap_u64]; omega)) ?_
            refine op_val (d := 129) (v := .int .i64 (((at64 zc) % (na + 1) : Nat) : Int)) rfl rfl (o_conv (m := ((at64 zc) % (na + 1))) (r := (at64 zc) % (na + 1)) rfl (pe hs_4 rfl rfl) ⟨.int .u64, fun _ => by kernel_rfl⟩ (fun _ => by kernel_rfl) (IntWalk.i64_in _ (by omega))) ?_
            refine op_val (d := 24) (v := .int .i64 ((nn : Nat) : Int)) rfl rfl (o_eq (o_assign rfl (pe hs_4 rfl rfl)) (by rw [hnn])) ?_
            refine x_nil ?_
            refine hK_35 _ _ ?_
            refine w2_seq (fun K_45 hK_45 => ?_)
            have hnle : nn ≤ na := by omega
            have hca := hWa.le
            rw [p3] at hca
            have hS := hWa.first (n := nn) (by omega)
            have hSl : (U.take nn).length = nn := List.length_take_of_le (by omega)
            obtain ⟨hgood, o, hq1, hq2⟩ := ord_step (T := T) (U := U) nn p1 hfin
            obtain ⟨hd9, i1, i2, i3⟩ := feed_invO hgood
            have hTl : T.length ≤ 14300 := by have h9 := congrArg List.length p1; rw [List.length_append] at h9; omega
            change _ ≤ co.n + (0 + T.length) at i1
            change _ ≤ co.cnt + (0 + T.length) at i2
            change _ ≤ 0 + T.length at i3
            refine x_region (by kernel_rfl) ?_
            refine op_val (d := 131) (v := .pointer (some ⟨g_4, 0, none⟩)) rfl rfl (o_move rfl ((pm rfl).trans ta_3_15)) ?_
            refine op_val (d := 132) (v := .slice Aa (na) (ca)) rfl rfl (o_move rfl ((pm rfl).trans ta_3_16)) ?_
            refine op_val (d := 133) (v := .int .i64 ((nn : Nat) : Int)) rfl rfl (o_move rfl (pe hs_4 rfl rfl)) ?_
            refine op_val (d := 134) (v := .slice ((subA Aa 0 ca)) (nn) (ca)) rfl rfl (o_sliceH rfl (pe hs_4 rfl rfl) (pe hs_4 rfl rfl) (by omega)) ?_
            refine op_call (vs := #[.pointer (some ⟨g_4, 0, none⟩), .slice ((subA Aa 0 ca)) (nn) (ca)]) rfl rfl (exec_call Try.func41 (by kernel_rfl) (by kernel_rfl) _ rfl _ _ (args2 (pe hs_4 rfl rfl) (pe hs_4 rfl rfl))) (Feed_any _ hLr hd9 hS hSl hq1 (by omega) (by omega) (by omega)) (fun e_10 w_18 hR_17 => ?_)
            obtain ⟨ps_3, A_9, c_9, rfl, hm_5, hRw_3, hAO_3, ⟨M_8, hR_18, hN_6, hs_9, hs_10⟩, hX_8⟩ := hR_17
            have sp_58 : Sep (blkA Aq) M_8 := hN_6.sep (sQr) hQ.lt
            have sp_59 : Sep (blkA A_9) (blkA Aq) := (Sep.new hQ.lt hRw_3.ge').symm
            have sp_60 : Sep (blkP ps_3) (blkA Aq) := (Sep.new hQ.lt hAO_3.ge').symm
            have sp_61 : Sep (blkA Aa) M_8 := hN_6.sep (sAr) hWa.lt
            have sp_62 : Sep (blkA A_9) (blkA Aa) := (Sep.new hWa.lt hRw_3.ge').symm
            have sp_63 : Sep (blkP ps_3) (blkA Aa) := (Sep.new hWa.lt hAO_3.ge').symm
            have sp_64 : Sep (blkA Ag) M_8 := hN_6.sep (sGr) hG.lt
            have sp_65 : Sep (blkA A_9) (blkA Ag) := (Sep.new hG.lt hRw_3.ge').symm
            have sp_66 : Sep (blkP ps_3) (blkA Ag) := (Sep.new hG.lt hAO_3.ge').symm
            have sp_67 : Sep (blkP gs) M_8 := hN_6.sep (sPr) hPg.lt
            have sp_68 : Sep (blkA A_9) (blkP gs) := (Sep.new hPg.lt hRw_3.ge').symm
            have sp_69 : Sep (blkP ps_3) (blkP gs) := (Sep.new hPg.lt hAO_3.ge').symm
            replace hQ := hQ.keepM hX_8 (sQr)
            replace hWa := hWa.keepM hX_8 (sAr)
            replace hG := hG.keepM hX_8 (sGr)
            replace hPg := hPg.keepM hX_8 (sPr)
            have gg_12 := hN_6.ge gR HBM.size
            replace hRw_3 := hRw_3.mono HBM.size
            replace hAO_3 := hAO_3.mono HBM.size
            have HB_13 := hX_8.below HBM HBM.size gR
            refine ⟨_, rfl, ?_⟩
            refine op_val (d := 130) (v := .tuple #[.slice A_9 (ps_3.length) (c_9), .int .i64 ((0 : Nat) : Int)]) rfl rfl (o_move rfl (pe hs_4 rfl rfl)) ?_
            refine op_val (d := 136) (v := .slice A_9 (ps_3.length) (c_9)) rfl rfl (o_extract rfl (pe hs_4 rfl rfl) rfl) ?_
            refine op_val (d := 137) (v := .int .i64 ((0 : Nat) : Int)) rfl rfl (o_extract rfl (pe hs_4 rfl rfl) rfl) ?_
            refine op_val (d := 25) (v := .slice A_9 (ps_3.length) (c_9)) rfl rfl (o_assign rfl (pe hs_4 rfl rfl)) ?_
            refine op_val (d := 26) (v := .int .i64 ((0 : Nat) : Int)) rfl rfl (o_assign rfl (pe hs_4 rfl rfl)) ?_
            refine x_nil ?_
            refine hK_45 _ _ ?_
            refine w2_seq (fun K_46 hK_46 => ?_)
            refine w2_seq (fun K_47 hK_47 => ?_)
            refine x_region (by kernel_rfl) ?_
            refine op_val (d := 138) (v := .int .i64 ((0 : Nat) : Int)) rfl rfl (o_move rfl (pe hs_4 rfl rfl)) ?_
            refine op_val (d := 139) (v := .bool (false)) rfl rfl (o_eq (o_neq (m := 0) (n := 0) rfl (pe hs_4 rfl rfl) rfl) rfl) ?_
            refine x_nil ?_
            refine hK_47 _ _ ?_
            refine w2_condF (pe hs_4 rfl rfl) ?_
            refine w2_skip ?_
            refine hK_46 _ _ ?_
            refine w2_seq (fun K_48 hK_48 => ?_)
            refine x_region (by kernel_rfl) ?_
            refine op_val (d := 140) (v := .slice Ag (ng) (cg)) rfl rfl (o_move rfl ((pm rfl).trans ta_3_18)) ?_
            refine op_val (d := 141) (v := .slice A_9 (ps_3.length) (c_9)) rfl rfl (o_move rfl (pe hs_4 rfl rfl)) ?_
            have hpl : ps_3.length ≤ 1000000 := by have h9 := congrArg List.length hm_5; rw [List.length_map] at h9; have h8 := feed_outs hq1; omega
            refine op_ex (d := 142) rfl rfl (o_appRs rfl (pe hs_4 rfl rfl) (pe hs_4 rfl rfl) hG hRw_3 p8 rfl (by omega) HB_13.size) (fun v_6 w_19 hR_19 => ?_)
            obtain ⟨A_10, c_10, rfl, hG_3, hX_9, hA_5⟩ := hR_19
            have sp_70 : Sep (blkA Aq) (blkA A_10) := hA_5.sep (sQG) hQ.lt
            have sp_71 : Sep (blkA Aa) (blkA A_10) := hA_5.sep (sAG) hWa.lt
            have sp_72 : Sep (blkP gs) (blkA A_10) := hA_5.sep (sPG) hPg.lt
            have sp_73 : Sep M_8 (blkA A_10) := hA_5.sep (sp_64.symm) hR_18.lt
            have sp_74 : Sep (blkA A_9) (blkA A_10) := hA_5.sep (sp_65) hRw_3.lt
            have sp_75 : Sep (blkP ps_3) (blkA A_10) := hA_5.sep (sp_66) hAO_3.lt
            replace hQ := hQ.keepM hX_9 (sQG)
            replace hWa := hWa.keepM hX_9 (sAG)
            replace hPg := hPg.keepM hX_9 (sPG)
            replace hR_18 := hR_18.keepM hX_9 (sp_64.symm)
            replace hRw_3 := hRw_3.keepM hX_9 (sp_65)
            replace hAO_3 := hAO_3.keepM hX_9 (sp_66)
            have gg_13 := hA_5.ge hG.ge' HB_13.size
            have HB_14 := hX_9.below HB_13 HB_13.size hG.ge'
            refine op_val (d := 18) (v := .slice A_10 (ng + ps_3.length) (c_10)) rfl rfl (o_assign rfl (pe hs_4 rfl rfl)) ?_
            refine x_nil ?_
            refine hK_48 _ _ ?_
            refine x_region (by kernel_rfl) ?_
            refine op_val (d := 143) (v := .slice Aa (na) (ca)) rfl rfl (o_move rfl ((pm rfl).trans ta_3_16)) ?_
            refine op_val (d := 144) (v := .int .i64 ((nn : Nat) : Int)) rfl rfl (o_move rfl (pe hs_4 rfl rfl)) ?_
            refine op_val (d := 145) (v := .slice ((subA Aa nn ca)) (na - nn) (ca - nn)) rfl rfl (o_sliceL rfl (pe hs_4 rfl rfl) (pe hs_4 rfl rfl) (by omega)) ?_
            refine op_val (d := 16) (v := .slice ((subA Aa nn ca)) (na - nn) (ca - nn)) rfl rfl (o_assign rfl (pe hs_4 rfl rfl)) ?_
            refine x_nil ?_
            refine hK_33 _ _ ?_
            refine hK_32 _ _ ?_
            refine x_region (by kernel_rfl) ?_
            refine op_val (d := 107) (v := .int .i64 ((I : Nat) : Int)) rfl rfl (o_move rfl ((pm rfl).trans ta_3_23)) ?_
            refine op_val (d := 108) (v := .int .i64 ((I + 1 : Nat) : Int)) rfl rfl (o_add64 (m := I) (n := 1) rfl (pe hs_4 rfl rfl) rfl (by omega)) ?_
            refine op_val (d := 23) (v := .int .i64 ((I + 1 : Nat) : Int)) rfl rfl (o_assign rfl (pe hs_4 rfl rfl)) ?_
            refine x_nil ?_
            refine hK_29 _ _ _ ⟨I + 1, M_8, (subA Aa nn ca), na - nn, ca - nn, T ++ U.take nn, U.drop nn, A_10, ng + ps_3.length, c_10, gs ++ ps_3, rfl, (by rw [putsR_size]; exact hs_4), (by rw [putsR_defers]; exact hd_3), ((pm rfl).trans ta_3_3), ((pm rfl).trans ta_3_15), (pe hs_4 rfl rfl), ((pm rfl).trans ta_3_17), (pe hs_4 rfl rfl), (pe hs_4 rfl rfl), hR_18, (hWa.drop (by omega)), hG_3, (hPg.app hAO_3), hQ, (by rw [List.append_assoc, List.take_append_drop]; exact p1), (by rw [List.length_drop, p3]), (by rw [List.map_append, p5, hm_5, hq2]), (by rw [List.length_append, p8]), (by omega), (fun h => absurd h (by omega)), (fun j hj => (sp_61) j (blkA_sub hj)), sp_58, sp_73.symm, (fun j hj => (blkP_app hj).elim (sp_67 j) (hs_9 j)), (fun j hj => (sp_71) j (blkA_sub hj)), sp_70, (fun j hj => (blkP_app hj).elim (sp_72 j) (sp_75 j)), gg_12, (by omega), HB_14⟩ ?_
            omega
    · skip
      clear ta_2_3 ta_2_15 ta_2_18 ta_2_16 ta_2_17 hd_2 hLr hWa hQ HBL
      rintro a_4 w_20 ⟨Mq, Ag, ng, cg, gs, hs_11, hd_4, ta_4_15, ta_4_17, ta_4_18, hLr, hG, hPg, p5, p8, hQ, HBN⟩
      have hng : ng = K := by rw [← p8, ← hbl, ← p5, List.length_map]
      have hcn : (Rd.at0 (putsL co bs) []).co.cnt = K := by show (putsL co bs).cnt = K; rw [putsL_cnt]; omega
      refine w2_seq (fun K_49 hK_49 => ?_)
      refine x_region (by kernel_rfl) ?_
      refine op_val (d := 146) (v := .slice Ag (ng) (cg)) rfl rfl (o_move rfl ((pm rfl).trans ta_4_18)) ?_
      refine op_val (d := 147) (v := .slice Aq (K) (cq)) rfl rfl (o_move rfl ((pm rfl).trans ta_4_17)) ?_
      refine op_call (vs := #[.slice Ag (ng) (cg), .slice Aq (K) (cq)]) rfl rfl (exec_call Try.func45 (by kernel_rfl) (by kernel_rfl) _ rfl _ _ (args2 (pe hs_11 rfl rfl) (pe hs_11 rfl rfl))) (same_any _ hG hQ hPg.bs (fun p hp => (hP p (List.mem_of_mem_take hp)).below HBN) (by rw [p5, hbs]) p8 (List.length_take_of_le (by omega)) (by omega)) (fun e_11 w_21 hR_20 => ?_)
      obtain ⟨rfl, hb_9⟩ := hR_20
      replace hLr := hLr.nx hb_9
      replace hG := hG.nx hb_9
      replace hPg := hPg.nx hb_9
      replace hQ := hQ.nx hb_9
      have HB_15 := below_from HBN hb_9
      refine ⟨_, rfl, ?_⟩
      refine op_val (d := 149) (v := .bool (true)) rfl rfl (o_move rfl (pe hs_11 rfl rfl)) ?_
      refine op_valG (e := 149) (d := 150) (v := .pointer (some ⟨g_4, 0, none⟩)) rfl rfl (by kernel_rfl) (pe hs_11 rfl rfl) (o_move rfl ((pm rfl).trans ta_4_15)) ?_
      refine op_callG (e := 149) (vs := #[.pointer (some ⟨g_4, 0, none⟩)]) rfl rfl (by kernel_rfl) (pe hs_11 rfl rfl) (exec_call Try.func42 (by kernel_rfl) (by kernel_rfl) _ rfl _ _ (args1 (pe hs_11 rfl rfl))) (RLeft_any _ hLr) (fun e_12 w_22 hR_21 => ?_)
      obtain ⟨rfl, rfl⟩ := hR_21
      refine ⟨_, rfl, ?_⟩
      refine op_valG (e := 149) (d := 152) (v := .bool (true)) rfl rfl (by kernel_rfl) (pe hs_11 rfl rfl) (o_eq (o_eql (m := 0) (n := 0) rfl (pe hs_11 rfl rfl) rfl) rfl) ?_
      refine op_val (d := 153) (v := .bool (true)) rfl rfl (o_pickT rfl (pe hs_11 rfl rfl) (pe hs_11 rfl rfl)) ?_
      refine op_val (d := 154) (v := .bool (true)) rfl rfl (o_move rfl (pe hs_11 rfl rfl)) ?_
      refine op_valG (e := 154) (d := 155) (v := .pointer (some ⟨g_4, 0, none⟩)) rfl rfl (by kernel_rfl) (pe hs_11 rfl rfl) (o_move rfl ((pm rfl).trans ta_4_15)) ?_
      refine op_callG (e := 154) (vs := #[.pointer (some ⟨g_4, 0, none⟩)]) rfl rfl (by kernel_rfl) (pe hs_11 rfl rfl) (exec_call Try.func46 (by kernel_rfl) (by kernel_rfl) _ rfl _ _ (args1 (pe hs_11 rfl rfl))) (RCount_any _ hLr) (fun e_13 w_23 hR_22 => ?_)
      obtain ⟨rfl, rfl⟩ := hR_22
      refine ⟨_, rfl, ?_⟩
      refine op_valG (e := 154) (d := 157) (v := .slice Aq (K) (cq)) rfl rfl (by kernel_rfl) (pe hs_11 rfl rfl) (o_move rfl ((pm rfl).trans ta_4_17)) ?_
      refine op_valG (e := 154) (d := 158) (v := .int .i64 ((K : Nat) : Int)) rfl rfl (by kernel_rfl) (pe hs_11 rfl rfl) (o_lenS rfl (pe hs_11 rfl rfl)) ?_
      refine op_valG (e := 154) (d := 159) (v := .bool (true)) rfl rfl (by kernel_rfl) (pe hs_11 rfl rfl) (o_eq (o_eql (m := ((Rd.at0 (putsL co bs) []).co.cnt)) (n := K) rfl (pe hs_11 rfl rfl) (pe hs_11 rfl rfl)) (by rw [decide_eq_true hcn])) ?_
      refine op_val (d := 160) (v := .bool (true)) rfl rfl (o_pickT rfl (pe hs_11 rfl rfl) (pe hs_11 rfl rfl)) ?_
      refine op_val (d := 161) (v := .bool (true)) rfl rfl (o_move rfl (pe hs_11 rfl rfl)) ?_
      refine op_valG (e := 161) (d := 162) (v := .pointer (some ⟨g_4, 0, none⟩)) rfl rfl (by kernel_rfl) (pe hs_11 rfl rfl) (o_move rfl ((pm rfl).trans ta_4_15)) ?_
      refine op_callG (e := 161) (vs := #[.pointer (some ⟨g_4, 0, none⟩)]) rfl rfl (by kernel_rfl) (pe hs_11 rfl rfl) (exec_call Try.func43 (by kernel_rfl) (by kernel_rfl) _ rfl _ _ (args1 (pe hs_11 rfl rfl))) (Dead_any _ hLr) (fun e_14 w_24 hR_23 => ?_)
      obtain ⟨rfl, rfl⟩ := hR_23
      refine ⟨_, rfl, ?_⟩
      refine op_valG (e := 161) (d := 164) (v := .bool (true)) rfl rfl (by kernel_rfl) (pe hs_11 rfl rfl) (o_not (b := false) rfl (pe hs_11 rfl rfl)) ?_
      refine op_val (d := 165) (v := .bool (true)) rfl rfl (o_pickT rfl (pe hs_11 rfl rfl) (pe hs_11 rfl rfl)) ?_
      refine op_val (d := 166) (v := .bool (true)) rfl rfl (o_move rfl (pe hs_11 rfl rfl)) ?_
      refine op_callG (e := 166) (vs := #[]) rfl rfl (by kernel_rfl) (pe hs_11 rfl rfl) (exec_call Try.func34 (by kernel_rfl) (by kernel_rfl) _ rfl _ _ (args0)) (awake12_any _) (fun e_15 w_25 hR_24 => ?_)
      obtain ⟨rfl, hb_14⟩ := hR_24
      replace hLr := hLr.nx hb_14
      replace hG := hG.nx hb_14
      replace hPg := hPg.nx hb_14
      replace hQ := hQ.nx hb_14
      have HB_16 := below_from HB_15 hb_14
      refine ⟨_, rfl, ?_⟩
      refine op_val (d := 168) (v := .bool (true)) rfl rfl (o_pickT rfl (pe hs_11 rfl rfl) (pe hs_11 rfl rfl)) ?_
      refine op_val (d := 8) (v := .bool (true)) rfl rfl (o_assign rfl (pe hs_11 rfl rfl)) ?_
      refine x_nil ?_
      refine hK_49 _ _ ?_
      refine w2_ret ?_
      refine ret1 rfl hd_4 (pe hs_11 rfl rfl) ?_
      exact ⟨rfl, HB_16⟩
/-! The rows that the frame hands over. -/
theorem parts_row {w : World} {base : Nat} {a : Addr} {len cap : Nat} {A : Nat → Option Addr} {L C : Nat → Nat} {Z : Nat → List Int} (hl : len ≤ cap)
    (hrow : ∀ r, r < cap → w.cell? (a.add r) = some (.slice (A r) (L r) (C r)) ∧ L r ≤ C r ∧ C r ≤ maxLen ∧ (Z r).length = C r ∧ (∀ n ∈ Z r, (Lit.int .u8 n).wf = true) ∧ (A r = none → C r = 0) ∧ ∀ a', A r = some a' → base ≤ a'.block ∧ ∀ c, c < C r → w.cell? (a'.add c) = some (.int .u8 ((Z r).getD c 0))) :
    ∃ ls : List Part, ls.length = len ∧ AllBs w ls ∧ ∀ i, i < len → ∃ g off, some a = some ⟨g, off, none⟩ ∧ w.cell? ⟨g, off + i, none⟩ = some (Part.at ls i).val := by
  have each : ∀ r, ∃ xs : List Nat, r < cap → xs.length = L r ∧ Bs w (A r) (C r) xs := by
    intro r
    by_cases hr : r < cap
    · obtain ⟨_, h2, h3, h4, h5, h6, h7⟩ := hrow r hr
      have h8 : (A r = none ∧ L r = 0 ∧ C r = 0 ∧ Z r = []) ∨ ∃ x : Addr, A r = some x ∧ L r ≤ C r ∧ C r ≤ maxLen ∧ (Z r).length = C r ∧ (∀ i, i < (Z r).length → w.cell? (x.add i) = some (.int .u8 ((Z r).getD i 0))) ∧ ∀ n ∈ Z r, (Lit.int .u8 n).wf = true := by
        cases hA : A r with
        | none =>
          have h9 := h6 hA
          exact .inl ⟨rfl, by omega, h9, List.eq_nil_of_length_eq_zero (by omega)⟩
        | some x => exact .inr ⟨x, rfl, h2, h3, h4, fun i hi => (h7 x hA).2 i (by omega), h5⟩
      obtain ⟨xs, h9, h10⟩ := Bs_row h8
      exact ⟨xs, fun _ => ⟨h9, h10⟩⟩
    · exact ⟨[], fun h => absurd h hr⟩
  obtain ⟨f, hf⟩ := Classical.skolem.1 each
  have hat : ∀ i, i < len → Part.at ((List.range len).map fun r => (⟨A r, C r, f r⟩ : Part)) i = ⟨A i, C i, f i⟩ := fun i hi => by simp [Part.at, hi]
  refine ⟨(List.range len).map fun r => ⟨A r, C r, f r⟩, by simp, fun p hp => ?_, fun i hi => ?_⟩
  · obtain ⟨r, hr, rfl⟩ := List.mem_map.1 hp
    exact (hf r (by have := List.mem_range.1 hr; omega)).2
  · have hb : a.spot = none := by
      have h1 := (hrow 0 (by omega)).1
      simp only [Addr.add, if_pos] at h1
      unfold World.cell? at h1
      cases hs : a.spot with
      | none => rfl
      | some s =>
        rw [hs] at h1
        split at h1 <;> simp at h1
    obtain ⟨b, off, sp⟩ := a
    simp only at hb
    subst hb
    refine ⟨b, off, rfl, ?_⟩
    have h1 := (hrow i (by omega)).1
    rw [Addr.add_lit] at h1
    rw [h1, hat i hi]
    show _ = some (Value.slice (A i) (f i).length (C i))
    rw [(hf i (by omega)).1]
theorem ints_row {w : World} {a : Option Addr} {len cap : Nat} {zs : List Int}
    (h : (a = none ∧ len = 0 ∧ cap = 0 ∧ zs = []) ∨ ∃ x : Addr, a = some x ∧ len ≤ cap ∧ cap ≤ maxLen ∧ zs.length = cap ∧ (∀ i, i < zs.length → w.cell? (x.add i) = some (.int .i64 (zs.getD i 0))) ∧ ∀ n ∈ zs, (Lit.int .i64 n).wf = true) :
    ∀ i, i < len → ∃ g off zc, a = some ⟨g, off, none⟩ ∧ w.cell? ⟨g, off + i, none⟩ = some (.int .i64 zc) := by
  intro i hi
  rcases h with ⟨_, rfl, _⟩ | ⟨x, rfl, hl, hm, hz, hc, _⟩
  · omega
  · have hb : x.spot = none := by
      have h1 := hc 0 (by omega)
      simp only [Addr.add, if_pos] at h1
      unfold World.cell? at h1
      cases hs : x.spot with
      | none => rfl
      | some s =>
        rw [hs] at h1
        split at h1 <;> simp at h1
    obtain ⟨b, off, sp⟩ := x
    simp only at hb
    subst hb
    have h1 := hc i (by omega)
    rw [Addr.add_lit] at h1
    exact ⟨b, off, _, rfl, h1⟩
end Go.Proofs.Ytoiamaljkodlnaa
