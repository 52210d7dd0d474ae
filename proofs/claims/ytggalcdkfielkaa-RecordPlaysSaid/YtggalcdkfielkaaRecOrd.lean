/-
 WALKS: sapperlaw12.same, RecordOrder.
-/
import Derived.Test.YtggalcdkfielkaaAwake12
import Derived.Test.YtggalcdkfielkaaRow
namespace Go.Proofs.Ytggalcdkfielkaa
open Go.RowKit
set_option linter.unusedVariables false
set_option linter.unusedSimpArgs false
set_option maxRecDepth 100000
attribute [local irreducible] wpList wpListIn putsR

theorem RowS.whole {w : World} {B c : Nat} {A : Option Addr} {ps : List Part} (h : RowS w B A c ps) (h0 : 0 < ps.length) : ∃ g cur, A = some ⟨g, 0, none⟩ ∧ Blk w g cur 22 ∧ ∀ i, i < ps.length → cur[i]? = some (Part.at ps i).val := by
 rcases h.2 with ⟨hv, hn⟩ | ⟨g, cap, cur, hv, hg, hh, hle, hmax, hsz, htake⟩
 ·omega
 ·simp only [Value.slice.injEq] at hv
  obtain ⟨rfl, _, rfl⟩ := hv
  refine ⟨g, cur, rfl, hh, fun i hi => ?_⟩
  have h1 := congrArg (fun l : List Value => l[i]?) htake
  simp only [Nat.mul_one, List.getElem?_take, hi, if_true, Array.getElem?_toList] at h1
  rw [h1]
  simp [Part.at, hi]
theorem map_at {ps qs : List Part} (h : ps.map Part.xs = qs.map Part.xs) {K : Nat} (hK : K < ps.length) : (Part.at ps K).xs = (Part.at qs K).xs := by
 have hl : ps.length = qs.length := by simpa using congrArg List.length h
 have h1 := congrArg (fun l : List (List Nat) => l[K]?) h
 simp only [List.getElem?_map] at h1
 rw [List.getElem?_eq_getElem hK, List.getElem?_eq_getElem (by omega)] at h1
 unfold Part.at
 rw [List.getD_eq_getElem?_getD, List.getD_eq_getElem?_getD, List.getElem?_eq_getElem hK, List.getElem?_eq_getElem (by omega)]
 simpa using h1
section
variable {o : Oper} {ev : Operand → Value} {w : World} {x y z : Operand} {T U t : TypeId} {g k : Nat}
theorem o_ixR {A : Option Addr} {n c k : Nat} (ho : o.op = .indexAddr 33 x y) (hx : ev x = .slice A n c) (hy : ev y = .int .i64 (k : Int)) (hk : k < n) (hA : A.isSome = true) : (execOp ev o).run Try.prog w = .ok (.value (.pointer (atA A k))) w := by
 obtain ⟨p, rfl⟩ := Option.isSome_iff_exists.1 hA
 have h1 : (k : Int) < (n : Int) := by omega
 simp [execOp, ho, hx, hy, go_sem, h1, atA]
theorem o_ixI {A : Option Addr} {n c k : Nat} (ho : o.op = .indexAddr 34 x y) (hx : ev x = .slice A n c) (hy : ev y = .int .i64 (k : Int)) (hk : k < n) (hA : A.isSome = true) : (execOp ev o).run Try.prog w = .ok (.value (.pointer (atA A k))) w := by
 obtain ⟨p, rfl⟩ := Option.isSome_iff_exists.1 hA
 have h1 : (k : Int) < (n : Int) := by omega
 simp [execOp, ho, hx, hy, go_sem, h1, atA]
theorem o_loadC {A : Option Addr} {k gg off : Nat} {v : Value} (ho : o.op = .load t x) (hx : ev x = .pointer (atA A k)) (hA : A = some ⟨gg, off, none⟩) (hc : w.cell? ⟨gg, off + k, none⟩ = some v) (ht : IsOne t) : (execOp ev o).run Try.prog w = .ok (.value v) w := by
 subst hA
 have e : atA (some ⟨gg, off, none⟩) k = some ⟨gg, off + k, none⟩ := by simp [atA, Addr.add_lit]
 rw [e] at hx
 simp [execOp, ho, hx, go_sem, loadVar, (one_runs ht w).1, hc]
theorem o_lenI {A : Option Addr} {n c : Nat} (ho : o.op = .call { callee := .builtin .len, args := #[x], argTypes := #[34] }) (hx : ev x = .slice A n c) : (execOp ev o).run Try.prog w = .ok (.value (.int .i64 (n : Int))) w := by
 simp [execOp, ho, hx, go_sem, resolve, invoke, builtin]
end
theorem same_rows {g1 g2 n c1 c2 : Nat} {cur1 cur2 : Array Value} {ps qs : List Part} (w : World) (hB1 : Blk w g1 cur1 22) (hB2 : Blk w g2 cur2 22) (hc1 : ∀ i, i < ps.length → cur1[i]? = some (Part.at ps i).val) (hc2 : ∀ i, i < qs.length → cur2[i]? = some (Part.at qs i).val) (hP1 : AllBs w ps) (hP2 : AllBs w qs) (hm : ps.map Part.xs = qs.map Part.xs) (hl1 : ps.length = n) (hl2 : qs.length = n) (hbig : n ≤ 100000000) :
  Calls Try.prog 25 #[.slice ((some ⟨g1, 0, none⟩)) (n) (c1), .slice ((some ⟨g2, 0, none⟩)) (n) (c2)] w fun e w' => e = .returned (.bool true) ∧ Below w.heap.size w w' := by
 have hn : n = n := rfl
 refine x_enter 28 Try.func25 rfl rfl (fun a hs hd ha0 => ?_)
 have t0 : a.eval (.tmp 0) = .slice ((some ⟨g1, 0, none⟩)) (n) (c1) := ha0 0 _ rfl
 have t1 : a.eval (.tmp 1) = .slice ((some ⟨g2, 0, none⟩)) (n) (c2) := ha0 1 _ rfl
 clear ha0
 refine w2_sr (fun K_1 hK_1 => ?_)
 refine q_as (.bool (false)) rfl ?_
 refine x_nil (hK_1 _ _ ?_)
 refine w2_seq (fun K_2 hK_2 => ?_)
 refine w2_sr (fun K_3 hK_3 => ?_)
 refine q_mv ((pm rfl).trans t0) ?_
 refine q_v 7 (.int .i64 ((n : Nat) : Int)) (o_lenS rfl (pe hs rfl rfl)) ?_
 refine q_mv ((pm rfl).trans t1) ?_
 refine q_v 9 (.int .i64 ((n : Nat) : Int)) (o_lenS rfl (pe hs rfl rfl)) ?_
 refine q_v 10 (.bool (false)) (o_eq (o_neq (m := n) (n := n) rfl (pe hs rfl rfl) (pe hs rfl rfl)) (by rw [decide_eq_true hn]; rfl)) ?_
 refine x_nil (hK_3 _ _ ?_)
 refine w2_condF (pe hs rfl rfl) ?_
 refine w2_skip ?_
 refine hK_2 _ _ ?_
 refine w2_seq (fun K_4 hK_4 => ?_)
 refine w2_sr (fun K_5 hK_5 => ?_)
 refine q_mv ((pm rfl).trans t0) ?_
 refine q_v 12 (.int .i64 ((n : Nat) : Int)) (o_lenS rfl (pe hs rfl rfl)) ?_
 refine q_v 13 (.int .i64 ((0 : Nat) : Int)) (o_move rfl rfl) ?_
 refine x_nil (hK_5 _ _ ?_)
 refine w2_block (fun K_6 hK_6 => ?_)
 refine x_loop (fun nn aa ww => ∃ (K : Nat), nn = n - K ∧ aa.tmps.size = 28 ∧ aa.defers = [] ∧ aa.eval (.tmp 0) = .slice ((some ⟨g1, 0, none⟩)) (n) (c1) ∧ aa.eval (.tmp 1) = .slice ((some ⟨g2, 0, none⟩)) (n) (c2) ∧ aa.eval (.tmp 6) = .slice ((some ⟨g1, 0, none⟩)) (n) (c1) ∧ aa.eval (.tmp 7) = .int .i64 ((n : Nat) : Int) ∧ aa.eval (.tmp 8) = .slice ((some ⟨g2, 0, none⟩)) (n) (c2) ∧ aa.eval (.tmp 9) = .int .i64 ((n : Nat) : Int) ∧ aa.eval (.tmp 10) = .bool (false) ∧ aa.eval (.tmp 11) = .slice ((some ⟨g1, 0, none⟩)) (n) (c1) ∧ aa.eval (.tmp 12) = .int .i64 ((n : Nat) : Int) ∧ aa.eval (.tmp 13) = .int .i64 ((K : Nat) : Int) ∧ K ≤ n ∧ Below w.heap.size w ww) (n - 0) ?_ ?_
 ·exact ⟨0, rfl, (by rw [putsR_size]; exact hs), (by rw [putsR_defers]; exact hd), ((pm rfl).trans t0), ((pm rfl).trans t1), (pe hs rfl rfl), (pe hs rfl rfl), (pe hs rfl rfl), (pe hs rfl rfl), (pe hs rfl rfl), (pe hs rfl rfl), (pe hs rfl rfl), (pe hs rfl rfl), Nat.zero_le _, Below.refl _ _⟩
 ·skip
  clear t0 t1 hd
  rintro nna_1 a_1 w_1 ⟨K, hm_1, hs_1, hd_1, ta_1_0, ta_1_1, ta_1_6, ta_1_7, ta_1_8, ta_1_9, ta_1_10, ta_1_11, ta_1_12, ta_1_13, hK, HBL⟩ K_7 hK_7
  subst hm_1
  refine w2_sr (fun K_8 hK_8 => ?_)
  refine q_v 14 (.bool (decide (K < n))) (o_lss (m := K) (n := n) rfl ((pm rfl).trans ta_1_13) ((pm rfl).trans ta_1_12)) ?_
  refine x_nil (hK_8 _ _ ?_)
  refine w2_seq (fun K_9 hK_9 => ?_)
  refine w2_split (pe hs_1 rfl rfl) (fun h_1 => ?_) (fun h_1 => ?_)
  ·simp only [DD9] at h_1
   have hlt : K < ps.length := by have h9 := h_1; omega
   have hp9 := hP1 _ (Part.mem hlt)
   have hq9 := hP2 _ (Part.mem (ps := qs) (k := K) (by omega))
   refine w2_skip ?_
   refine hK_9 _ _ ?_
   refine w2_seq (fun K_10 hK_10 => ?_)
   refine w2_block (fun K_11 hK_11 => ?_)
   refine w2_sr (fun K_12 hK_12 => ?_)
   refine q_mv ((pm rfl).trans ta_1_13) ?_
   refine q_at (pe hs_1 rfl rfl) ?_
   refine x_nil (hK_12 _ _ ?_)
   refine w2_seq (fun K_13 hK_13 => ?_)
   refine x_drawn 10 [fun _ v => v = .slice ((some ⟨g1, 0, none⟩)) (n) (c1), fun _ v => v = .int .i64 ((K : Nat) : Int), fun _ v => v = .pointer (some ⟨g1, K, none⟩), fun _ v => v = .slice ((Part.at ps K).A) ((Part.at ps K).xs.length) ((Part.at ps K).c), fun _ v => v = .string (strB ((Part.at ps K).xs)), fun _ v => v = .slice ((some ⟨g2, 0, none⟩)) (n) (c2), fun _ v => v = .int .i64 ((K : Nat) : Int), fun _ v => v = .pointer (some ⟨g2, K, none⟩), fun _ v => v = .slice ((Part.at qs K).A) ((Part.at qs K).xs.length) ((Part.at qs K).c), fun _ v => v = .string (strB ((Part.at qs K).xs))] [16, 17, 18, 19, 20, 21, 22, 23, 24, 25] hs_1 hd_1 (by kernel_rfl) (by kernel_rfl) (by kernel_rfl) (by kernel_rfl) (by kernel_rfl) ⟨stLit, stLit, stLit, stLit, stLit, stLit, stLit, stLit, stLit, stLit, trivial⟩ ⟨(step_ok rfl (fun a' w' hb' hO hD => by
     have d_1 := (hO 0 (by decide)).trans ((pm rfl).trans ta_1_0)
     exact .inl ⟨_, _, (o_move rfl d_1), rfl, Below.refl _ _⟩)),
(step_ok rfl (fun a' w' hb' hO hD => by
     have d_2 : a'.eval (.tmp 5) = .int .i64 ((K : Nat) : Int) := (hO 5 (by decide)).trans (pe hs_1 rfl rfl)
     exact .inl ⟨_, _, (o_move rfl d_2), rfl, Below.refl _ _⟩)),
(step_ok rfl (fun a' w' hb' hO hD => by
     have d_3 : a'.eval (.tmp 16) = .slice ((some ⟨g1, 0, none⟩)) (n) (c1) := hD 0 16 (by kernel_rfl) rfl
     have d_4 : a'.eval (.tmp 17) = .int .i64 ((K : Nat) : Int) := hD 1 17 (by kernel_rfl) rfl
     exact .inl ⟨_, _, (zero_off (o_ixS (off := 0) (i := K) rfl d_3 d_4 (by omega))), rfl, Below.refl _ _⟩)),
(step_ok rfl (fun a' w' hb' hO hD => by
     have d_5 : a'.eval (.tmp 18) = .pointer (some ⟨g1, K, none⟩) := hD 2 18 (by kernel_rfl) rfl
     exact .inl ⟨_, _, (o_load1 rfl d_5 (hB1.nx (below_from HBL hb')) (hc1 K hlt) ⟨by kernel_rfl, by kernel_rfl⟩), rfl, Below.refl _ _⟩)),
(step_ok rfl (fun a' w' hb' hO hD => by
     have d_6 : a'.eval (.tmp 19) = .slice ((Part.at ps K).A) ((Part.at ps K).xs.length) ((Part.at ps K).c) := hD 3 19 (by kernel_rfl) rfl
     exact .inl ⟨_, _, (o_str rfl d_6 (hp9.below (below_from HBL hb')) rfl), rfl, Below.refl _ _⟩)),
(step_ok rfl (fun a' w' hb' hO hD => by
     have d_7 := (hO 1 (by decide)).trans ((pm rfl).trans ta_1_1)
     exact .inl ⟨_, _, (o_move rfl d_7), rfl, Below.refl _ _⟩)),
(step_ok rfl (fun a' w' hb' hO hD => by
     have d_8 : a'.eval (.tmp 5) = .int .i64 ((K : Nat) : Int) := (hO 5 (by decide)).trans (pe hs_1 rfl rfl)
     exact .inl ⟨_, _, (o_move rfl d_8), rfl, Below.refl _ _⟩)),
(step_ok rfl (fun a' w' hb' hO hD => by
     have d_9 : a'.eval (.tmp 21) = .slice ((some ⟨g2, 0, none⟩)) (n) (c2) := hD 5 21 (by kernel_rfl) rfl
     have d_10 : a'.eval (.tmp 22) = .int .i64 ((K : Nat) : Int) := hD 6 22 (by kernel_rfl) rfl
     exact .inl ⟨_, _, (zero_off (o_ixS (off := 0) (i := K) rfl d_9 d_10 (by omega))), rfl, Below.refl _ _⟩)),
(step_ok rfl (fun a' w' hb' hO hD => by
     have d_11 : a'.eval (.tmp 23) = .pointer (some ⟨g2, K, none⟩) := hD 7 23 (by kernel_rfl) rfl
     exact .inl ⟨_, _, (o_load1 rfl d_11 (hB2.nx (below_from HBL hb')) (hc2 K (by omega)) ⟨by kernel_rfl, by kernel_rfl⟩), rfl, Below.refl _ _⟩)),
(step_ok rfl (fun a' w' hb' hO hD => by
     have d_12 : a'.eval (.tmp 24) = .slice ((Part.at qs K).A) ((Part.at qs K).xs.length) ((Part.at qs K).c) := hD 8 24 (by kernel_rfl) rfl
     exact .inl ⟨_, _, (o_str rfl d_12 (hq9.below (below_from HBL hb')) rfl), rfl, Below.refl _ _⟩)), trivial⟩ (fun a_2 w_2 hs_2 hd_2 hb_1 hO_1 hV_1 => ?_)
   have ta_2_0 := (hO_1 0 (by decide)).trans ((pm rfl).trans ta_1_0)
   have ta_2_1 := (hO_1 1 (by decide)).trans ((pm rfl).trans ta_1_1)
   have ta_2_6 := (hO_1 6 (by decide)).trans ((pm rfl).trans ta_1_6)
   have ta_2_7 := (hO_1 7 (by decide)).trans ((pm rfl).trans ta_1_7)
   have ta_2_8 := (hO_1 8 (by decide)).trans ((pm rfl).trans ta_1_8)
   have ta_2_9 := (hO_1 9 (by decide)).trans ((pm rfl).trans ta_1_9)
   have ta_2_10 := (hO_1 10 (by decide)).trans ((pm rfl).trans ta_1_10)
   have ta_2_11 := (hO_1 11 (by decide)).trans ((pm rfl).trans ta_1_11)
   have ta_2_12 := (hO_1 12 (by decide)).trans ((pm rfl).trans ta_1_12)
   have ta_2_13 := (hO_1 13 (by decide)).trans ((pm rfl).trans ta_1_13)
   clear ta_1_0 ta_1_1 ta_1_6 ta_1_7 ta_1_8 ta_1_9 ta_1_10 ta_1_11 ta_1_12 ta_1_13 hd_1
   have HB_1 := below_from HBL hb_1
   have ta_2_20 : a_2.eval (.tmp 20) = .string (strB ((Part.at ps K).xs)) := hV_1 4 20 rfl rfl
   have ta_2_25 : a_2.eval (.tmp 25) = .string (strB ((Part.at qs K).xs)) := hV_1 9 25 rfl rfl
   clear hV_1 hO_1
   simp only [List.drop_succ_cons, List.drop_zero]
   refine q_v 26 (.bool (false)) (o_neS rfl ((pm rfl).trans ta_2_20) ((pm rfl).trans ta_2_25) (by rw [map_at hm hlt])) ?_
   refine x_nil (hK_13 _ _ ?_)
   refine w2_condF (pe hs_2 rfl rfl) ?_
   refine w2_skip ?_
   refine hK_11 _ _ ?_
   refine hK_10 _ _ ?_
   refine x_region (by kernel_rfl) ?_
   refine q_v 27 (.int .i64 ((K + 1 : Nat) : Int)) (o_add64 (m := K) (n := 1) rfl ((pm rfl).trans ta_2_13) rfl (by omega)) ?_
   refine q_mv (pe hs_2 rfl rfl) ?_
   refine x_nil ?_
   refine hK_7 _ _ _ ⟨K + 1, rfl, (by rw [putsR_size]; exact hs_2), (by rw [putsR_defers]; exact hd_2), ((pm rfl).trans ta_2_0), ((pm rfl).trans ta_2_1), ((pm rfl).trans ta_2_6), ((pm rfl).trans ta_2_7), ((pm rfl).trans ta_2_8), ((pm rfl).trans ta_2_9), ((pm rfl).trans ta_2_10), ((pm rfl).trans ta_2_11), ((pm rfl).trans ta_2_12), (pe hs_2 rfl rfl), (by omega), HB_1⟩ ?_
   omega
  ·simp only [DD9] at h_1
   refine w2_exit ?_
   refine thn_exit ?_
   refine thn_exit ?_
   refine exb_hit ?_
   refine hK_6 _ _ ?_
   refine hK_4 _ _ ?_
   refine w2_sr (fun K_14 hK_14 => ?_)
   refine q_as (.bool (true)) rfl ?_
   refine x_nil (hK_14 _ _ ?_)
   refine w2_ret ?_
   refine ret1 rfl hd_1 (pe hs_1 rfl rfl) ?_
   exact ⟨rfl, HBL⟩
theorem same_none {A1 A2 : Option Addr} {c1 c2 : Nat} (w : World) :
  Calls Try.prog 25 #[.slice A1 (0) (c1), .slice A2 (0) (c2)] w fun e w' => e = .returned (.bool true) ∧ Below w.heap.size w w' := by
 refine x_enter 28 Try.func25 rfl rfl (fun a hs hd ha0 => ?_)
 have t0 : a.eval (.tmp 0) = .slice A1 (0) (c1) := ha0 0 _ rfl
 have t1 : a.eval (.tmp 1) = .slice A2 (0) (c2) := ha0 1 _ rfl
 clear ha0
 refine w2_sr (fun K_1 hK_1 => ?_)
 refine q_as (.bool (false)) rfl ?_
 refine x_nil (hK_1 _ _ ?_)
 refine w2_seq (fun K_2 hK_2 => ?_)
 refine w2_sr (fun K_3 hK_3 => ?_)
 refine q_mv ((pm rfl).trans t0) ?_
 refine q_v 7 (.int .i64 ((0 : Nat) : Int)) (o_lenS rfl (pe hs rfl rfl)) ?_
 refine q_mv ((pm rfl).trans t1) ?_
 refine q_v 9 (.int .i64 ((0 : Nat) : Int)) (o_lenS rfl (pe hs rfl rfl)) ?_
 refine q_v 10 (.bool (false)) (o_eq (o_neq (m := 0) (n := 0) rfl (pe hs rfl rfl) (pe hs rfl rfl)) rfl) ?_
 refine x_nil (hK_3 _ _ ?_)
 refine w2_condF (pe hs rfl rfl) ?_
 refine w2_skip ?_
 refine hK_2 _ _ ?_
 refine w2_seq (fun K_4 hK_4 => ?_)
 refine w2_sr (fun K_5 hK_5 => ?_)
 refine q_mv ((pm rfl).trans t0) ?_
 refine q_v 12 (.int .i64 ((0 : Nat) : Int)) (o_lenS rfl (pe hs rfl rfl)) ?_
 refine q_v 13 (.int .i64 ((0 : Nat) : Int)) (o_move rfl rfl) ?_
 refine x_nil (hK_5 _ _ ?_)
 refine w2_block (fun K_6 hK_6 => ?_)
 refine x_loop (fun nn aa ww => ∃ (K : Nat), nn = 0 ∧ aa.tmps.size = 28 ∧ aa.defers = [] ∧ aa.eval (.tmp 0) = .slice A1 (0) (c1) ∧ aa.eval (.tmp 1) = .slice A2 (0) (c2) ∧ aa.eval (.tmp 6) = .slice A1 (0) (c1) ∧ aa.eval (.tmp 7) = .int .i64 ((0 : Nat) : Int) ∧ aa.eval (.tmp 8) = .slice A2 (0) (c2) ∧ aa.eval (.tmp 9) = .int .i64 ((0 : Nat) : Int) ∧ aa.eval (.tmp 10) = .bool (false) ∧ aa.eval (.tmp 11) = .slice A1 (0) (c1) ∧ aa.eval (.tmp 12) = .int .i64 ((0 : Nat) : Int) ∧ aa.eval (.tmp 13) = .int .i64 ((K : Nat) : Int) ∧ K = 0 ∧ w = ww) (0) ?_ ?_
 ·exact ⟨0, rfl, (by rw [putsR_size]; exact hs), (by rw [putsR_defers]; exact hd), ((pm rfl).trans t0), ((pm rfl).trans t1), (pe hs rfl rfl), (pe hs rfl rfl), (pe hs rfl rfl), (pe hs rfl rfl), (pe hs rfl rfl), (pe hs rfl rfl), (pe hs rfl rfl), (pe hs rfl rfl), rfl, rfl⟩
 ·skip
  clear t0 t1 hd
  rintro nna_1 a_1 w_1 ⟨K, hm_1, hs_1, hd_1, ta_1_0, ta_1_1, ta_1_6, ta_1_7, ta_1_8, ta_1_9, ta_1_10, ta_1_11, ta_1_12, ta_1_13, hK, hW⟩ K_7 hK_7
  subst hm_1
  refine w2_sr (fun K_8 hK_8 => ?_)
  refine q_v 14 (.bool (decide (K < 0))) (o_lss (m := K) (n := 0) rfl ((pm rfl).trans ta_1_13) ((pm rfl).trans ta_1_12)) ?_
  refine x_nil (hK_8 _ _ ?_)
  refine w2_seq (fun K_9 hK_9 => ?_)
  refine w2_split (pe hs_1 rfl rfl) (fun h_1 => ?_) (fun h_1 => ?_)
  ·simp only [DD9] at h_1
   exact absurd h_1 (by omega)
  ·simp only [DD9] at h_1
   refine w2_exit ?_
   refine thn_exit ?_
   refine thn_exit ?_
   refine exb_hit ?_
   refine hK_6 _ _ ?_
   refine hK_4 _ _ ?_
   refine w2_sr (fun K_10 hK_10 => ?_)
   refine q_as (.bool (true)) rfl ?_
   refine x_nil (hK_10 _ _ ?_)
   refine w2_ret ?_
   refine ret1 rfl hd_1 (pe hs_1 rfl rfl) ?_
   subst hW; exact ⟨rfl, Below.refl _ _⟩
theorem same_any {A1 A2 : Option Addr} {B1 B2 n m c1 c2 : Nat} {ps qs : List Part} (w : World) (h1 : RowS w B1 A1 c1 ps) (h2 : RowS w B2 A2 c2 qs) (hP1 : AllBs w ps) (hP2 : AllBs w qs) (hm : ps.map Part.xs = qs.map Part.xs) (hl1 : ps.length = n) (hl2 : qs.length = m) (hbig : n ≤ 100000000) :
  Calls Try.prog 25 #[.slice A1 n c1, .slice A2 m c2] w fun e w' => e = .returned (.bool true) ∧ Below w.heap.size w w' := by
 have hl : ps.length = qs.length := by simpa using congrArg List.length hm
 obtain rfl : n = m := by omega
 rcases Nat.eq_zero_or_pos n with h0 | h0
 ·subst h0
  exact same_none w
 ·obtain ⟨g1, cur1, rfl, hB1, hc1⟩ := h1.whole (by omega)
  obtain ⟨g2, cur2, rfl, hB2, hc2⟩ := h2.whole (by omega)
  exact same_rows w hB1 hB2 hc1 hc2 hP1 hP2 hm hl1 hl2 hbig
theorem runR_outs : ∀ (f : Nat) (r : Rd), (runR f r []).2.2.length ≤ f
 | 0, r => Nat.le_refl _
 | f + 1, r => by
  cases hs : stepR r with
  | none => rw [run_none hs]; exact Nat.zero_le _
  | some x =>
   by_cases hx : x.2.1 = 0
   ·rw [run_good hs hx, runR_out]
    have ih := runR_outs f x.1
    have hl : x.2.2.length ≤ 1 := by
     unfold stepR at hs
     split at hs
     ·split at hs
      ·cases hs
      ·dsimp only at hs
       split at hs
       ·cases hs; exact Nat.zero_le _
       ·split at hs <;> (cases hs; exact Nat.zero_le _)
     ·split at hs
      ·cases hs
      ·dsimp only at hs
       split at hs
       ·cases hs; exact Nat.zero_le _
       ·split at hs
        ·cases hs; exact Nat.zero_le _
        ·cases hs; exact Nat.le_refl _
    dsimp only
    rw [List.nil_append, List.length_append]
    omega
   ·rw [run_bad hs hx]; exact Nat.zero_le _
theorem feed_outs {r r' : Rd} {b : List Nat} {e : Nat} {o : List (List Nat)} (h : feedR r b = (r', e, o)) : o.length ≤ r.wait.length + b.length + 1 := by
 have h1 := runR_outs ((r.more b).wait.length + 1) (r.more b)
 have e1 : (r.more b).wait.length = r.wait.length + b.length := List.length_append
 have h2 : (feedR r b).2.2.length ≤ (r.more b).wait.length + 1 := h1
 rw [h, e1] at h2
 exact h2
set_option maxHeartbeats 2000000 in
theorem parts_row {w : World} {base : Nat} {a : Addr} {len cap : Nat} {A : Nat → Option Addr} {L C : Nat → Nat} {Z : Nat → List Int} (hl : len ≤ cap)
  (hrow : ∀ r, r < cap → w.cell? (a.add r) = some (.slice (A r) (L r) (C r)) ∧ L r ≤ C r ∧ C r ≤ maxLen ∧ (Z r).length = C r ∧ (∀ n ∈ Z r, (Lit.int .u8 n).wf = true) ∧ (A r = none → C r = 0) ∧ ∀ a', A r = some a' → base ≤ a'.block ∧ ∀ c, c < C r → w.cell? (a'.add c) = some (.int .u8 ((Z r).getD c 0))) :
  ∃ ls : List Part, ls.length = len ∧ AllBs w ls ∧ ∀ i, i < len → ∃ g off, some a = some ⟨g, off, none⟩ ∧ w.cell? ⟨g, off + i, none⟩ = some (Part.at ls i).val := by
 have each : ∀ r, ∃ xs : List Nat, r < cap → xs.length = L r ∧ Bs w (A r) (C r) xs := by
  intro r
  by_cases hr : r < cap
  ·obtain ⟨_, h2, h3, h4, h5, h6, h7⟩ := hrow r hr
   have h8 : (A r = none ∧ L r = 0 ∧ C r = 0 ∧ Z r = []) ∨ ∃ x : Addr, A r = some x ∧ L r ≤ C r ∧ C r ≤ maxLen ∧ (Z r).length = C r ∧ (∀ i, i < (Z r).length → w.cell? (x.add i) = some (.int .u8 ((Z r).getD i 0))) ∧ ∀ n ∈ Z r, (Lit.int .u8 n).wf = true := by
    cases hA : A r with
    | none =>
     have h9 := h6 hA
     exact .inl ⟨rfl, by omega, h9, List.eq_nil_of_length_eq_zero (by omega)⟩
    | some x => exact .inr ⟨x, rfl, h2, h3, h4, fun i hi => (h7 x hA).2 i (by omega), h5⟩
   obtain ⟨xs, h9, h10⟩ := Bs_row h8
   exact ⟨xs, fun _ => ⟨h9, h10⟩⟩
  ·exact ⟨[], fun h => absurd h hr⟩
 obtain ⟨f, hf⟩ := Classical.skolem.1 each
 have hat : ∀ i, i < len → Part.at ((List.range len).map fun r => (⟨A r, C r, f r⟩ : Part)) i = ⟨A i, C i, f i⟩ := fun i hi => by simp [Part.at, hi]
 refine ⟨(List.range len).map fun r => ⟨A r, C r, f r⟩, by simp, fun p hp => ?_, fun i hi => ?_⟩
 ·obtain ⟨r, hr, rfl⟩ := List.mem_map.1 hp
  exact (hf r (by have := List.mem_range.1 hr; omega)).2
 ·have hb : a.spot = none := by
   have h1 := (hrow 0 (by omega)).1
   simp only [Addr.add, if_pos] at h1
   unfold World.cell? at h1
   cases hs : a.spot with
   | none => rfl
   | some s =>
    rw [hs] at h1
    split at h1 <;> simp at h1
  obtain ⟨b, off, sp⟩ := a
  simp only at hb
  subst hb
  refine ⟨b, off, rfl, ?_⟩
  have h1 := (hrow i (by omega)).1
  rw [Addr.add_lit] at h1
  rw [h1, hat i hi]
  show _ = some (Value.slice (A i) (f i).length (C i))
  rw [(hf i (by omega)).1]
theorem ints_row {w : World} {a : Option Addr} {len cap : Nat} {zs : List Int}
  (h : (a = none ∧ len = 0 ∧ cap = 0 ∧ zs = []) ∨ ∃ x : Addr, a = some x ∧ len ≤ cap ∧ cap ≤ maxLen ∧ zs.length = cap ∧ (∀ i, i < zs.length → w.cell? (x.add i) = some (.int .i64 (zs.getD i 0))) ∧ ∀ n ∈ zs, (Lit.int .i64 n).wf = true) :
  ∀ i, i < len → ∃ g off zc, a = some ⟨g, off, none⟩ ∧ w.cell? ⟨g, off + i, none⟩ = some (.int .i64 zc) := by
 intro i hi
 rcases h with ⟨_, rfl, _⟩ | ⟨x, rfl, hl, hm, hz, hc, _⟩
 ·omega
 ·have hb : x.spot = none := by
   have h1 := hc 0 (by omega)
   simp only [Addr.add, if_pos] at h1
   unfold World.cell? at h1
   cases hs : x.spot with
   | none => rfl
   | some s =>
    rw [hs] at h1
    split at h1 <;> simp at h1
  obtain ⟨b, off, sp⟩ := x
  simp only at hb
  subst hb
  have h1 := hc i (by omega)
  rw [Addr.add_lit] at h1
  exact ⟨b, off, _, rfl, h1⟩
end Go.Proofs.Ytggalcdkfielkaa
