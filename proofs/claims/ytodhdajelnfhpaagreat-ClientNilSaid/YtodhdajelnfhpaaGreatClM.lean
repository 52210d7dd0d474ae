/-
 Cl1 · Cl2 · Cl3 · Cl4 · Cl5, IN ONE TEXT.
-/
import Derived.Test.YtodhdajelnfhpaaGreatMpM
import Derived.Test.YtodhdajelnfhpaaGreatConcat
import Derived.Test.YtodhdajelnfhpaaGreatHand
import Derived.Test.YtodhdajelnfhpaaGreatRow
import Derived.Test.YtodhdajelnfhpaaGreatOpsM
/-
 WALKS: the client: numbers, New, session, events.
-/
namespace Go.Proofs.YtodhdajelnfhpaaGreat
open Go.RowKit
set_option linter.unusedVariables false
set_option linter.unusedSimpArgs false
set_option maxRecDepth 100000
attribute [local irreducible] wpList wpListIn putsR

section
variable {o : Oper} {ev : Operand → Value} {w : World} {x y z : Operand} {T U t : TypeId} {g k : Nat}
theorem o_leqZZ {m n : Int} (ho : o.op = .binOp .leq T x y U) (hx : ev x = .int .i64 m) (hy : ev y = .int .i64 n) : (execOp ev o).run Tryz.prog w = .ok (.value (.bool (decide (m ≤ n)))) w := by simp [execOp, ho, hx, hy, go_sem]
end
theorem in_yes (n l h : Int) (w : World) (h1 : l ≤ n) (h2 : n ≤ h) :
  Calls Tryz.prog 30 #[.int .i64 (n), .int .i64 (l), .int .i64 (h)] w fun e w' => e = .returned (.bool true) ∧ w = w' := by
 refine x_enter 15 Tryz.func30 rfl rfl (fun a hs hd ha0 => ?_)
 have t0 : a.eval (.tmp 0) = .int .i64 (n) := ha0 0 _ rfl
 have t1 : a.eval (.tmp 1) = .int .i64 (l) := ha0 1 _ rfl
 have t2 : a.eval (.tmp 2) = .int .i64 (h) := ha0 2 _ rfl
 clear ha0
 refine w2_sr (fun K_1 hK_1 => ?_)
 refine q_as (.bool (false)) rfl ?_
 refine x_nil (hK_1 _ _ ?_)
 refine w2_sr (fun K_2 hK_2 => ?_)
 refine q_mv ((pm rfl).trans t0) ?_
 refine q_mv ((pm rfl).trans t1) ?_
 refine q_v 9 (.bool (true)) (o_eq (o_geqZZ (m := n) (n := l) rfl (pe hs rfl rfl) (pe hs rfl rfl)) (by rw [decide_eq_true h1])) ?_
 refine q_mv (pe hs rfl rfl) ?_
 refine op_valG (e := 10) (d := 11) (v := .int .i64 (n)) rfl rfl (by kernel_rfl) (pe hs rfl rfl) (o_move rfl ((pm rfl).trans t0)) ?_
 refine op_valG (e := 10) (d := 12) (v := .int .i64 (h)) rfl rfl (by kernel_rfl) (pe hs rfl rfl) (o_move rfl ((pm rfl).trans t2)) ?_
 refine op_valG (e := 10) (d := 13) (v := .bool (true)) rfl rfl (by kernel_rfl) (pe hs rfl rfl) (o_eq (o_leqZZ (m := n) (n := h) rfl (pe hs rfl rfl) (pe hs rfl rfl)) (by rw [decide_eq_true h2])) ?_
 refine q_v 14 (.bool (true)) (o_pickT rfl (pe hs rfl rfl) (pe hs rfl rfl)) ?_
 refine q_at (pe hs rfl rfl) ?_
 refine x_nil (hK_2 _ _ ?_)
 refine w2_ret ?_
 refine ret1 rfl hd (pe hs rfl rfl) ?_
 exact ⟨rfl, rfl⟩
theorem in_lo (n l h : Int) (w : World) (h1 : ¬ l ≤ n) :
  Calls Tryz.prog 30 #[.int .i64 (n), .int .i64 (l), .int .i64 (h)] w fun e w' => e = .returned (.bool false) ∧ w = w' := by
 refine x_enter 15 Tryz.func30 rfl rfl (fun a hs hd ha0 => ?_)
 have t0 : a.eval (.tmp 0) = .int .i64 (n) := ha0 0 _ rfl
 have t1 : a.eval (.tmp 1) = .int .i64 (l) := ha0 1 _ rfl
 clear ha0
 refine w2_sr (fun K_1 hK_1 => ?_)
 refine q_as (.bool (false)) rfl ?_
 refine x_nil (hK_1 _ _ ?_)
 refine w2_sr (fun K_2 hK_2 => ?_)
 refine q_mv ((pm rfl).trans t0) ?_
 refine q_mv ((pm rfl).trans t1) ?_
 refine q_v 9 (.bool (false)) (o_eq (o_geqZZ (m := n) (n := l) rfl (pe hs rfl rfl) (pe hs rfl rfl)) (by rw [decide_eq_false h1])) ?_
 refine q_mv (pe hs rfl rfl) ?_
 refine op_left (e := 10) rfl rfl (by kernel_rfl) (pe hs rfl rfl) rfl ?_
 refine op_left (e := 10) rfl rfl (by kernel_rfl) (pe hs rfl rfl) rfl ?_
 refine op_left (e := 10) rfl rfl (by kernel_rfl) (pe hs rfl rfl) rfl ?_
 refine q_v 14 (.bool (false)) (o_pickF rfl (pe hs rfl rfl) rfl) ?_
 refine q_at (pe hs rfl rfl) ?_
 refine x_nil (hK_2 _ _ ?_)
 refine w2_ret ?_
 refine ret1 rfl hd (pe hs rfl rfl) ?_
 exact ⟨rfl, rfl⟩
theorem in_hi (n l h : Int) (w : World) (h1 : l ≤ n) (h2 : ¬ n ≤ h) :
  Calls Tryz.prog 30 #[.int .i64 (n), .int .i64 (l), .int .i64 (h)] w fun e w' => e = .returned (.bool false) ∧ w = w' := by
 refine x_enter 15 Tryz.func30 rfl rfl (fun a hs hd ha0 => ?_)
 have t0 : a.eval (.tmp 0) = .int .i64 (n) := ha0 0 _ rfl
 have t1 : a.eval (.tmp 1) = .int .i64 (l) := ha0 1 _ rfl
 have t2 : a.eval (.tmp 2) = .int .i64 (h) := ha0 2 _ rfl
 clear ha0
 refine w2_sr (fun K_1 hK_1 => ?_)
 refine q_as (.bool (false)) rfl ?_
 refine x_nil (hK_1 _ _ ?_)
 refine w2_sr (fun K_2 hK_2 => ?_)
 refine q_mv ((pm rfl).trans t0) ?_
 refine q_mv ((pm rfl).trans t1) ?_
 refine q_v 9 (.bool (true)) (o_eq (o_geqZZ (m := n) (n := l) rfl (pe hs rfl rfl) (pe hs rfl rfl)) (by rw [decide_eq_true h1])) ?_
 refine q_mv (pe hs rfl rfl) ?_
 refine op_valG (e := 10) (d := 11) (v := .int .i64 (n)) rfl rfl (by kernel_rfl) (pe hs rfl rfl) (o_move rfl ((pm rfl).trans t0)) ?_
 refine op_valG (e := 10) (d := 12) (v := .int .i64 (h)) rfl rfl (by kernel_rfl) (pe hs rfl rfl) (o_move rfl ((pm rfl).trans t2)) ?_
 refine op_valG (e := 10) (d := 13) (v := .bool (false)) rfl rfl (by kernel_rfl) (pe hs rfl rfl) (o_eq (o_leqZZ (m := n) (n := h) rfl (pe hs rfl rfl) (pe hs rfl rfl)) (by rw [decide_eq_false h2])) ?_
 refine q_v 14 (.bool (false)) (o_pickT rfl (pe hs rfl rfl) (pe hs rfl rfl)) ?_
 refine q_at (pe hs rfl rfl) ?_
 refine x_nil (hK_2 _ _ ?_)
 refine w2_ret ?_
 refine ret1 rfl hd (pe hs rfl rfl) ?_
 exact ⟨rfl, rfl⟩
theorem in_any (n l h : Int) (w : World) : Calls Tryz.prog 30 #[.int .i64 (n), .int .i64 (l), .int .i64 (h)] w fun e w' => e = .returned (.bool (decide (l ≤ n ∧ n ≤ h))) ∧ w = w' := by
 by_cases h1 : l ≤ n
 ·by_cases h2 : n ≤ h
  ·rw [decide_eq_true ⟨h1, h2⟩]; exact in_yes n l h w h1 h2
  ·rw [decide_eq_false (fun q => h2 q.2)]; exact in_hi n l h w h1 h2
 ·rw [decide_eq_false (fun q => h1 q.1)]; exact in_lo n l h w h1
/-- A time that may be. -/
def okT (n : Int) : Prop := 0 ≤ n ∧ n ≤ 1099511627776
instance (n : Int) : Decidable (okT n) := inferInstanceAs (Decidable (_ ∧ _))
theorem time_any (n : Int) (w : World) :
  Calls Tryz.prog 21 #[.int .i64 (n)] w fun e w' => e = .returned (.bool (decide (okT n))) ∧ w = w' := by
 refine x_enter 5 Tryz.func21 rfl rfl (fun a hs hd ha0 => ?_)
 have t0 : a.eval (.tmp 0) = .int .i64 (n) := ha0 0 _ rfl
 clear ha0
 refine w2_sr (fun K_1 hK_1 => ?_)
 refine q_as (.bool (false)) rfl ?_
 refine x_nil (hK_1 _ _ ?_)
 refine w2_sr (fun K_2 hK_2 => ?_)
 refine q_mv ((pm rfl).trans t0) ?_
 refine q_ca (vs := #[.int .i64 (n), .int .i64 ((0 : Nat) : Int), .int .i64 ((1099511627776 : Nat) : Int)]) Tryz.func30 (args3 (pe hs rfl rfl) rfl rfl) (in_any (n) ((0 : Nat) : Int) ((1099511627776 : Nat) : Int) _) (fun e_1 w_1 hR_1 => ?_)
 obtain ⟨rfl, rfl⟩ := hR_1
 refine ⟨_, rfl, ?_⟩
 refine q_at (pe hs rfl rfl) ?_
 refine x_nil (hK_2 _ _ ?_)
 refine w2_ret ?_
 refine ret1 rfl hd (pe hs rfl rfl) ?_
 exact ⟨rfl, rfl⟩
/-- The Kth byte of a number, high first. -/
def byteZ (z : Int) (K : Nat) : Nat := ((z / 2 ^ (56 - 8 * K)) % 256).toNat
theorem byteZ_lt (z : Int) (K : Nat) : byteZ z K < 256 := by unfold byteZ; omega
def numZ (z : Int) (K : Nat) : List Nat := (List.range K).map (byteZ z)
theorem numZ_length (z : Int) (K : Nat) : (numZ z K).length = K := by simp [numZ]
theorem numZ_succ (z : Int) (K : Nat) : numZ z (K + 1) = numZ z K ++ [byteZ z K] := by simp [numZ, List.range_succ]
section
variable {o : Oper} {ev : Operand → Value} {w : World} {x y z : Operand} {T U t : TypeId} {g k : Nat}
theorem o_shrB {n : Int} {K : Nat} {i : Int} (ho : o.op = .binOp .shr T x y U) (hx : ev x = .int .i64 n) (hy : ev y = .int .i64 i) (hi : i = ((56 - 8 * K : Nat) : Int)) (hK : 56 - 8 * K < 64) : (execOp ev o).run Tryz.prog w = .ok (.value (.int .i64 (n / 2 ^ (56 - 8 * K)))) w := by
 subst hi
 have e : n.fdiv (2 ^ (56 - 8 * K)) = n / 2 ^ (56 - 8 * K) := Int.fdiv_eq_ediv_of_nonneg _ (Int.le_of_lt (Int.pow_pos (by decide)))
 have hmin : min (56 - 8 * K) IntKind.i64.bits = 56 - 8 * K := Nat.min_eq_left (by show _ ≤ 64; omega)
 have hneg : ¬ (((56 - 8 * K : Nat) : Int) < 0) := by omega
 obtain ⟨q, hq⟩ : ∃ q, q = 56 - 8 * K := ⟨_, rfl⟩
 rw [← hq] at hy hmin hneg e ⊢
 simp [execOp, ho, hx, hy, eqGuard, binOp, Op.shift, hneg, hmin, e, Sem.run_bind, Sem.run_pure]
theorem o_convB {m : Int} {r : Nat} (ho : o.op = .convert T U x) (hx : ev x = .int .i64 m) (hT : ∃ d, ∀ w, (underlying T).run Tryz.prog w = .ok d w) (hU : ∀ w, (underlying U).run Tryz.prog w = .ok (.int .u8) w) (hr : r = (m % 256).toNat) : (execOp ev o).run Tryz.prog w = .ok (.value (.int .u8 ((r : Nat) : Int))) w := by
 have e : IntKind.u8.wrap m = ((r : Nat) : Int) := by rw [hr, IntKind.wrap_u8]; omega
 obtain ⟨d, hT⟩ := hT
 rw [← e]
 simp [execOp, ho, hx, convert, hT, hU, Sem.run_bind, Sem.run_pure, Conv.intToInt]
end
theorem number_any (z : Int) (w : World) :
  Calls Tryz.prog 25 #[.int .i64 (z)] w fun e w' => ∃ A c, e = .returned (.slice A 8 c) ∧ Own w' w.heap.size A c (numZ z 8) ∧ Below w.heap.size w w' := by
 refine x_enter 17 Tryz.func25 rfl rfl (fun a hs hd ha0 => ?_)
 have t0 : a.eval (.tmp 0) = .int .i64 (z) := ha0 0 _ rfl
 clear ha0
 refine w2_sr (fun K_1 hK_1 => ?_)
 refine q_as (.slice none (0) (0)) rfl ?_
 refine x_nil (hK_1 _ _ ?_)
 refine w2_sr (fun K_2 hK_2 => ?_)
 refine q_as (.slice none (0) (0)) rfl ?_
 refine x_nil (hK_2 _ _ ?_)
 refine w2_seq (fun K_3 hK_3 => ?_)
 refine w2_sr (fun K_4 hK_4 => ?_)
 refine q_v 4 (.int .i64 (56 - 8 * ((0 : Nat) : Int))) (o_eq (o_assign rfl rfl) rfl) ?_
 refine x_nil (hK_4 _ _ ?_)
 refine w2_block (fun K_5 hK_5 => ?_)
 refine x_loop (fun nn aa ww => ∃ (K : Nat) (A1 : Option Addr) (c1 : Nat), nn = 8 - K ∧ aa.tmps.size = 17 ∧ aa.defers = [] ∧ aa.eval (.tmp 0) = .int .i64 (z) ∧ aa.eval (.tmp 2) = .slice none (0) (0) ∧ aa.eval (.tmp 3) = .slice A1 (K) (c1) ∧ aa.eval (.tmp 4) = .int .i64 (56 - 8 * ((K : Nat) : Int)) ∧ K ≤ 8 ∧ Own ww w.heap.size A1 c1 (numZ z K) ∧ Below w.heap.size w ww) (8) ?_ ?_
 ·exact ⟨0, none, 0, rfl, (by rw [putsR_size]; exact hs), (by rw [putsR_defers]; exact hd), ((pm rfl).trans t0), (pe hs rfl rfl), (pe hs rfl rfl), (pe hs rfl rfl), Nat.zero_le _, Own.nil _ _, Below.refl _ _⟩
 ·skip
  clear t0 hd
  rintro nna_1 a_1 w_1 ⟨K, A1, c1, hm_1, hs_1, hd_1, ta_1_0, ta_1_2, ta_1_3, ta_1_4, hK, hO, HBL⟩ K_6 hK_6
  subst hm_1
  refine w2_seq (fun K_7 hK_7 => ?_)
  refine w2_sr (fun K_8 hK_8 => ?_)
  refine q_mv ((pm rfl).trans ta_1_4) ?_
  refine q_v 6 (.bool (decide (((0 : Nat) : Int) ≤ 56 - 8 * ((K : Nat) : Int)))) (o_geqZZ (m := 56 - 8 * ((K : Nat) : Int)) (n := ((0 : Nat) : Int)) rfl (pe hs_1 rfl rfl) rfl) ?_
  refine x_nil (hK_8 _ _ ?_)
  refine w2_split (pe hs_1 rfl rfl) (fun h_1 => ?_) (fun h_1 => ?_)
  ·simp only [DD9] at h_1
   have hlt : K < 8 := by have h9 := h_1; omega
   refine w2_skip ?_
   refine hK_7 _ _ ?_
   refine w2_seq (fun K_9 hK_9 => ?_)
   refine w2_block (fun K_10 hK_10 => ?_)
   refine x_region (by kernel_rfl) ?_
   refine q_mv ((pm rfl).trans ta_1_3) ?_
   refine q_mv ((pm rfl).trans ta_1_0) ?_
   refine q_mv ((pm rfl).trans ta_1_4) ?_
   refine q_v 12 (.int .i64 (z / 2 ^ (56 - 8 * K))) (o_shrB (n := z) (K := K) rfl (pe hs_1 rfl rfl) (pe hs_1 rfl rfl) (by omega) (by omega)) ?_
   refine q_v 13 (.int .u8 ((byteZ z K : Nat) : Int)) (o_convB rfl (pe hs_1 rfl rfl) ⟨.int .i64, fun _ => by kernel_rfl⟩ (fun _ => by kernel_rfl) rfl) ?_
   refine op_ex (d := 14) rfl rfl (o_build1 (m := byteZ z K) rfl (pe hs_1 rfl rfl) (byteZ_lt _ _)) (fun v_1 w_2 hR_1 => ?_)
   obtain ⟨g_1, rfl, ho_1, hb_1⟩ := hR_1
   replace ho_1 := ho_1.mono HBL.size
   replace hO := hO.nx hb_1
   have HB_1 := below_from HBL hb_1
   refine op_ex (d := 15) rfl rfl (o_append rfl (pe hs_1 rfl rfl) (pe hs_1 rfl rfl) hO (ho_1).bs (by rw [numZ_length]) (by simp only [List.length_cons, List.length_nil]) (by omega) HB_1.size) (fun v_2 w_3 hR_2 => ?_)
   obtain ⟨A_1, c_1, rfl, ho_2, hb_2, hg_1, hat_1⟩ := hR_2
   have HB_2 : Below w.heap.size w w_3 := (HB_1).trans hb_2
   clear hg_1 hat_1 hO
   refine q_at (pe hs_1 rfl rfl) ?_
   refine x_nil (hK_10 _ _ ?_)
   refine hK_9 _ _ ?_
   refine x_region (by kernel_rfl) ?_
   refine q_mv ((pm rfl).trans ta_1_4) ?_
   refine q_v 8 (.int .i64 (56 - 8 * ((K + 1 : Nat) : Int))) (o_eq (o_subZZ (m := 56 - 8 * ((K : Nat) : Int)) (n := ((8 : Nat) : Int)) rfl (pe hs_1 rfl rfl) rfl (by omega)) (by congr 1; omega)) ?_
   refine q_at (pe hs_1 rfl rfl) ?_
   refine x_nil ?_
   refine hK_6 _ _ _ ⟨K + 1, A_1, c_1, rfl, (by rw [putsR_size]; exact hs_1), (by rw [putsR_defers]; exact hd_1), ((pm rfl).trans ta_1_0), ((pm rfl).trans ta_1_2), (pe hs_1 rfl rfl), (pe hs_1 rfl rfl), (by omega), (by rw [numZ_succ]; exact ho_2), HB_2⟩ ?_
   omega
  ·simp only [DD9] at h_1
   obtain rfl : K = 8 := by omega
   refine w2_exit ?_
   refine thn_exit ?_
   refine thn_exit ?_
   refine exb_hit ?_
   refine hK_5 _ _ ?_
   refine hK_3 _ _ ?_
   refine w2_sr (fun K_11 hK_11 => ?_)
   refine q_mv ((pm rfl).trans ta_1_3) ?_
   refine q_at (pe hs_1 rfl rfl) ?_
   refine x_nil (hK_11 _ _ ?_)
   refine w2_ret ?_
   refine ret1 rfl hd_1 (pe hs_1 rfl rfl) ?_
   exact ⟨_, _, rfl, hO, HBL⟩
theorem bld9 {ev : Operand → Value} {i0 i1 i2 i3 i4 i5 i6 i7 i8 : Nat} {x0 x1 x2 x3 x4 x5 x6 x7 x8 : Operand} {u0 u1 u2 u3 u4 u5 u6 u7 u8 : Value} (h0 : ev x0 = u0) (h1 : ev x1 = u1) (h2 : ev x2 = u2) (h3 : ev x3 = u3) (h4 : ev x4 = u4) (h5 : ev x5 = u5) (h6 : ev x6 = u6) (h7 : ev x7 = u7) (h8 : ev x8 = u8) : #[(i0, x0), (i1, x1), (i2, x2), (i3, x3), (i4, x4), (i5, x5), (i6, x6), (i7, x7), (i8, x8)].map (fun (i, x) => (i, ev x)) = #[(i0, u0), (i1, u1), (i2, u2), (i3, u3), (i4, u4), (i5, u5), (i6, u6), (i7, u7), (i8, u8)] := by simp [h0, h1, h2, h3, h4, h5, h6, h7, h8]
def hp : Option Nat → Option Addr
 | none => none
 | some k => some ⟨k, 0, none⟩
/-- A client of tenant 1 lies at g: its key, the server's key; whether a session has begun; since when. -/
structure ClientAt (w : World) (M : Nat → Prop) (g : Nat) (pk sv : List Nat) (up : Bool) (z : Int) : Prop where
 lt : Lt w M
 pl : pk.length = 32
 sl : sv.length = 32
 row : ∃ (Ap : Option Addr) (cp : Nat) (Av : Option Addr) (cv gm : Nat) (h : Option Nat), Blk w g #[.int .i64 ((1 : Nat) : Int), .slice Ap (32) (cp), .slice Av (32) (cv), .string ({ data := #[] }), .string ({ data := #[] }), .int .i64 ((4 : Nat) : Int), .int .i64 ((500 : Nat) : Int), .int .i64 ((100 : Nat) : Int), .int .i64 (z), .map (some gm), .pointer (hp h), .slice none (0) (0), .pointer none, .pointer none, .pointer none, .int .i64 ((0 : Nat) : Int), .slice none (0) (0)] 58 ∧ h.isSome = up ∧ Wt w Ap cp pk ∧ Wt w Av cv sv ∧ MapZ w gm ∧ M g ∧ M gm ∧ (∀ j, blkA Ap j → M j) ∧ ∀ j, blkA Av j → M j
theorem ClientAt.keep {w w' : World} {M : Nat → Prop} {g : Nat} {pk sv : List Nat} {up : Bool} {z : Int} (h : ClientAt w M g pk sv up z) (hb : KeptM M w w') (hs : w.heap.size ≤ w'.heap.size) : ClientAt w' M g pk sv up z := by
 obtain ⟨Ap, cp, Av, cv, gm, hh, hB, hu, h1, h2, ⟨k, h3⟩, h4, h5, h6, h7⟩ := h.row
 exact ⟨h.lt.up hs, h.pl, h.sl, Ap, cp, Av, cv, gm, hh, (hb g h4).trans hB, hu, h1.keep (fun j hj => hb j (h6 j hj)), h2.keep (fun j hj => hb j (h7 j hj)), ⟨k, (hb gm h5).trans h3⟩, h4, h5, h6, h7⟩
theorem ClientAt.nx {w w' : World} {M : Nat → Prop} {g : Nat} {pk sv : List Nat} {up : Bool} {z : Int} (h : ClientAt w M g pk sv up z) (hb : Below w.heap.size w w') : ClientAt w' M g pk sv up z := h.keep (kept_of hb h.lt) hb.size
theorem ClientAt.keepM {w w' : World} {M X : Nat → Prop} {g : Nat} {pk sv : List Nat} {up : Bool} {z : Int} (h : ClientAt w M g pk sv up z) (hb : BelowX X w w') (hs : Sep M X) : ClientAt w' M g pk sv up z := h.keep (hb.kept h.lt hs) hb.size
section
variable {o : Oper} {ev : Operand → Value} {w : World} {x y z : Operand} {T U t : TypeId} {g k : Nat}
theorem o_lenS0 {s : ByteArray} (ho : o.op = .call { callee := .builtin .len, args := #[x], argTypes := #[9] }) (hx : ev x = .string s) (hs : s.size = 0) : (execOp ev o).run Tryz.prog w = .ok (.value (.int .i64 ((0 : Nat) : Int))) w := by
 simp [execOp, ho, hx, go_sem, resolve, invoke, builtin, hs]
end
theorem CNew_any {A B : Option Addr} {c d : Nat} {pk sv : List Nat} (w : World) (h1 : Bs w A c pk) (h1l : pk.length = 32) (h2 : Bs w B d sv) (h2l : sv.length = 32) :
  Calls Tryz.prog 19 #[.int .i64 ((1 : Nat) : Int), .slice A (32) (c), .slice B (32) (d), .string ({ data := #[] }), .string ({ data := #[] }), .int .i64 ((4 : Nat) : Int), .int .i64 ((500 : Nat) : Int), .int .i64 ((100 : Nat) : Int)] w fun e w' => ∃ (M : Nat → Prop) (g : Nat), e = .returned (.tuple #[.pointer (some ⟨g, 0, none⟩), .int .i64 0]) ∧ ClientAt w' M g pk sv false ((0 : Nat) : Int) ∧ Ge w M ∧ Below w.heap.size w w' := by
 refine x_enter 77 Tryz.func19 rfl rfl (fun a hs hd ha0 => ?_)
 have t0 : a.eval (.tmp 0) = .int .i64 ((1 : Nat) : Int) := ha0 0 _ rfl
 have t1 : a.eval (.tmp 1) = .slice A (32) (c) := ha0 1 _ rfl
 have t2 : a.eval (.tmp 2) = .slice B (32) (d) := ha0 2 _ rfl
 have t3 : a.eval (.tmp 3) = .string ({ data := #[] }) := ha0 3 _ rfl
 have t4 : a.eval (.tmp 4) = .string ({ data := #[] }) := ha0 4 _ rfl
 have t5 : a.eval (.tmp 5) = .int .i64 ((4 : Nat) : Int) := ha0 5 _ rfl
 have t6 : a.eval (.tmp 6) = .int .i64 ((500 : Nat) : Int) := ha0 6 _ rfl
 have t7 : a.eval (.tmp 7) = .int .i64 ((100 : Nat) : Int) := ha0 7 _ rfl
 clear ha0
 refine w2_sr (fun K_1 hK_1 => ?_)
 refine q_as (.pointer none) rfl ?_
 refine q_as (.int .i64 ((0 : Nat) : Int)) rfl ?_
 refine x_nil (hK_1 _ _ ?_)
 refine w2_seq (fun K_2 hK_2 => ?_)
 refine w2_sr (fun K_3 hK_3 => ?_)
 refine q_mv (v := .int .i64 ((1 : Nat) : Int)) ((pm rfl).trans t0) ?_
 refine q_ca (vs := #[.int .i64 ((1 : Nat) : Int), .int .i64 ((0 : Nat) : Int), .int .i64 ((65535 : Nat) : Int)]) Tryz.func30 (args3 (pe hs rfl rfl) rfl rfl) (in_yes ((1 : Nat) : Int) ((0 : Nat) : Int) ((65535 : Nat) : Int) _ (by decide) (by decide)) (fun e_1 w_1 hR_1 => ?_)
 obtain ⟨rfl, rfl⟩ := hR_1
 refine ⟨_, rfl, ?_⟩
 refine q_v 20 (.bool (false)) (o_not (b := true) rfl (pe hs rfl rfl)) ?_
 refine q_mv (pe hs rfl rfl) ?_
 refine op_valG (e := 21) (d := 22) (v := .slice A (32) (c)) rfl rfl (by kernel_rfl) (pe hs rfl rfl) (o_move rfl ((pm rfl).trans t1)) ?_
 refine op_valG (e := 21) (d := 23) (v := .int .i64 ((32 : Nat) : Int)) rfl rfl (by kernel_rfl) (pe hs rfl rfl) (o_len rfl (pe hs rfl rfl)) ?_
 refine op_valG (e := 21) (d := 24) (v := .bool (false)) rfl rfl (by kernel_rfl) (pe hs rfl rfl) (o_eq (o_neq (m := 32) (n := 32) rfl (pe hs rfl rfl) rfl) rfl) ?_
 refine q_v 25 (.bool (false)) (o_pickF rfl (pe hs rfl rfl) (pe hs rfl rfl)) ?_
 refine q_mv (pe hs rfl rfl) ?_
 refine op_valG (e := 26) (d := 27) (v := .slice B (32) (d)) rfl rfl (by kernel_rfl) (pe hs rfl rfl) (o_move rfl ((pm rfl).trans t2)) ?_
 refine op_valG (e := 26) (d := 28) (v := .int .i64 ((32 : Nat) : Int)) rfl rfl (by kernel_rfl) (pe hs rfl rfl) (o_len rfl (pe hs rfl rfl)) ?_
 refine op_valG (e := 26) (d := 29) (v := .bool (false)) rfl rfl (by kernel_rfl) (pe hs rfl rfl) (o_eq (o_neq (m := 32) (n := 32) rfl (pe hs rfl rfl) rfl) rfl) ?_
 refine q_v 30 (.bool (false)) (o_pickF rfl (pe hs rfl rfl) (pe hs rfl rfl)) ?_
 refine q_mv (pe hs rfl rfl) ?_
 refine op_valG (e := 31) (d := 32) (v := .string ({ data := #[] })) rfl rfl (by kernel_rfl) (pe hs rfl rfl) (o_move rfl ((pm rfl).trans t3)) ?_
 refine op_valG (e := 31) (d := 33) (v := .int .i64 ((0 : Nat) : Int)) rfl rfl (by kernel_rfl) (pe hs rfl rfl) (o_lenS0 rfl (pe hs rfl rfl) rfl) ?_
 refine op_valG (e := 31) (d := 34) (v := .bool (false)) rfl rfl (by kernel_rfl) (pe hs rfl rfl) (o_eq (o_gtr (m := 0) (n := 255) rfl (pe hs rfl rfl) rfl) rfl) ?_
 refine q_v 35 (.bool (false)) (o_pickF rfl (pe hs rfl rfl) (pe hs rfl rfl)) ?_
 refine q_mv (pe hs rfl rfl) ?_
 refine op_valG (e := 36) (d := 37) (v := .string ({ data := #[] })) rfl rfl (by kernel_rfl) (pe hs rfl rfl) (o_move rfl ((pm rfl).trans t4)) ?_
 refine op_valG (e := 36) (d := 38) (v := .int .i64 ((0 : Nat) : Int)) rfl rfl (by kernel_rfl) (pe hs rfl rfl) (o_lenS0 rfl (pe hs rfl rfl) rfl) ?_
 refine op_valG (e := 36) (d := 39) (v := .bool (false)) rfl rfl (by kernel_rfl) (pe hs rfl rfl) (o_eq (o_gtr (m := 0) (n := 255) rfl (pe hs rfl rfl) rfl) rfl) ?_
 refine q_v 40 (.bool (false)) (o_pickF rfl (pe hs rfl rfl) (pe hs rfl rfl)) ?_
 refine q_mv (pe hs rfl rfl) ?_
 refine op_valG (e := 41) (d := 42) (v := .string ({ data := #[] })) rfl rfl (by kernel_rfl) (pe hs rfl rfl) (o_move rfl ((pm rfl).trans t3)) ?_
 refine op_valG (e := 41) (d := 43) (v := .bool (true)) rfl rfl (by kernel_rfl) (pe hs rfl rfl) (o_eqS rfl (pe hs rfl rfl) rfl rfl) ?_
 refine op_valG (e := 41) (d := 44) (v := .bool (true)) rfl rfl (by kernel_rfl) (pe hs rfl rfl) (o_move rfl (pe hs rfl rfl)) ?_
 refine op_valG (e := 44) (d := 45) (v := .string ({ data := #[] })) rfl rfl (by kernel_rfl) (pe hs rfl rfl) (o_move rfl ((pm rfl).trans t4)) ?_
 refine op_valG (e := 44) (d := 46) (v := .bool (false)) rfl rfl (by kernel_rfl) (pe hs rfl rfl) (o_neS rfl (pe hs rfl rfl) rfl rfl) ?_
 refine op_valG (e := 41) (d := 47) (v := .bool (false)) rfl rfl (by kernel_rfl) (pe hs rfl rfl) (o_pickT rfl (pe hs rfl rfl) (pe hs rfl rfl)) ?_
 refine q_v 48 (.bool (false)) (o_pickF rfl (pe hs rfl rfl) (pe hs rfl rfl)) ?_
 refine q_mv (pe hs rfl rfl) ?_
 refine op_valG (e := 49) (d := 50) (v := .int .i64 ((4 : Nat) : Int)) rfl rfl (by kernel_rfl) (pe hs rfl rfl) (o_move rfl ((pm rfl).trans t5)) ?_
 refine op_callG (e := 49) (vs := #[.int .i64 ((4 : Nat) : Int), .int .i64 ((1 : Nat) : Int), .int .i64 ((65536 : Nat) : Int)]) rfl rfl (by kernel_rfl) (pe hs rfl rfl) (exec_call Tryz.func30 (by kernel_rfl) (by kernel_rfl) _ rfl _ _ (args3 (pe hs rfl rfl) rfl rfl)) (in_yes ((4 : Nat) : Int) ((1 : Nat) : Int) ((65536 : Nat) : Int) _ (by decide) (by decide)) (fun e_2 w_2 hR_2 => ?_)
 obtain ⟨rfl, rfl⟩ := hR_2
 refine ⟨_, rfl, ?_⟩
 refine op_valG (e := 49) (d := 52) (v := .bool (false)) rfl rfl (by kernel_rfl) (pe hs rfl rfl) (o_not (b := true) rfl (pe hs rfl rfl)) ?_
 refine q_v 53 (.bool (false)) (o_pickF rfl (pe hs rfl rfl) (pe hs rfl rfl)) ?_
 refine q_mv (pe hs rfl rfl) ?_
 refine op_valG (e := 54) (d := 55) (v := .int .i64 ((500 : Nat) : Int)) rfl rfl (by kernel_rfl) (pe hs rfl rfl) (o_move rfl ((pm rfl).trans t6)) ?_
 refine op_callG (e := 54) (vs := #[.int .i64 ((500 : Nat) : Int), .int .i64 ((1 : Nat) : Int), .int .i64 ((65536 : Nat) : Int)]) rfl rfl (by kernel_rfl) (pe hs rfl rfl) (exec_call Tryz.func30 (by kernel_rfl) (by kernel_rfl) _ rfl _ _ (args3 (pe hs rfl rfl) rfl rfl)) (in_yes ((500 : Nat) : Int) ((1 : Nat) : Int) ((65536 : Nat) : Int) _ (by decide) (by decide)) (fun e_3 w_3 hR_3 => ?_)
 obtain ⟨rfl, rfl⟩ := hR_3
 refine ⟨_, rfl, ?_⟩
 refine op_valG (e := 54) (d := 57) (v := .bool (false)) rfl rfl (by kernel_rfl) (pe hs rfl rfl) (o_not (b := true) rfl (pe hs rfl rfl)) ?_
 refine q_v 58 (.bool (false)) (o_pickF rfl (pe hs rfl rfl) (pe hs rfl rfl)) ?_
 refine q_mv (pe hs rfl rfl) ?_
 refine op_valG (e := 59) (d := 60) (v := .int .i64 ((100 : Nat) : Int)) rfl rfl (by kernel_rfl) (pe hs rfl rfl) (o_move rfl ((pm rfl).trans t7)) ?_
 refine op_callG (e := 59) (vs := #[.int .i64 ((100 : Nat) : Int), .int .i64 ((1 : Nat) : Int), .int .i64 ((1099511627776 : Nat) : Int)]) rfl rfl (by kernel_rfl) (pe hs rfl rfl) (exec_call Tryz.func30 (by kernel_rfl) (by kernel_rfl) _ rfl _ _ (args3 (pe hs rfl rfl) rfl rfl)) (in_yes ((100 : Nat) : Int) ((1 : Nat) : Int) ((1099511627776 : Nat) : Int) _ (by decide) (by decide)) (fun e_4 w_4 hR_4 => ?_)
 obtain ⟨rfl, rfl⟩ := hR_4
 refine ⟨_, rfl, ?_⟩
 refine op_valG (e := 59) (d := 62) (v := .bool (false)) rfl rfl (by kernel_rfl) (pe hs rfl rfl) (o_not (b := true) rfl (pe hs rfl rfl)) ?_
 refine q_v 63 (.bool (false)) (o_pickF rfl (pe hs rfl rfl) (pe hs rfl rfl)) ?_
 refine x_nil (hK_3 _ _ ?_)
 refine w2_condF (pe hs rfl rfl) ?_
 refine w2_skip ?_
 refine hK_2 _ _ ?_
 refine w2_sr (fun K_4 hK_4 => ?_)
 refine q_mv (v := .int .i64 ((1 : Nat) : Int)) ((pm rfl).trans t0) ?_
 refine q_mv ((pm rfl).trans t1) ?_
 refine q_ca (vs := #[.slice A (32) (c)]) Tryz.func42 (args1 (pe hs rfl rfl)) (Clone_any _ h1 h1l (by omega)) (fun e_5 w_5 hR_5 => ?_)
 obtain ⟨A_1, c_1, rfl, ho_1, hb_5⟩ := hR_5
 refine ⟨_, rfl, ?_⟩
 refine q_mv ((pm rfl).trans t2) ?_
 refine q_ca (vs := #[.slice B (32) (d)]) Tryz.func42 (args1 (pe hs rfl rfl)) (Clone_any _ (h2.below hb_5) h2l (by omega)) (fun e_6 w_6 hR_6 => ?_)
 obtain ⟨A_2, c_2, rfl, ho_2, hb_6⟩ := hR_6
 replace ho_2 := ho_2.mono hb_5.size
 replace ho_1 := ho_1.nx hb_6
 have HB_1 := below_from hb_5 hb_6
 refine ⟨_, rfl, ?_⟩
 refine q_mv ((pm rfl).trans t3) ?_
 refine q_mv ((pm rfl).trans t4) ?_
 refine q_mv (v := .int .i64 ((4 : Nat) : Int)) ((pm rfl).trans t5) ?_
 refine q_mv (v := .int .i64 ((500 : Nat) : Int)) ((pm rfl).trans t6) ?_
 refine q_mv (v := .int .i64 ((100 : Nat) : Int)) ((pm rfl).trans t7) ?_
 refine op_ex (d := 74) rfl rfl (o_makeMap rfl) (fun v_1 w_7 hR_7 => ?_)
 obtain ⟨g_1, rfl, hle_1, hM_1, hb_7⟩ := hR_7
 have ge_1 : w.heap.size ≤ g_1 := Nat.le_trans HB_1.size hle_1
 replace ho_1 := ho_1.nx hb_7
 replace ho_2 := ho_2.nx hb_7
 have HB_2 := below_from HB_1 hb_7
 refine q_v 75 (.agg #[.int .i64 ((1 : Nat) : Int), .slice A_1 (32) (c_1), .slice A_2 (32) (c_2), .string ({ data := #[] }), .string ({ data := #[] }), .int .i64 ((4 : Nat) : Int), .int .i64 ((500 : Nat) : Int), .int .i64 ((100 : Nat) : Int), .int .i64 ((0 : Nat) : Int), .map (some g_1), .pointer none, .slice none (0) (0), .pointer none, .pointer none, .pointer none, .int .i64 ((0 : Nat) : Int), .slice none (0) (0)]) (o_bld (vs := #[(0, .int .i64 ((1 : Nat) : Int)), (1, .slice A_1 (32) (c_1)), (2, .slice A_2 (32) (c_2)), (3, .string ({ data := #[] })), (4, .string ({ data := #[] })), (5, .int .i64 ((4 : Nat) : Int)), (6, .int .i64 ((500 : Nat) : Int)), (7, .int .i64 ((100 : Nat) : Int)), (9, .map (some g_1))]) (v := .agg #[.int .i64 ((1 : Nat) : Int), .slice A_1 (32) (c_1), .slice A_2 (32) (c_2), .string ({ data := #[] }), .string ({ data := #[] }), .int .i64 ((4 : Nat) : Int), .int .i64 ((500 : Nat) : Int), .int .i64 ((100 : Nat) : Int), .int .i64 ((0 : Nat) : Int), .map (some g_1), .pointer none, .slice none (0) (0), .pointer none, .pointer none, .pointer none, .int .i64 ((0 : Nat) : Int), .slice none (0) (0)]) rfl (bld9 (pe hs rfl rfl) (pe hs rfl rfl) (pe hs rfl rfl) (pe hs rfl rfl) (pe hs rfl rfl) (pe hs rfl rfl) (pe hs rfl rfl) (pe hs rfl rfl) (pe hs rfl rfl)) (fun _ => by kernel_rfl)) ?_
 refine op_ex (d := 76) rfl rfl (o_boxL (cs := #[.int .i64 ((1 : Nat) : Int), .slice A_1 (32) (c_1), .slice A_2 (32) (c_2), .string ({ data := #[] }), .string ({ data := #[] }), .int .i64 ((4 : Nat) : Int), .int .i64 ((500 : Nat) : Int), .int .i64 ((100 : Nat) : Int), .int .i64 ((0 : Nat) : Int), .map (some g_1), .pointer none, .slice none (0) (0), .pointer none, .pointer none, .pointer none, .int .i64 ((0 : Nat) : Int), .slice none (0) (0)]) rfl (pe hs rfl rfl)) (fun v_2 w_8 hR_8 => ?_)
 obtain ⟨g_2, rfl, hle_2, hB_1, hb_8⟩ := hR_8
 have ge_2 : w.heap.size ≤ g_2 := Nat.le_trans HB_2.size hle_2
 replace ho_1 := ho_1.nx hb_8
 replace ho_2 := ho_2.nx hb_8
 replace hM_1 := hM_1.nx hb_8
 have HB_3 := below_from HB_2 hb_8
 refine q_at (pe hs rfl rfl) ?_
 refine q_as (.int .i64 ((0 : Nat) : Int)) rfl ?_
 refine x_nil (hK_4 _ _ ?_)
 refine w2_ret ?_
 refine ret2 rfl hd (pe hs rfl rfl) (pe hs rfl rfl) ?_
 have hmg := hM_1.lt
 exact ⟨fun j => w.heap.size ≤ j ∧ j < w_8.heap.size, g_2, rfl, ⟨fun j h => h.2, h1l, h2l, A_1, c_1, A_2, c_2, g_1, none, hB_1, rfl, ho_1.wt, ho_2.wt, hM_1, ⟨ge_2, hB_1.lt⟩, ⟨ge_1, hmg⟩, fun j hj => ⟨ho_1.ge' j hj, ho_1.lt j hj⟩, fun j hj => ⟨ho_2.ge' j hj, ho_2.lt j hj⟩⟩, fun j h => h.1, HB_3⟩
end Go.Proofs.YtodhdajelnfhpaaGreat
/-
 WALKS: the client: session, tells, event, ends, LineCut, Tick, Up, Len.
-/
namespace Go.Proofs.YtodhdajelnfhpaaGreat
open Go.RowKit
set_option linter.unusedVariables false
set_option linter.unusedSimpArgs false
set_option maxRecDepth 100000
attribute [local irreducible] wpList wpListIn putsR

theorem session_0 {Ap Av : Option Addr} {cp cv gm g : Nat} {z : Int} {Ao : Option Addr} {no co : Nat} (w : World) (hB : Blk w g #[.int .i64 ((1 : Nat) : Int), .slice Ap (32) (cp), .slice Av (32) (cv), .string ({ data := #[] }), .string ({ data := #[] }), .int .i64 ((4 : Nat) : Int), .int .i64 ((500 : Nat) : Int), .int .i64 ((100 : Nat) : Int), .int .i64 (z), .map (some gm), .pointer none, .slice none (0) (0), .pointer none, .pointer none, .pointer none, .int .i64 ((0 : Nat) : Int), .slice Ao (no) (co)] 58) :
  Calls Tryz.prog 20 #[.pointer (some ⟨g, 0, none⟩)] w fun e w' => e = .returned (.bool false) ∧ w = w' := by
 refine x_enter 15 Tryz.func20 rfl rfl (fun a hs hd ha0 => ?_)
 have t0 : a.eval (.tmp 0) = .pointer (some ⟨g, 0, none⟩) := ha0 0 _ rfl
 clear ha0
 refine w2_sr (fun K_1 hK_1 => ?_)
 refine q_as (.bool (false)) rfl ?_
 refine x_nil (hK_1 _ _ ?_)
 refine w2_sr (fun K_2 hK_2 => ?_)
 refine q_mv ((pm rfl).trans t0) ?_
 refine q_nc (pe hs rfl rfl) ?_
 refine q_fa 10 (pe hs rfl rfl) ?_
 refine q_ld (v := .pointer none) (pe hs rfl rfl) hB rfl ?_
 refine q_v 7 (.bool (false)) (o_nilN (b := true) rfl (pe hs rfl rfl) rfl rfl ⟨79, fun _ => by kernel_rfl⟩) ?_
 refine q_mv (pe hs rfl rfl) ?_
 refine op_valG (e := 8) (d := 9) (v := .pointer (some ⟨g, 0, none⟩)) rfl rfl (by kernel_rfl) (pe hs rfl rfl) (o_move rfl ((pm rfl).trans t0)) ?_
 refine op_valG (e := 8) (d := 10) (v := .pointer (some ⟨g, 0, none⟩)) rfl rfl (by kernel_rfl) (pe hs rfl rfl) (o_nilCheck rfl (pe hs rfl rfl)) ?_
 refine op_valG (e := 8) (d := 11) (v := .pointer (some ⟨g, 12, none⟩)) rfl rfl (by kernel_rfl) (pe hs rfl rfl) (o_field (k' := 12) rfl (pe hs rfl rfl) (fun _ => by kernel_rfl)) ?_
 refine op_valG (e := 8) (d := 12) (v := .pointer none) rfl rfl (by kernel_rfl) (pe hs rfl rfl) (o_load1 rfl (pe hs rfl rfl) hB rfl ⟨by kernel_rfl, by kernel_rfl⟩) ?_
 refine op_valG (e := 8) (d := 13) (v := .bool (false)) rfl rfl (by kernel_rfl) (pe hs rfl rfl) (o_nilN (b := true) rfl (pe hs rfl rfl) rfl rfl ⟨170, fun _ => by kernel_rfl⟩) ?_
 refine q_v 14 (.bool (false)) (o_pickF rfl (pe hs rfl rfl) (pe hs rfl rfl)) ?_
 refine q_at (pe hs rfl rfl) ?_
 refine x_nil (hK_2 _ _ ?_)
 refine w2_ret ?_
 refine ret1 rfl hd (pe hs rfl rfl) ?_
 exact ⟨rfl, rfl⟩
theorem tells_any {Ap Av : Option Addr} {cp cv gm g : Nat} {z : Int} {h Ao : Option Addr} {no co : Nat} (w : World) (hB : Blk w g #[.int .i64 ((1 : Nat) : Int), .slice Ap (32) (cp), .slice Av (32) (cv), .string ({ data := #[] }), .string ({ data := #[] }), .int .i64 ((4 : Nat) : Int), .int .i64 ((500 : Nat) : Int), .int .i64 ((100 : Nat) : Int), .int .i64 (z), .map (some gm), .pointer h, .slice none (0) (0), .pointer none, .pointer none, .pointer none, .int .i64 ((0 : Nat) : Int), .slice Ao (no) (co)] 58) :
  Calls Tryz.prog 28 #[.pointer (some ⟨g, 0, none⟩)] w fun e w' => e = .returned (.slice Ao no co) ∧ Blk w' g #[.int .i64 ((1 : Nat) : Int), .slice Ap (32) (cp), .slice Av (32) (cv), .string ({ data := #[] }), .string ({ data := #[] }), .int .i64 ((4 : Nat) : Int), .int .i64 ((500 : Nat) : Int), .int .i64 ((100 : Nat) : Int), .int .i64 (z), .map (some gm), .pointer h, .slice none (0) (0), .pointer none, .pointer none, .pointer none, .int .i64 ((0 : Nat) : Int), .slice none (0) (0)] 58 ∧ BelowX (fun j => j = g) w w' := by
 refine x_enter 12 Tryz.func28 rfl rfl (fun a hs hd ha0 => ?_)
 have t0 : a.eval (.tmp 0) = .pointer (some ⟨g, 0, none⟩) := ha0 0 _ rfl
 clear ha0
 have HB0 : BelowX (fun j => j = g) w w := BelowX.refl _ _
 refine w2_sr (fun K_1 hK_1 => ?_)
 refine q_as (.slice none (0) (0)) rfl ?_
 refine x_nil (hK_1 _ _ ?_)
 refine w2_sr (fun K_2 hK_2 => ?_)
 refine q_mv ((pm rfl).trans t0) ?_
 refine q_nc (pe hs rfl rfl) ?_
 refine q_fa 16 (pe hs rfl rfl) ?_
 refine q_ld (v := .slice Ao (no) (co)) (pe hs rfl rfl) hB rfl ?_
 refine q_at (pe hs rfl rfl) ?_
 refine x_nil (hK_2 _ _ ?_)
 refine w2_sr (fun K_3 hK_3 => ?_)
 refine q_mv ((pm rfl).trans t0) ?_
 refine q_nc (pe hs rfl rfl) ?_
 refine q_fa 16 (pe hs rfl rfl) ?_
 refine op_do rfl rfl (o_store1 rfl (pe hs rfl rfl) rfl rfl rfl hB (by simp only [List.length_cons, List.length_nil]; omega) ⟨by kernel_rfl, by kernel_rfl⟩) (fun w_1 hR_1 => ?_)
 obtain ⟨hB_1, hX_1⟩ := hR_1
 have HB_1 := HB0.step hX_1 (fun k hk (hY : k = g) => hY)
 clear hB
 simp only [List.set_cons_zero, List.set_cons_succ] at hB_1
 refine x_nil (hK_3 _ _ ?_)
 refine w2_sr (fun K_4 hK_4 => ?_)
 refine q_mv (pe hs rfl rfl) ?_
 refine q_at (pe hs rfl rfl) ?_
 refine x_nil (hK_4 _ _ ?_)
 refine w2_ret ?_
 refine ret1 rfl hd (pe hs rfl rfl) ?_
 exact ⟨rfl, hB_1, HB_1⟩
theorem ev_info : (Tryz.prog.info? 32).map (fun i => (i.zero.map (fun z => z.cells.size), i.size, i.bytes)) = some (some 8, 8, 104) := by kernel_rfl
theorem ev_parts : ∃ i z, Tryz.prog.info? 32 = some i ∧ i.zero = some z ∧ z.cells.size = 8 ∧ i.size = 8 ∧ i.bytes = 104 := by
 have h := ev_info
 cases hi : Tryz.prog.info? 32 with
 | none => rw [hi] at h; cases h
 | some i =>
  rw [hi] at h
  simp only [Option.map_some, Option.some.injEq, Prod.mk.injEq] at h
  cases hz : i.zero with
  | none => rw [hz] at h; cases h.1
  | some z =>
   rw [hz] at h
   simp only [Option.map_some, Option.some.injEq] at h
   exact ⟨i, z, rfl, hz, h.1, h.2.1, h.2.2⟩
/-- An event lies at ge: its kind, its number, its bytes. -/
def EvAt (w : World) (ge : Nat) (kd id : Nat) (D : Option Addr) (n d : Nat) : Prop := ∃ cur, Blk w ge cur 32 ∧ cur[0]? = some (.int .i64 ((kd : Nat) : Int)) ∧ cur[1]? = some (.int .i64 ((id : Nat) : Int)) ∧ cur[7]? = some (.slice D n d)
theorem EvAt.nx {w w' : World} {ge kd id n d : Nat} {D : Option Addr} (h : EvAt w ge kd id D n d) (hb : Below w.heap.size w w') : EvAt w' ge kd id D n d := by
 obtain ⟨cur, h1, h2⟩ := h
 exact ⟨cur, h1.nx hb, h2⟩
theorem EvAt.keepX {w w' : World} {X : Nat → Prop} {ge kd id n d : Nat} {D : Option Addr} (h : EvAt w ge kd id D n d) (hb : BelowX X w w') (hn : ¬ X ge) : EvAt w' ge kd id D n d := by
 obtain ⟨cur, h1, h2⟩ := h
 exact ⟨cur, hb.blk h1 hn, h2⟩
theorem EvAt.lt {w : World} {ge kd id n d : Nat} {D : Option Addr} (h : EvAt w ge kd id D n d) : ge < w.heap.size := by obtain ⟨cur, h1, _⟩ := h; exact h1.lt
section
variable {o : Oper} {ev : Operand → Value} {w : World} {x y z : Operand} {T U t : TypeId} {g k : Nat}
/-- An event is appended to none. -/
theorem o_appE {kd id n d c : Nat} {D : Option Addr} (ho : o.op = .call { callee := .builtin .append, args := #[x, y], argTypes := #[26, 26] }) (hx : ev x = .slice none 0 0) (hy : ev y = .slice (some ⟨g, 0, none⟩) 1 c) (hB : Blk w g #[.int .i64 ((kd : Nat) : Int), .int .i64 ((id : Nat) : Int), .int .i64 ((0 : Nat) : Int), .int .i64 ((0 : Nat) : Int), .slice none (0) (0), .string ({ data := #[] }), .int .i64 ((0 : Nat) : Int), .slice D (n) (d)] 32) :
  ∃ v w', (execOp ev o).run Tryz.prog w = .ok (.value v) w' ∧ ∃ ge ce, v = .slice (some ⟨ge, 0, none⟩) 1 ce ∧ w.heap.size ≤ ge ∧ EvAt w' ge kd id D n d ∧ Below w.heap.size w w' := by
 obtain ⟨i, zz, hi, hz, hzs, hs, hby⟩ := ev_parts
 obtain ⟨v', w', hrun, h2, h3, _, _⟩ := run_append_own_at (P := Tryz.prog) w w.heap.size 26 o.type 32 i zz 8 104 Tryz.underlying26 hi hz hs hby hzs (by omega) (.slice none 0 0) 0 [] (World.ownsRow_nil w _ _ _) ⟨g, 0, none⟩ 1 c [.int .i64 ((kd : Nat) : Int), .int .i64 ((id : Nat) : Int), .int .i64 ((0 : Nat) : Int), .int .i64 ((0 : Nat) : Int), .slice none (0) (0), .string ({ data := #[] }), .int .i64 ((0 : Nat) : Int), .slice D (n) (d)] rfl
  (fun j u hu => by
   rw [Addr.add_lit]
   refine (hB.cell _).trans ?_
   rw [Nat.zero_add, ← hu]
   simp) (by intro u hu; simp only [List.mem_cons, List.not_mem_nil, or_false] at hu; rcases hu with rfl | rfl | rfl | rfl | rfl | rfl | rfl | rfl <;> rfl) (by unfold maxLen; omega) (by omega) (Nat.le_refl _)
 rcases h2.2 with ⟨_, h0⟩ | ⟨ge, cap, cur, hv, hg, hh, hle, hmax, hsz, htake⟩
 ·omega
 ·subst hv
  refine ⟨_, w', ?_, ge, cap, rfl, hg, ⟨cur, hh, ?_⟩, ⟨h3.os, h3.tape, h3.output, h3.size, fun k hk => h3.block k hk (by simp [Value.ownBlock])⟩⟩
  ·simp only [execOp, ho, resolve, invoke, builtin, Sem.run_bind, Sem.run_pure, Result.andThen_ok, List.map_toArray, List.map_cons, List.map_nil, hx, hy, hrun]
  ·have h9 := fun j : Nat => congrArg (fun l : List Value => l[j]?) htake
   simp only [Nat.zero_add, Nat.one_mul, List.nil_append, List.getElem?_take, Array.getElem?_toList] at h9
   exact ⟨by simpa using h9 0, by simpa using h9 1, by simpa using h9 7⟩
end
theorem event_any {Ap Av : Option Addr} {cp cv gm g : Nat} {z : Int} {h D : Option Addr} {kd id n d : Nat} (w : World) (hB : Blk w g #[.int .i64 ((1 : Nat) : Int), .slice Ap (32) (cp), .slice Av (32) (cv), .string ({ data := #[] }), .string ({ data := #[] }), .int .i64 ((4 : Nat) : Int), .int .i64 ((500 : Nat) : Int), .int .i64 ((100 : Nat) : Int), .int .i64 (z), .map (some gm), .pointer h, .slice none (0) (0), .pointer none, .pointer none, .pointer none, .int .i64 ((0 : Nat) : Int), .slice none (0) (0)] 58) :
  Calls Tryz.prog 26 #[.pointer (some ⟨g, 0, none⟩), .int .i64 ((kd : Nat) : Int), .int .i64 ((id : Nat) : Int), .slice D (n) (d)] w fun e w' => ∃ ge ce, e = .returned (.tuple #[]) ∧ w.heap.size ≤ ge ∧ EvAt w' ge kd id D n d ∧ Blk w' g #[.int .i64 ((1 : Nat) : Int), .slice Ap (32) (cp), .slice Av (32) (cv), .string ({ data := #[] }), .string ({ data := #[] }), .int .i64 ((4 : Nat) : Int), .int .i64 ((500 : Nat) : Int), .int .i64 ((100 : Nat) : Int), .int .i64 (z), .map (some gm), .pointer h, .slice none (0) (0), .pointer none, .pointer none, .pointer none, .int .i64 ((0 : Nat) : Int), .slice ((some ⟨ge, 0, none⟩)) (1) (ce)] 58 ∧ BelowX (fun j => j = g) w w' := by
 refine x_enter 21 Tryz.func26 rfl rfl (fun a hs hd ha0 => ?_)
 have t0 : a.eval (.tmp 0) = .pointer (some ⟨g, 0, none⟩) := ha0 0 _ rfl
 have t1 : a.eval (.tmp 1) = .int .i64 ((kd : Nat) : Int) := ha0 1 _ rfl
 have t2 : a.eval (.tmp 2) = .int .i64 ((id : Nat) : Int) := ha0 2 _ rfl
 have t3 : a.eval (.tmp 3) = .slice D (n) (d) := ha0 3 _ rfl
 clear ha0
 have HB0 : BelowX (fun j => j = g) w w := BelowX.refl _ _
 refine x_region (by kernel_rfl) ?_
 refine q_mv ((pm rfl).trans t0) ?_
 refine q_mv ((pm rfl).trans t0) ?_
 refine q_nc (pe hs rfl rfl) ?_
 refine q_fa 16 (pe hs rfl rfl) ?_
 refine q_ld (v := .slice none (0) (0)) (pe hs rfl rfl) hB rfl ?_
 refine q_mv ((pm rfl).trans t1) ?_
 refine q_mv ((pm rfl).trans t2) ?_
 refine q_mv ((pm rfl).trans t3) ?_
 refine q_v 16 (.agg #[.int .i64 ((kd : Nat) : Int), .int .i64 ((id : Nat) : Int), .int .i64 ((0 : Nat) : Int), .int .i64 ((0 : Nat) : Int), .slice none (0) (0), .string ({ data := #[] }), .int .i64 ((0 : Nat) : Int), .slice D (n) (d)]) (o_bld (vs := #[(0, .int .i64 ((kd : Nat) : Int)), (1, .int .i64 ((id : Nat) : Int)), (4, .slice D (n) (d))]) (v := .agg #[.int .i64 ((kd : Nat) : Int), .int .i64 ((id : Nat) : Int), .int .i64 ((0 : Nat) : Int), .int .i64 ((0 : Nat) : Int), .slice none (0) (0), .string ({ data := #[] }), .int .i64 ((0 : Nat) : Int), .slice D (n) (d)]) rfl (bld3 (pe hs rfl rfl) (pe hs rfl rfl) (pe hs rfl rfl)) (fun _ => by kernel_rfl)) ?_
 refine op_ex (d := 17) rfl rfl (o_bldS (vs := #[(0, .agg #[.int .i64 ((kd : Nat) : Int), .int .i64 ((id : Nat) : Int), .int .i64 ((0 : Nat) : Int), .int .i64 ((0 : Nat) : Int), .slice none (0) (0), .string ({ data := #[] }), .int .i64 ((0 : Nat) : Int), .slice D (n) (d)])]) (cs := #[.int .i64 ((kd : Nat) : Int), .int .i64 ((id : Nat) : Int), .int .i64 ((0 : Nat) : Int), .int .i64 ((0 : Nat) : Int), .slice none (0) (0), .string ({ data := #[] }), .int .i64 ((0 : Nat) : Int), .slice D (n) (d)]) (e := 32) rfl (bld1 (pe hs rfl rfl)) (fun _ => by kernel_rfl)) (fun v_1 w_1 hR_1 => ?_)
 obtain ⟨g_1, rfl, hle_1, hB_1, hb_1⟩ := hR_1
 replace hB := hB.nx hb_1
 have HB_1 := HB0.then hb_1
 refine op_ex (d := 18) rfl rfl (o_appE (kd := kd) (id := id) (n := n) (d := d) (D := D) rfl (pe hs rfl rfl) (pe hs rfl rfl) hB_1) (fun v_2 w_2 hR_2 => ?_)
 obtain ⟨ge__1, ce_1, rfl, hl_1, hE_1, hb_2⟩ := hR_2
 have hge9 := Nat.le_trans HB_1.size hl_1
 have hne9 : ge__1 ≠ g := Nat.ne_of_gt (Nat.lt_of_lt_of_le hB.lt hl_1)
 replace hB := hB.nx hb_2
 have HB_2 := HB_1.then hb_2
 refine q_nc (pe hs rfl rfl) ?_
 refine q_fa 16 (pe hs rfl rfl) ?_
 refine op_do rfl rfl (o_store1 rfl (pe hs rfl rfl) (pe hs rfl rfl) rfl rfl hB (by simp only [List.length_cons, List.length_nil]; omega) ⟨by kernel_rfl, by kernel_rfl⟩) (fun w_3 hR_3 => ?_)
 obtain ⟨hB_2, hX_1⟩ := hR_3
 replace hE_1 := hE_1.keepX hX_1 hne9
 have HB_3 := HB_2.step hX_1 (fun k hk (hY : k = g) => hY)
 clear hB
 simp only [List.set_cons_zero, List.set_cons_succ] at hB_2
 refine x_nil ?_
 refine end0 rfl hd ?_
 exact ⟨ge__1, ce_1, rfl, hge9, hE_1, hB_2, HB_3⟩
theorem EvAt.nc {B : Nat} {W W' : World} {row : Option Nat} {ge kd id n d : Nat} {D : Option Addr} (h : EvAt W ge kd id D n d) (hg : W.grownBy W' row) (hr : RowNC B W row) : EvAt W' ge kd id D n d := by
 obtain ⟨cur, h1, h2⟩ := h
 exact ⟨cur, h1.nc hg hr, h2⟩
end Go.Proofs.YtodhdajelnfhpaaGreat
/-
 WALKS: the client: LineCut, Tick, Up, Len.
-/
namespace Go.Proofs.YtodhdajelnfhpaaGreat
open Go.RowKit
set_option linter.unusedVariables false
set_option linter.unusedSimpArgs false
set_option maxRecDepth 100000
attribute [local irreducible] wpList wpListIn putsR

theorem Up_any {M : Nat → Prop} {g : Nat} {pk sv : List Nat} {z : Int} {up : Bool} (w : World) (hC : ClientAt w M g pk sv up z) :
  Calls Tryz.prog 16 #[.pointer (some ⟨g, 0, none⟩)] w fun e w' => e = .returned (.bool false) ∧ w = w' := by
 obtain ⟨hlt, hpl, hsl, Ap, cp, Av, cv, gm, h, hB, hu, hwp, hwv, hM, hMg, hMm, hMp, hMv⟩ := hC
 refine x_enter 12 Tryz.func16 rfl rfl (fun a hs hd ha0 => ?_)
 have t0 : a.eval (.tmp 0) = .pointer (some ⟨g, 0, none⟩) := ha0 0 _ rfl
 clear ha0
 refine w2_sr (fun K_1 hK_1 => ?_)
 refine q_as (.bool (false)) rfl ?_
 refine x_nil (hK_1 _ _ ?_)
 refine w2_sr (fun K_2 hK_2 => ?_)
 refine q_mv ((pm rfl).trans t0) ?_
 refine q_v 4 (.bool (true)) (o_nilN (b := false) rfl (pe hs rfl rfl) rfl rfl ⟨58, fun _ => by kernel_rfl⟩) ?_
 refine q_mv (pe hs rfl rfl) ?_
 refine op_valG (e := 5) (d := 6) (v := .pointer (some ⟨g, 0, none⟩)) rfl rfl (by kernel_rfl) (pe hs rfl rfl) (o_move rfl ((pm rfl).trans t0)) ?_
 refine op_valG (e := 5) (d := 7) (v := .pointer (some ⟨g, 0, none⟩)) rfl rfl (by kernel_rfl) (pe hs rfl rfl) (o_nilCheck rfl (pe hs rfl rfl)) ?_
 refine op_valG (e := 5) (d := 8) (v := .pointer (some ⟨g, 12, none⟩)) rfl rfl (by kernel_rfl) (pe hs rfl rfl) (o_field (k' := 12) rfl (pe hs rfl rfl) (fun _ => by kernel_rfl)) ?_
 refine op_valG (e := 5) (d := 9) (v := .pointer none) rfl rfl (by kernel_rfl) (pe hs rfl rfl) (o_load1 rfl (pe hs rfl rfl) hB rfl ⟨by kernel_rfl, by kernel_rfl⟩) ?_
 refine op_valG (e := 5) (d := 10) (v := .bool (false)) rfl rfl (by kernel_rfl) (pe hs rfl rfl) (o_nilN (b := true) rfl (pe hs rfl rfl) rfl rfl ⟨170, fun _ => by kernel_rfl⟩) ?_
 refine q_v 11 (.bool (false)) (o_pickT rfl (pe hs rfl rfl) (pe hs rfl rfl)) ?_
 refine q_at (pe hs rfl rfl) ?_
 refine x_nil (hK_2 _ _ ?_)
 refine w2_ret ?_
 refine ret1 rfl hd (pe hs rfl rfl) ?_
 exact ⟨rfl, rfl⟩
theorem Len_any {M : Nat → Prop} {g : Nat} {pk sv : List Nat} {z : Int} {up : Bool} (w : World) (hC : ClientAt w M g pk sv up z) :
  Calls Tryz.prog 15 #[.pointer (some ⟨g, 0, none⟩)] w fun e w' => e = .returned (.int .i64 ((0 : Nat) : Int)) ∧ w = w' := by
 obtain ⟨hlt, hpl, hsl, Ap, cp, Av, cv, gm, h, hB, hu, hwp, hwv, hM, hMg, hMm, hMp, hMv⟩ := hC
 refine x_enter 10 Tryz.func15 rfl rfl (fun a hs hd ha0 => ?_)
 have t0 : a.eval (.tmp 0) = .pointer (some ⟨g, 0, none⟩) := ha0 0 _ rfl
 clear ha0
 refine w2_sr (fun K_1 hK_1 => ?_)
 refine q_as (.int .i64 ((0 : Nat) : Int)) rfl ?_
 refine x_nil (hK_1 _ _ ?_)
 refine w2_seq (fun K_2 hK_2 => ?_)
 refine w2_sr (fun K_3 hK_3 => ?_)
 refine q_mv ((pm rfl).trans t0) ?_
 refine q_v 4 (.bool (false)) (o_nil (b := false) rfl (pe hs rfl rfl) rfl rfl ⟨58, fun _ => by kernel_rfl⟩) ?_
 refine x_nil (hK_3 _ _ ?_)
 refine w2_condF (pe hs rfl rfl) ?_
 refine w2_skip ?_
 refine hK_2 _ _ ?_
 refine w2_sr (fun K_4 hK_4 => ?_)
 refine q_mv ((pm rfl).trans t0) ?_
 refine q_nc (pe hs rfl rfl) ?_
 refine q_fa 9 (pe hs rfl rfl) ?_
 refine q_ld (v := .map (some gm)) (pe hs rfl rfl) hB rfl ?_
 refine q_v 9 (.int .i64 ((0 : Nat) : Int)) (o_lenM (kt := 3) (et := 65) rfl (pe hs rfl rfl) (by kernel_rfl) hM) ?_
 refine q_at (v := .int .i64 ((0 : Nat) : Int)) (pe hs rfl rfl) ?_
 refine x_nil (hK_4 _ _ ?_)
 refine w2_ret ?_
 refine ret1 rfl hd (pe hs rfl rfl) ?_
 exact ⟨rfl, rfl⟩
end Go.Proofs.YtodhdajelnfhpaaGreat
/-
 WALKS: the client: Dial.
-/
namespace Go.Proofs.YtodhdajelnfhpaaGreat
open Go.RowKit
set_option linter.unusedVariables false
set_option linter.unusedSimpArgs false
set_option maxRecDepth 100000
attribute [local irreducible] wpList wpListIn putsR

theorem no_new {w : World} {M N : Nat → Prop} {j : Nat} (hl : Lt w M) (hg : Ge w N) (hm : M j) : ¬ N j := fun h => absurd (hl j hm) (Nat.not_lt.2 (hg j h))
def TupC (w0 : World) (st : HS) (w : World) (v : Value) : Prop := ∃ (M : Nat → Prop) (g : Nat), v = .tuple #[.pointer (some ⟨g, 0, none⟩), .int .i64 ((0 : Nat) : Int)] ∧ HandAt w M g st ∧ Ge w0 M
theorem stTupC {w0 : World} {st : HS} : StP (TupC w0 st) := fun _ _ _ ⟨M, g, hv, h, hg⟩ hb => ⟨M, g, hv, h.nx hb, hg⟩
def PtrC (w0 : World) (st : HS) (w : World) (v : Value) : Prop := ∃ (M : Nat → Prop) (g : Nat), v = .pointer (some ⟨g, 0, none⟩) ∧ HandAt w M g st ∧ Ge w0 M
theorem stPtrC {w0 : World} {st : HS} : StP (PtrC w0 st) := fun _ _ _ ⟨M, g, hv, h, hg⟩ hb => ⟨M, g, hv, h.nx hb, hg⟩
/-- A row of two slices, the first one of the region's own. -/
def Row2 (B : Nat) (ys : List Nat) (x : Value) (w : World) (v : Value) : Prop := ∃ (g : Nat) (A : Option Addr) (c : Nat), v = .slice (some ⟨g, 0, none⟩) 2 2 ∧ Blk w g #[.slice A 2 c, x] 22 ∧ Own w B A c ys
theorem stRow2 {B : Nat} {ys : List Nat} {x : Value} : StP (Row2 B ys x) := fun _ _ _ ⟨g, A, c, hv, h, hg⟩ hb => ⟨g, A, c, hv, h.nx hb, hg.nx hb⟩
set_option maxHeartbeats 1000000 in
theorem Dial_ok {M : Nat → Prop} {g : Nat} {pk sv : List Nat} {z : Int} {A0 : Option Addr} {c0 q : Nat} {key : List Nat} {n : Int} (w : World) (hC : ClientAt w M g pk sv false z) {m : Nat} (hn : okT n) (h0 : Bs w A0 c0 key) (hq : key.length = q) (b1 : q ≤ 100000000) (hsn : ¬ ell ∣ m) (hsu : numL sv = plN m) :
  Calls Tryz.prog 8 #[.pointer (some ⟨g, 0, none⟩), .slice A0 (q) (c0), .int .i64 (n)] w fun e w' => ∃ ge ce D d, e = .returned (.slice (some ⟨ge, 0, none⟩) 1 ce) ∧ w.heap.size ≤ ge ∧ EvAt w' ge 1 0 D (2 + (32 + (8 + 16))) d ∧ Own w' w.heap.size D d ([0, 1] ++ (pubL (shaL key) ++ outS (firstS (shaL nameS) (shaL (shaL (shaL nameS ++ [0, 1]) ++ sv)) pk (pubL (shaL key)) (dhL (shaL key) m)) (numZ n 8))) ∧ ClientAt w' M g pk sv true n ∧ BelowX M w w' := by
 obtain ⟨hlt, hpl, hsl, Ap, cp, Av, cv, gm, h, hB, hu, hwp, hwv, hM, hMg, hMm, hMp, hMv⟩ := hC
 obtain rfl : h = none := by cases h; rfl; cases hu
 simp only [hp] at hB
 refine x_enter 80 Tryz.func8 rfl rfl (fun a hs hd ha0 => ?_)
 have t0 : a.eval (.tmp 0) = .pointer (some ⟨g, 0, none⟩) := ha0 0 _ rfl
 have t1 : a.eval (.tmp 1) = .slice A0 (q) (c0) := ha0 1 _ rfl
 have t2 : a.eval (.tmp 2) = .int .i64 (n) := ha0 2 _ rfl
 clear ha0
 have HB0 : BelowX (fun j => j = g) w w := BelowX.refl _ _
 refine w2_sr (fun K_1 hK_1 => ?_)
 refine q_as (.slice none (0) (0)) rfl ?_
 refine x_nil (hK_1 _ _ ?_)
 refine w2_seq (fun K_2 hK_2 => ?_)
 refine w2_sr (fun K_3 hK_3 => ?_)
 refine q_mv ((pm rfl).trans t0) ?_
 refine q_v 12 (.bool (false)) (o_nil (b := false) rfl (pe hs rfl rfl) rfl rfl ⟨58, fun _ => by kernel_rfl⟩) ?_
 refine q_mv (pe hs rfl rfl) ?_
 refine op_valG (e := 13) (d := 14) (v := .pointer (some ⟨g, 0, none⟩)) rfl rfl (by kernel_rfl) (pe hs rfl rfl) (o_move rfl ((pm rfl).trans t0)) ?_
 refine op_callG (e := 13) (vs := #[.pointer (some ⟨g, 0, none⟩)]) rfl rfl (by kernel_rfl) (pe hs rfl rfl) (exec_call Tryz.func20 (by kernel_rfl) (by kernel_rfl) _ rfl _ _ (args1 (pe hs rfl rfl))) (session_0 _ hB) (fun e_1 w_1 hR_1 => ?_)
 obtain ⟨rfl, rfl⟩ := hR_1
 refine ⟨_, rfl, ?_⟩
 refine q_v 16 (.bool (false)) (o_pickF rfl (pe hs rfl rfl) (pe hs rfl rfl)) ?_
 refine q_mv (pe hs rfl rfl) ?_
 refine op_valG (e := 17) (d := 18) (v := .int .i64 (n)) rfl rfl (by kernel_rfl) (pe hs rfl rfl) (o_move rfl ((pm rfl).trans t2)) ?_
 refine op_callG (e := 17) (vs := #[.int .i64 (n)]) rfl rfl (by kernel_rfl) (pe hs rfl rfl) (exec_call Tryz.func21 (by kernel_rfl) (by kernel_rfl) _ rfl _ _ (args1 (pe hs rfl rfl))) (time_any (n) _) (fun e_2 w_2 hR_2 => ?_)
 obtain ⟨rfl, rfl⟩ := hR_2
 refine ⟨_, rfl, ?_⟩
 refine op_valG (e := 17) (d := 20) (v := .bool (false)) rfl rfl (by kernel_rfl) (pe hs rfl rfl) (o_eq (o_not (b := decide (okT (n))) rfl (pe hs rfl rfl)) (by rw [decide_eq_true hn]; rfl)) ?_
 refine q_v 21 (.bool (false)) (o_pickF rfl (pe hs rfl rfl) (pe hs rfl rfl)) ?_
 refine x_nil (hK_3 _ _ ?_)
 refine w2_condF (pe hs rfl rfl) ?_
 refine w2_skip ?_
 refine hK_2 _ _ ?_
 refine w2_seq (fun K_4 hK_4 => ?_)
 refine x_drawn2 19 [fun _ v => v = .pointer (some ⟨g, 0, none⟩), fun _ v => v = .pointer (some ⟨g, 0, none⟩), fun _ v => v = .pointer (some ⟨g, 0, none⟩), fun _ v => v = .int .i64 ((1 : Nat) : Int), fun _ v => v = .pointer (some ⟨g, 0, none⟩), fun _ v => v = .pointer (some ⟨g, 0, none⟩), fun _ v => v = .pointer (some ⟨g, 1, none⟩), fun _ v => v = .slice Ap (32) (cp), fun _ v => v = .pointer (some ⟨g, 0, none⟩), fun _ v => v = .pointer (some ⟨g, 0, none⟩), fun _ v => v = .pointer (some ⟨g, 2, none⟩), fun _ v => v = .slice Av (32) (cv), fun _ v => v = .slice A0 (q) (c0), fun ww vv => OwnN w.heap.size (32) (shaL key) ww vv, fun ww vv => TupC w ⟨shaL nameS, shaL (shaL (shaL nameS ++ [0, 1]) ++ sv), pk, shaL key, pubL (shaL key), sv, [], true, false, 0⟩ ww vv, fun ww vv => TupC w ⟨shaL nameS, shaL (shaL (shaL nameS ++ [0, 1]) ++ sv), pk, shaL key, pubL (shaL key), sv, [], true, false, 0⟩ ww vv, fun ww vv => PtrC w ⟨shaL nameS, shaL (shaL (shaL nameS ++ [0, 1]) ++ sv), pk, shaL key, pubL (shaL key), sv, [], true, false, 0⟩ ww vv, fun _ v => v = .int .i64 ((0 : Nat) : Int), fun ww vv => PtrC w ⟨shaL nameS, shaL (shaL (shaL nameS ++ [0, 1]) ++ sv), pk, shaL key, pubL (shaL key), sv, [], true, false, 0⟩ ww vv] [23, 24, 25, 26, 27, 28, 29, 30, 31, 32, 33, 34, 35, 36, 37, 22, 38, 39, 7] hs hd (by kernel_rfl) (by kernel_rfl) (by kernel_rfl) (by kernel_rfl) (by kernel_rfl) ⟨stLit, stLit, stLit, stLit, stLit, stLit, stLit, stLit, stLit, stLit, stLit, stLit, stLit, stOwn, stTupC, stTupC, stPtrC, stLit, stPtrC, trivial⟩ ⟨(step_ok rfl (fun a' w' hb' hO hD => by
   have d_1 := (hO 0 (by decide)).trans ((pm rfl).trans t0)
   exact .inl ⟨_, _, (o_move rfl d_1), rfl, Below.refl _ _⟩)),
(step_ok rfl (fun a' w' hb' hO hD => by
   have d_2 : a'.eval (.tmp 23) = .pointer (some ⟨g, 0, none⟩) := hD 0 23 (by kernel_rfl) rfl
   exact .inl ⟨_, _, (o_nilCheck rfl d_2), rfl, Below.refl _ _⟩)),
(step_ok rfl (fun a' w' hb' hO hD => by
   have d_3 : a'.eval (.tmp 24) = .pointer (some ⟨g, 0, none⟩) := hD 1 24 (by kernel_rfl) rfl
   exact .inl ⟨_, _, (o_field (k' := 0) rfl d_3 (fun _ => by kernel_rfl)), rfl, Below.refl _ _⟩)),
(step_ok rfl (fun a' w' hb' hO hD => by
   have d_4 : a'.eval (.tmp 25) = .pointer (some ⟨g, 0, none⟩) := hD 2 25 (by kernel_rfl) rfl
   exact .inl ⟨_, _, (o_load1 rfl d_4 (hB.nx hb') rfl ⟨by kernel_rfl, by kernel_rfl⟩), rfl, Below.refl _ _⟩)),
(step_ok rfl (fun a' w' hb' hO hD => by
   have d_5 := (hO 0 (by decide)).trans ((pm rfl).trans t0)
   exact .inl ⟨_, _, (o_move rfl d_5), rfl, Below.refl _ _⟩)),
(step_ok rfl (fun a' w' hb' hO hD => by
   have d_6 : a'.eval (.tmp 27) = .pointer (some ⟨g, 0, none⟩) := hD 4 27 (by kernel_rfl) rfl
   exact .inl ⟨_, _, (o_nilCheck rfl d_6), rfl, Below.refl _ _⟩)),
(step_ok rfl (fun a' w' hb' hO hD => by
   have d_7 : a'.eval (.tmp 28) = .pointer (some ⟨g, 0, none⟩) := hD 5 28 (by kernel_rfl) rfl
   exact .inl ⟨_, _, (o_field (k' := 1) rfl d_7 (fun _ => by kernel_rfl)), rfl, Below.refl _ _⟩)),
(step_ok rfl (fun a' w' hb' hO hD => by
   have d_8 : a'.eval (.tmp 29) = .pointer (some ⟨g, 1, none⟩) := hD 6 29 (by kernel_rfl) rfl
   exact .inl ⟨_, _, (o_load1 rfl d_8 (hB.nx hb') rfl ⟨by kernel_rfl, by kernel_rfl⟩), rfl, Below.refl _ _⟩)),
(step_ok rfl (fun a' w' hb' hO hD => by
   have d_9 := (hO 0 (by decide)).trans ((pm rfl).trans t0)
   exact .inl ⟨_, _, (o_move rfl d_9), rfl, Below.refl _ _⟩)),
(step_ok rfl (fun a' w' hb' hO hD => by
   have d_10 : a'.eval (.tmp 31) = .pointer (some ⟨g, 0, none⟩) := hD 8 31 (by kernel_rfl) rfl
   exact .inl ⟨_, _, (o_nilCheck rfl d_10), rfl, Below.refl _ _⟩)),
(step_ok rfl (fun a' w' hb' hO hD => by
   have d_11 : a'.eval (.tmp 32) = .pointer (some ⟨g, 0, none⟩) := hD 9 32 (by kernel_rfl) rfl
   exact .inl ⟨_, _, (o_field (k' := 2) rfl d_11 (fun _ => by kernel_rfl)), rfl, Below.refl _ _⟩)),
(step_ok rfl (fun a' w' hb' hO hD => by
   have d_12 : a'.eval (.tmp 33) = .pointer (some ⟨g, 2, none⟩) := hD 10 33 (by kernel_rfl) rfl
   exact .inl ⟨_, _, (o_load1 rfl d_12 (hB.nx hb') rfl ⟨by kernel_rfl, by kernel_rfl⟩), rfl, Below.refl _ _⟩)),
(step_ok rfl (fun a' w' hb' hO hD => by
   have d_13 := (hO 1 (by decide)).trans ((pm rfl).trans t1)
   exact .inl ⟨_, _, (o_move rfl d_13), rfl, Below.refl _ _⟩)),
(step_ok rfl (fun a' w' hb' hO hD => by
   have d_14 : a'.eval (.tmp 35) = .slice A0 (q) (c0) := hD 12 35 (by kernel_rfl) rfl
   exact .inr ⟨_, #[.slice A0 (q) (c0)], (exec_call Tryz.func23 (by kernel_rfl) (by kernel_rfl) _ rfl _ _ (args1 d_14)), Calls.mono (Sum_sha _ (h0.nx hb') hq (by omega)) (fun e w'' hR => by obtain ⟨A_1, c_1, rfl, ho_1, hb_3⟩ := hR; exact ⟨_, rfl, ⟨_, _, rfl, ho_1.mono hb'.size⟩, hb_3⟩)⟩)),
(step_ok rfl (fun a' w' hb' hO hD => by
   have d_15 : a'.eval (.tmp 26) = .int .i64 ((1 : Nat) : Int) := hD 3 26 (by kernel_rfl) rfl
   have d_16 : a'.eval (.tmp 30) = .slice Ap (32) (cp) := hD 7 30 (by kernel_rfl) rfl
   have d_17 : a'.eval (.tmp 34) = .slice Av (32) (cv) := hD 11 34 (by kernel_rfl) rfl
   have d_18 := hD 13 36 (by kernel_rfl) rfl
   obtain ⟨A_2, c_2, hv_1, hO_1⟩ := d_18
   exact .inr ⟨_, #[.int .i64 ((1 : Nat) : Int), .slice Ap (32) (cp), .slice Av (32) (cv), .slice A_2 (32) (c_2)], (exec_call Tryz.func22 (by kernel_rfl) (by kernel_rfl) _ rfl _ _ (args4 d_15 d_16 d_17 hv_1)), Calls.mono (Ask_any 1 _ ((hwp.nx hb')).bs hpl ((hwv.nx hb')).bs hsl (hO_1).bs (shaL_length _) (by decide)) (fun e w'' hR => by obtain ⟨M9, g9, rfl, hH9, hge9, hb9⟩ := hR; exact ⟨_, rfl, ⟨M9, g9, rfl, hH9, hge9.down hb'.size⟩, hb9⟩)⟩)),
(step_ok rfl (fun a' w' hb' hO hD => by
   have d_19 := hD 14 37 (by kernel_rfl) rfl
   obtain ⟨M_1, gh_1, hv_2, hH_1, hge_1⟩ := d_19
   exact .inl ⟨_, _, (o_move rfl hv_2), ⟨_, _, rfl, hH_1, hge_1⟩, Below.refl _ _⟩)),
(step_ok rfl (fun a' w' hb' hO hD => by
   have d_20 := hD 15 22 (by kernel_rfl) rfl
   obtain ⟨M_2, gh_2, hv_3, hH_2, hge_2⟩ := d_20
   exact .inl ⟨_, _, (o_extract rfl hv_3 rfl), ⟨_, _, rfl, hH_2, hge_2⟩, Below.refl _ _⟩)),
(step_ok rfl (fun a' w' hb' hO hD => by
   have d_21 := hD 15 22 (by kernel_rfl) rfl
   obtain ⟨M_3, gh_3, hv_4, hH_3, hge_3⟩ := d_21
   exact .inl ⟨_, _, (o_extract rfl hv_4 rfl), rfl, Below.refl _ _⟩)),
(step_ok rfl (fun a' w' hb' hO hD => by
   have d_22 := hD 16 38 (by kernel_rfl) rfl
   obtain ⟨M_4, gh_4, hv_5, hH_4, hge_4⟩ := d_22
   exact .inl ⟨_, _, (o_assign rfl hv_5), ⟨_, _, rfl, hH_4, hge_4⟩, Below.refl _ _⟩)), trivial⟩ (fun a_1 w_3 hs_1 hd_1 hb_4 hO_2 hV_1 => ?_)
 have ta_1_0 := (hO_2 0 (by decide)).trans ((pm rfl).trans t0)
 have ta_1_1 := (hO_2 1 (by decide)).trans ((pm rfl).trans t1)
 have ta_1_2 := (hO_2 2 (by decide)).trans ((pm rfl).trans t2)
 have ta_1_6 : a_1.eval (.tmp 6) = .slice none (0) (0) := (hO_2 6 (by decide)).trans (pe hs rfl rfl)
 have ta_1_11 : a_1.eval (.tmp 11) = .pointer (some ⟨g, 0, none⟩) := (hO_2 11 (by decide)).trans (pe hs rfl rfl)
 have ta_1_12 : a_1.eval (.tmp 12) = .bool (false) := (hO_2 12 (by decide)).trans (pe hs rfl rfl)
 have ta_1_13 : a_1.eval (.tmp 13) = .bool (false) := (hO_2 13 (by decide)).trans (pe hs rfl rfl)
 have ta_1_14 : a_1.eval (.tmp 14) = .pointer (some ⟨g, 0, none⟩) := (hO_2 14 (by decide)).trans (pe hs rfl rfl)
 have ta_1_15 : a_1.eval (.tmp 15) = .bool (false) := (hO_2 15 (by decide)).trans (pe hs rfl rfl)
 have ta_1_16 : a_1.eval (.tmp 16) = .bool (false) := (hO_2 16 (by decide)).trans (pe hs rfl rfl)
 have ta_1_17 : a_1.eval (.tmp 17) = .bool (false) := (hO_2 17 (by decide)).trans (pe hs rfl rfl)
 have ta_1_18 : a_1.eval (.tmp 18) = .int .i64 (n) := (hO_2 18 (by decide)).trans (pe hs rfl rfl)
 have ta_1_19 : a_1.eval (.tmp 19) = .bool (decide (okT (n))) := (hO_2 19 (by decide)).trans (pe hs rfl rfl)
 have ta_1_20 : a_1.eval (.tmp 20) = .bool (false) := (hO_2 20 (by decide)).trans (pe hs rfl rfl)
 have ta_1_21 : a_1.eval (.tmp 21) = .bool (false) := (hO_2 21 (by decide)).trans (pe hs rfl rfl)
 clear t0 t1 t2 hd
 replace hB := hB.nx hb_4
 replace hM := hM.nx hb_4
 replace hwp := hwp.nx hb_4
 replace hwv := hwv.nx hb_4
 replace h0 := h0.nx hb_4
 have HB_1 := HB0.then hb_4
 have ta_1_23 : a_1.eval (.tmp 23) = .pointer (some ⟨g, 0, none⟩) := hV_1 0 23 rfl rfl
 have ta_1_24 : a_1.eval (.tmp 24) = .pointer (some ⟨g, 0, none⟩) := hV_1 1 24 rfl rfl
 have ta_1_25 : a_1.eval (.tmp 25) = .pointer (some ⟨g, 0, none⟩) := hV_1 2 25 rfl rfl
 have ta_1_26 : a_1.eval (.tmp 26) = .int .i64 ((1 : Nat) : Int) := hV_1 3 26 rfl rfl
 have ta_1_27 : a_1.eval (.tmp 27) = .pointer (some ⟨g, 0, none⟩) := hV_1 4 27 rfl rfl
 have ta_1_28 : a_1.eval (.tmp 28) = .pointer (some ⟨g, 0, none⟩) := hV_1 5 28 rfl rfl
 have ta_1_29 : a_1.eval (.tmp 29) = .pointer (some ⟨g, 1, none⟩) := hV_1 6 29 rfl rfl
 have ta_1_30 : a_1.eval (.tmp 30) = .slice Ap (32) (cp) := hV_1 7 30 rfl rfl
 have ta_1_31 : a_1.eval (.tmp 31) = .pointer (some ⟨g, 0, none⟩) := hV_1 8 31 rfl rfl
 have ta_1_32 : a_1.eval (.tmp 32) = .pointer (some ⟨g, 0, none⟩) := hV_1 9 32 rfl rfl
 have ta_1_33 : a_1.eval (.tmp 33) = .pointer (some ⟨g, 2, none⟩) := hV_1 10 33 rfl rfl
 have ta_1_34 : a_1.eval (.tmp 34) = .slice Av (32) (cv) := hV_1 11 34 rfl rfl
 have ta_1_35 : a_1.eval (.tmp 35) = .slice A0 (q) (c0) := hV_1 12 35 rfl rfl
 have x_1 := hV_1 13 36 rfl rfl
 obtain ⟨A_3, c_3, hv_6, hO_3⟩ := x_1
 replace hO_3 := hO_3.mono HB0.size
 have x_2 := hV_1 14 37 rfl rfl
 obtain ⟨M_5, gh_5, hv_7, hH_5, hge_5⟩ := x_2
 have x_3 := hV_1 15 22 rfl rfl
 obtain ⟨M_6, gh_6, hv_8, hH_6, hge_6⟩ := x_3
 have x_4 := hV_1 16 38 rfl rfl
 obtain ⟨M_7, gh_7, hv_9, hH_7, hge_7⟩ := x_4
 have ta_1_39 : a_1.eval (.tmp 39) = .int .i64 ((0 : Nat) : Int) := hV_1 17 39 rfl rfl
 have x_5 := hV_1 18 7 rfl rfl
 obtain ⟨M_8, gh_8, hv_10, hH_8, hge_8⟩ := x_5
 clear hV_1 hO_2
 simp only [List.drop_succ_cons, List.drop_zero]
 refine q_at (v := .int .i64 ((0 : Nat) : Int)) ((pm rfl).trans ta_1_39) ?_
 refine x_nil (hK_4 _ _ ?_)
 refine w2_sr (fun K_5 hK_5 => ?_)
 refine q_mv ((pm rfl).trans hv_10) ?_
 refine q_mv ((pm rfl).trans ta_1_2) ?_
 refine q_ca (vs := #[.int .i64 (n)]) Tryz.func25 (args1 (pe hs_1 rfl rfl)) (number_any (n) _) (fun e_3 w_4 hR_3 => ?_)
 obtain ⟨A_4, c_4, rfl, ho_2, hb_5⟩ := hR_3
 replace ho_2 := ho_2.mono HB_1.size
 replace hB := hB.nx hb_5
 replace hM := hM.nx hb_5
 replace hwp := hwp.nx hb_5
 replace hwv := hwv.nx hb_5
 replace h0 := h0.nx hb_5
 replace hO_3 := hO_3.nx hb_5
 replace hH_5 := hH_5.nx hb_5
 replace hH_6 := hH_6.nx hb_5
 replace hH_7 := hH_7.nx hb_5
 replace hH_8 := hH_8.nx hb_5
 have HB_2 := HB_1.then hb_5
 refine ⟨_, rfl, ?_⟩
 refine q_ca (vs := #[.pointer (some ⟨gh_8, 0, none⟩), .slice A_4 (8) (c_4)]) Tryz.func24 (args2 (pe hs_1 rfl rfl) (pe hs_1 rfl rfl)) (Write_first _ hH_8 (ho_2).bs (numZ_length _ _) (by omega) hsn hsu) (fun e_4 w_5 hR_4 => ?_)
 obtain ⟨A_5, c_5, rfl, ho_3, _, hX_1⟩ := hR_4
 replace ho_3 := ho_3.mono HB_2.size
 replace hB := hX_1.blk hB (no_new hlt hge_8 hMg)
 replace hM := hM.keepM hX_1 (no_new hlt hge_8 hMm)
 replace hwp := hwp.keep (hX_1.kept hwp.lt (fun j hj => no_new hlt hge_8 (hMp j hj)))
 replace hwv := hwv.keep (hX_1.kept hwv.lt (fun j hj => no_new hlt hge_8 (hMv j hj)))
 have HB_3 := HB_2.step hX_1 (fun k hk hY => absurd hk (Nat.not_lt.2 (hge_8 k hY)))
 have hl_1 : (pubL (shaL key) ++ outS (firstS (shaL nameS) (shaL (shaL (shaL nameS ++ [0, 1]) ++ sv)) pk (pubL (shaL key)) (dhL (shaL key) m)) (numZ n 8)).length = 32 + (8 + 16) := by rw [List.length_append, outS_length, pubL_length, numZ_length]
 refine ⟨_, rfl, ?_⟩
 refine q_mv (pe hs_1 rfl rfl) ?_
 refine q_ex (v := .slice A_5 (32 + (8 + 16)) (c_5)) (pe hs_1 rfl rfl) rfl ?_
 refine q_ex (v := .int .i64 ((0 : Nat) : Int)) (pe hs_1 rfl rfl) rfl ?_
 refine q_at (pe hs_1 rfl rfl) ?_
 refine q_at (v := .int .i64 ((0 : Nat) : Int)) (pe hs_1 rfl rfl) ?_
 refine x_nil (hK_5 _ _ ?_)
 refine w2_seq (fun K_6 hK_6 => ?_)
 refine w2_sr (fun K_7 hK_7 => ?_)
 refine q_mv (v := .int .i64 ((0 : Nat) : Int)) (pe hs_1 rfl rfl) ?_
 refine q_v 48 (.bool (false)) (o_eq (o_neq (m := 0) (n := 0) rfl (pe hs_1 rfl rfl) rfl) rfl) ?_
 refine q_mv (pe hs_1 rfl rfl) ?_
 refine op_valG (e := 49) (d := 50) (v := .int .i64 ((0 : Nat) : Int)) rfl rfl (by kernel_rfl) (pe hs_1 rfl rfl) (o_move rfl (pe hs_1 rfl rfl)) ?_
 refine op_valG (e := 49) (d := 51) (v := .bool (false)) rfl rfl (by kernel_rfl) (pe hs_1 rfl rfl) (o_eq (o_neq (m := 0) (n := 0) rfl (pe hs_1 rfl rfl) rfl) rfl) ?_
 refine q_v 52 (.bool (false)) (o_pickF rfl (pe hs_1 rfl rfl) (pe hs_1 rfl rfl)) ?_
 refine x_nil (hK_7 _ _ ?_)
 refine w2_condF (pe hs_1 rfl rfl) ?_
 refine w2_skip ?_
 refine hK_6 _ _ ?_
 refine w2_sr (fun K_8 hK_8 => ?_)
 refine q_mv ((pm rfl).trans ta_1_0) ?_
 refine q_mv ((pm rfl).trans ta_1_0) ?_
 refine q_mv ((pm rfl).trans hv_10) ?_
 refine q_mv ((pm rfl).trans ta_1_2) ?_
 refine q_nc (pe hs_1 rfl rfl) ?_
 refine q_fa 10 (pe hs_1 rfl rfl) ?_
 refine op_do rfl rfl (o_store1 rfl (pe hs_1 rfl rfl) (pe hs_1 rfl rfl) rfl rfl hB (by simp only [List.length_cons, List.length_nil]; omega) ⟨by kernel_rfl, by kernel_rfl⟩) (fun w_6 hR_5 => ?_)
 obtain ⟨hB_1, hX_2⟩ := hR_5
 replace hM := hM.keepM hX_2 (hM.ne hB)
 replace hwp := hwp.keepX hB (by decide) hX_2
 replace hwv := hwv.keepX hB (by decide) hX_2
 replace ho_3 := ho_3.keepX hB (by decide) hX_2
 have HB_4 := HB_3.step hX_2 (fun k hk (hY : k = g) => hY)
 clear hB
 simp only [List.set_cons_zero, List.set_cons_succ] at hB_1
 refine q_nc (pe hs_1 rfl rfl) ?_
 refine q_fa 8 (pe hs_1 rfl rfl) ?_
 refine op_do rfl rfl (o_store1 rfl (pe hs_1 rfl rfl) (pe hs_1 rfl rfl) rfl rfl hB_1 (by simp only [List.length_cons, List.length_nil]; omega) ⟨by kernel_rfl, by kernel_rfl⟩) (fun w_7 hR_6 => ?_)
 obtain ⟨hB_2, hX_3⟩ := hR_6
 replace hM := hM.keepM hX_3 (hM.ne hB_1)
 replace hwp := hwp.keepX hB_1 (by decide) hX_3
 replace hwv := hwv.keepX hB_1 (by decide) hX_3
 replace ho_3 := ho_3.keepX hB_1 (by decide) hX_3
 have HB_5 := HB_4.step hX_3 (fun k hk (hY : k = g) => hY)
 clear hB_1
 simp only [List.set_cons_zero, List.set_cons_succ] at hB_2
 refine x_nil (hK_8 _ _ ?_)
 refine w2_seq (fun K_9 hK_9 => ?_)
 refine x_drawn 16 [fun _ v => v = .pointer (some ⟨g, 0, none⟩), fun _ v => v = .pointer (some ⟨g, 0, none⟩), fun _ v => v = .pointer (some ⟨g, 0, none⟩), fun _ v => v = .pointer (some ⟨g, 0, none⟩), fun _ v => v = .int .i64 ((1 : Nat) : Int), fun _ v => v = .int .i64 ((0 : Nat) : Int), fun _ v => v = .int .u8 ((0 : Nat) : Int), fun _ v => v = .pointer (some ⟨g, 0, none⟩), fun _ v => v = .pointer (some ⟨g, 0, none⟩), fun _ v => v = .pointer (some ⟨g, 0, none⟩), fun _ v => v = .int .i64 ((1 : Nat) : Int), fun _ v => v = .int .u8 ((1 : Nat) : Int), fun ww vv => OwnN w_7.heap.size 2 [0, 1] ww vv, fun _ v => v = .slice A_5 (32 + (8 + 16)) (c_5), fun ww vv => Row2 w_7.heap.size [0, 1] (.slice A_5 (32 + (8 + 16)) (c_5)) ww vv, fun ww vv => OwnN w_7.heap.size (2 + (32 + (8 + 16))) (([0, 1]) ++ (pubL (shaL key) ++ outS (firstS (shaL nameS) (shaL (shaL (shaL nameS ++ [0, 1]) ++ sv)) pk (pubL (shaL key)) (dhL (shaL key) m)) (numZ n 8))) ww vv] [61, 62, 63, 64, 65, 66, 67, 68, 69, 70, 71, 72, 73, 74, 75, 76] hs_1 hd_1 (by kernel_rfl) (by kernel_rfl) (by kernel_rfl) (by kernel_rfl) (by kernel_rfl) ⟨stLit, stLit, stLit, stLit, stLit, stLit, stLit, stLit, stLit, stLit, stLit, stLit, stOwn, stLit, stRow2, stOwn, trivial⟩ ⟨(step_ok rfl (fun a' w' hb' hO hD => by
   have d_23 := (hO 0 (by decide)).trans ((pm rfl).trans ta_1_0)
   exact .inl ⟨_, _, (o_move rfl d_23), rfl, Below.refl _ _⟩)),
(step_ok rfl (fun a' w' hb' hO hD => by
   have d_24 := (hO 0 (by decide)).trans ((pm rfl).trans ta_1_0)
   exact .inl ⟨_, _, (o_move rfl d_24), rfl, Below.refl _ _⟩)),
(step_ok rfl (fun a' w' hb' hO hD => by
   have d_25 : a'.eval (.tmp 62) = .pointer (some ⟨g, 0, none⟩) := hD 1 62 (by kernel_rfl) rfl
   exact .inl ⟨_, _, (o_nilCheck rfl d_25), rfl, Below.refl _ _⟩)),
(step_ok rfl (fun a' w' hb' hO hD => by
   have d_26 : a'.eval (.tmp 63) = .pointer (some ⟨g, 0, none⟩) := hD 2 63 (by kernel_rfl) rfl
   exact .inl ⟨_, _, (o_field (k' := 0) rfl d_26 (fun _ => by kernel_rfl)), rfl, Below.refl _ _⟩)),
(step_ok rfl (fun a' w' hb' hO hD => by
   have d_27 : a'.eval (.tmp 64) = .pointer (some ⟨g, 0, none⟩) := hD 3 64 (by kernel_rfl) rfl
   exact .inl ⟨_, _, (o_load1 rfl d_27 (hB_2.nx hb') rfl ⟨by kernel_rfl, by kernel_rfl⟩), rfl, Below.refl _ _⟩)),
(step_ok rfl (fun a' w' hb' hO hD => by
   have d_28 : a'.eval (.tmp 65) = .int .i64 ((1 : Nat) : Int) := hD 4 65 (by kernel_rfl) rfl
   have e0 : (.int .i64 ((1 / 2 ^ 8 : Nat) : Int) : Value) = .int .i64 ((0 : Nat) : Int) := rfl
   exact .inl ⟨_, _, (o_shr (m := 1) (n := 8) rfl d_28 rfl (by decide)), e0, Below.refl _ _⟩)),
(step_ok rfl (fun a' w' hb' hO hD => by
   have d_29 : a'.eval (.tmp 66) = .int .i64 ((0 : Nat) : Int) := hD 5 66 (by kernel_rfl) rfl
   have e0 : (.int .u8 ((0 % 256 : Nat) : Int) : Value) = .int .u8 ((0 : Nat) : Int) := rfl
   exact .inl ⟨_, _, (o_conv (m := 0) (r := 0 % 256) rfl d_29 ⟨.int .i64, fun _ => by kernel_rfl⟩ (fun _ => by kernel_rfl) (by rw [IntKind.wrap_u8]; omega)), e0, Below.refl _ _⟩)),
(step_ok rfl (fun a' w' hb' hO hD => by
   have d_30 := (hO 0 (by decide)).trans ((pm rfl).trans ta_1_0)
   exact .inl ⟨_, _, (o_move rfl d_30), rfl, Below.refl _ _⟩)),
(step_ok rfl (fun a' w' hb' hO hD => by
   have d_31 : a'.eval (.tmp 68) = .pointer (some ⟨g, 0, none⟩) := hD 7 68 (by kernel_rfl) rfl
   exact .inl ⟨_, _, (o_nilCheck rfl d_31), rfl, Below.refl _ _⟩)),
(step_ok rfl (fun a' w' hb' hO hD => by
   have d_32 : a'.eval (.tmp 69) = .pointer (some ⟨g, 0, none⟩) := hD 8 69 (by kernel_rfl) rfl
   exact .inl ⟨_, _, (o_field (k' := 0) rfl d_32 (fun _ => by kernel_rfl)), rfl, Below.refl _ _⟩)),
(step_ok rfl (fun a' w' hb' hO hD => by
   have d_33 : a'.eval (.tmp 70) = .pointer (some ⟨g, 0, none⟩) := hD 9 70 (by kernel_rfl) rfl
   exact .inl ⟨_, _, (o_load1 rfl d_33 (hB_2.nx hb') rfl ⟨by kernel_rfl, by kernel_rfl⟩), rfl, Below.refl _ _⟩)),
(step_ok rfl (fun a' w' hb' hO hD => by
   have d_34 : a'.eval (.tmp 71) = .int .i64 ((1 : Nat) : Int) := hD 10 71 (by kernel_rfl) rfl
   have e0 : (.int .u8 ((1 % 256 : Nat) : Int) : Value) = .int .u8 ((1 : Nat) : Int) := rfl
   exact .inl ⟨_, _, (o_conv (m := 1) (r := 1 % 256) rfl d_34 ⟨.int .i64, fun _ => by kernel_rfl⟩ (fun _ => by kernel_rfl) (by rw [IntKind.wrap_u8]; omega)), e0, Below.refl _ _⟩)),
(step_ok rfl (fun a' w' hb' hO hD => by
   have d_35 : a'.eval (.tmp 67) = .int .u8 ((0 : Nat) : Int) := hD 6 67 (by kernel_rfl) rfl
   have d_36 : a'.eval (.tmp 72) = .int .u8 ((1 : Nat) : Int) := hD 11 72 (by kernel_rfl) rfl
   exact out_new (o_build2 (m := 0) (n := 1) rfl d_35 d_36 (by omega) (by omega)) (fun v w_8 hR => by obtain ⟨g_1, rfl, ho_4, hb_6⟩ := hR; exact ⟨⟨_, _, rfl, ho_4.mono hb'.size⟩, hb_6⟩))),
(step_ok rfl (fun a' w' hb' hO hD => by
   have d_37 : a'.eval (.tmp 9) = .slice A_5 (32 + (8 + 16)) (c_5) := (hO 9 (by decide)).trans (pe hs_1 rfl rfl)
   exact .inl ⟨_, _, (o_move rfl d_37), rfl, Below.refl _ _⟩)),
(step_ok rfl (fun a' w' hb' hO hD => by
   have d_38 := hD 12 73 (by kernel_rfl) rfl
   obtain ⟨A_6, c_6, hv_11, hO_4⟩ := d_38
   have d_39 : a'.eval (.tmp 74) = .slice A_5 (32 + (8 + 16)) (c_5) := hD 13 74 (by kernel_rfl) rfl
   exact out_new (o_bldS (vs := #[(0, .slice A_6 (2) (c_6)), (1, .slice A_5 (32 + (8 + 16)) (c_5))]) (cs := #[.slice A_6 (2) (c_6), .slice A_5 (32 + (8 + 16)) (c_5)]) (e := 22) rfl (bld2 hv_11 d_39) (fun _ => by kernel_rfl)) (fun v w_9 hR => by obtain ⟨g_2, rfl, hle9, hB_3, hb_7⟩ := hR; exact ⟨⟨_, _, _, rfl, hB_3, hO_4.nx hb_7⟩, hb_7⟩))),
(step_ok rfl (fun a' w' hb' hO hD => by
   have d_40 := hD 14 75 (by kernel_rfl) rfl
   obtain ⟨g_3, A_7, c_7, hv_12, hB_4, hO_5⟩ := d_40
   exact .inr ⟨_, #[.slice ((some ⟨g_3, 0, none⟩)) (2) (2)], (exec_call Tryz.func27 (by kernel_rfl) (by kernel_rfl) _ rfl _ _ (args1 hv_12)), Calls.mono (Concat2 _ hB_4 (hO_5).bs (by simp only [List.length_cons, List.length_nil]) ((ho_3.nx hb')).bs hl_1 (by omega)) (fun e w'' hR => by obtain ⟨A_8, c_8, rfl, ho_5, hb_8⟩ := hR; exact ⟨_, rfl, ⟨_, _, rfl, ho_5.mono hb'.size⟩, hb_8⟩)⟩)), trivial⟩ (fun a_2 w_10 hs_2 hd_2 hb_9 hO_6 hV_2 => ?_)
 have ta_2_0 := (hO_6 0 (by decide)).trans ((pm rfl).trans ta_1_0)
 clear ta_1_0 ta_1_1 ta_1_2 ta_1_6 ta_1_11 ta_1_12 ta_1_13 ta_1_14 ta_1_15 ta_1_16 ta_1_17 ta_1_18 ta_1_19 ta_1_20 ta_1_21 ta_1_23 ta_1_24 ta_1_25 ta_1_26 ta_1_27 ta_1_28 ta_1_29 ta_1_30 ta_1_31 ta_1_32 ta_1_33 ta_1_34 ta_1_35 hv_6 hv_7 hv_8 hv_9 ta_1_39 hv_10 hd_1
 replace hM := hM.nx hb_9
 replace hwp := hwp.nx hb_9
 replace hwv := hwv.nx hb_9
 replace hB_2 := hB_2.nx hb_9
 have HB_6 := HB_5.then hb_9
 have ta_2_61 : a_2.eval (.tmp 61) = .pointer (some ⟨g, 0, none⟩) := hV_2 0 61 rfl rfl
 have x_6 := hV_2 12 73 rfl rfl
 obtain ⟨A_9, c_9, hv_13, hO_7⟩ := x_6
 replace hO_7 := hO_7.mono HB_5.size
 have x_7 := hV_2 14 75 rfl rfl
 obtain ⟨g_4, A_10, c_10, hv_14, hB_5, hO_8⟩ := x_7
 replace hO_8 := hO_8.mono HB_5.size
 have x_8 := hV_2 15 76 rfl rfl
 obtain ⟨A_11, c_11, hv_15, hO_9⟩ := x_8
 replace hO_9 := hO_9.mono HB_5.size
 clear hV_2 hO_6
 simp only [List.drop_succ_cons, List.drop_zero]
 refine q_ca (vs := #[.pointer (some ⟨g, 0, none⟩), .int .i64 ((1 : Nat) : Int), .int .i64 ((0 : Nat) : Int), .slice A_11 (2 + (32 + (8 + 16))) (c_11)]) Tryz.func26 (args4 ((pm rfl).trans ta_2_61) rfl rfl ((pm rfl).trans hv_15)) (event_any _ hB_2) (fun e_5 w_11 hR_7 => ?_)
 obtain ⟨ge__1, ce_1, rfl, hge_9, hE_1, hB_6, hX_4⟩ := hR_7
 have hne_1 : ge__1 ≠ g := Nat.ne_of_gt (Nat.lt_of_lt_of_le hB_2.lt hge_9)
 have hge_9B := Nat.le_trans HB_6.size hge_9
 replace hM := hM.keepM hX_4 (hM.ne hB_2)
 replace hwp := hwp.keepX hB_2 (by decide) hX_4
 replace hwv := hwv.keepX hB_2 (by decide) hX_4
 replace hO_7 := hO_7.keepX hB_2 (by decide) hX_4
 replace hO_8 := hO_8.keepX hB_2 (by decide) hX_4
 replace hO_9 := hO_9.keepX hB_2 (by decide) hX_4
 have HB_7 := HB_6.step hX_4 (fun k hk (hY : k = g) => hY)
 refine ⟨_, rfl, ?_⟩
 refine x_nil (hK_9 _ _ ?_)
 refine w2_sr (fun K_10 hK_10 => ?_)
 refine q_mv ((pm rfl).trans ta_2_0) ?_
 refine q_ca (vs := #[.pointer (some ⟨g, 0, none⟩)]) Tryz.func28 (args1 (pe hs_2 rfl rfl)) (tells_any _ hB_6) (fun e_6 w_12 hR_8 => ?_)
 obtain ⟨rfl, hB_7, hX_5⟩ := hR_8
 replace hM := hM.keepM hX_5 (hM.ne hB_6)
 replace hwp := hwp.keepX hB_6 (by decide) hX_5
 replace hwv := hwv.keepX hB_6 (by decide) hX_5
 replace hO_7 := hO_7.keepX hB_6 (by decide) hX_5
 replace hO_8 := hO_8.keepX hB_6 (by decide) hX_5
 replace hO_9 := hO_9.keepX hB_6 (by decide) hX_5
 replace hE_1 := hE_1.keepX hX_5 hne_1
 have HB_8 := HB_7.step hX_5 (fun k hk (hY : k = g) => hY)
 refine ⟨_, rfl, ?_⟩
 refine q_at (pe hs_2 rfl rfl) ?_
 refine x_nil (hK_10 _ _ ?_)
 refine w2_ret ?_
 refine ret1 rfl hd_2 (pe hs_2 rfl rfl) ?_
 exact ⟨ge__1, ce_1, A_11, c_11, rfl, hge_9B, hE_1, hO_9, ⟨hlt.up HB_8.size, hpl, hsl, Ap, cp, Av, cv, gm, (some gh_8), hB_7, rfl, hwp, hwv, hM, hMg, hMm, hMp, hMv⟩, HB_8.mono (fun k _ hk => hk ▸ hMg)⟩
end Go.Proofs.YtodhdajelnfhpaaGreat
/-
 WALKS: sapperlaw23: Key, made, awake.
-/
namespace Go.Proofs.YtodhdajelnfhpaaGreat
open Go.RowKit
set_option linter.unusedVariables false
set_option linter.unusedSimpArgs false
set_option maxRecDepth 100000
attribute [local irreducible] wpList wpListIn putsR

theorem key_good {bs : List Nat} (h : ∀ x ∈ bs, x < 256) : ¬ ell ∣ secN (padTo 32 bs) := by
 refine sec_good _ (padTo_length _ _) (fun x hx => ?_)
 unfold padTo at hx
 rcases List.mem_append.1 hx with h1 | h1
 ·exact h x (List.mem_of_mem_take h1)
 ·rw [List.eq_of_mem_replicate h1]
  decide
theorem data_len (ks : List Nat) (S : Sy) {xs : List Nat} (h : xs.length = 8) : ([0, 1] ++ (pubL ks ++ outS S xs)).length = 58 := by
 rw [List.length_append, List.length_append, outS_length, pubL_length, h]; rfl
section
variable {o : Oper} {ev : Operand → Value} {w : World} {x y z : Operand} {T U t : TypeId} {g k : Nat}
theorem o_ixE {n c : Nat} (ho : o.op = .indexAddr 26 x y) (hx : ev x = .slice (some ⟨g, 0, none⟩) n c) (hy : ev y = .int .i64 ((0 : Nat) : Int)) (hi : 0 < n) : (execOp ev o).run Tryz.prog w = .ok (.value (.pointer (some ⟨g, 0, none⟩))) w := by
 have h1 : (0 : Int) < (n : Int) := by omega
 simp [execOp, ho, hx, hy, go_sem, h1, Addr.add_lit]
 exact fun h => absurd h (by omega)
theorem o_lenE {A : Option Addr} {n c : Nat} (ho : o.op = .call { callee := .builtin .len, args := #[x], argTypes := #[26] }) (hx : ev x = .slice A n c) : (execOp ev o).run Tryz.prog w = .ok (.value (.int .i64 ((n : Nat) : Int))) w := by
 simp [execOp, ho, hx, go_sem, resolve, invoke, builtin]
theorem args8 {ev : Operand → Value} {x1 x2 x3 x4 x5 x6 x7 x8 : Operand} {u1 u2 u3 u4 u5 u6 u7 u8 : Value} (h1 : ev x1 = u1) (h2 : ev x2 = u2) (h3 : ev x3 = u3) (h4 : ev x4 = u4) (h5 : ev x5 = u5) (h6 : ev x6 = u6) (h7 : ev x7 = u7) (h8 : ev x8 = u8) : #[x1, x2, x3, x4, x5, x6, x7, x8].map ev = #[u1, u2, u3, u4, u5, u6, u7, u8] := by simp [h1, h2, h3, h4, h5, h6, h7, h8]
theorem o_ldE0 {kd id n d : Nat} {D : Option Addr} (ho : o.op = .load t x) (hx : ev x = .pointer (some ⟨g, 0, none⟩)) (hE : EvAt w g kd id D n d) (ht : IsOne t) : (execOp ev o).run Tryz.prog w = .ok (.value (.int .i64 ((kd : Nat) : Int))) w := by
 obtain ⟨cur, hB, h0, h1, h7⟩ := hE
 exact o_load1 ho hx hB h0 ht
theorem o_ldE7 {kd id n d : Nat} {D : Option Addr} (ho : o.op = .load t x) (hx : ev x = .pointer (some ⟨g, 7, none⟩)) (hE : EvAt w g kd id D n d) (ht : IsOne t) : (execOp ev o).run Tryz.prog w = .ok (.value (.slice D n d)) w := by
 obtain ⟨cur, hB, h0, h1, h7⟩ := hE
 exact o_load1 ho hx hB h7 ht
end
theorem Key_any {A0 : Option Addr} {c0 q : Nat} {bs : List Nat} (w : World) (h0 : Bs w A0 c0 bs) (hq : bs.length = q) :
  Calls Tryz.prog 18 #[.slice A0 (q) (c0)] w fun e w' => ∃ A c, e = .returned (.slice A 32 c) ∧ Own w' w.heap.size A c (padTo 32 bs) ∧ Below w.heap.size w w' := by
 refine x_enter 9 Tryz.func18 rfl rfl (fun a hs hd ha0 => ?_)
 have t0 : a.eval (.tmp 0) = .slice A0 (q) (c0) := ha0 0 _ rfl
 clear ha0
 refine w2_sr (fun K_1 hK_1 => ?_)
 refine q_as (.slice none (0) (0)) rfl ?_
 refine x_nil (hK_1 _ _ ?_)
 refine w2_sr (fun K_2 hK_2 => ?_)
 refine op_ex (d := 4) rfl rfl (o_make (n := 32) rfl rfl rfl (fun _ => by kernel_rfl) (by omega)) (fun v_1 w_1 hR_1 => ?_)
 obtain ⟨g_1, rfl, ho_1, hb_1⟩ := hR_1
 refine q_at (pe hs rfl rfl) ?_
 refine x_nil (hK_2 _ _ ?_)
 refine w2_sr (fun K_3 hK_3 => ?_)
 refine q_mv (pe hs rfl rfl) ?_
 refine q_mv ((pm rfl).trans t0) ?_
 refine op_ex (d := 7) rfl rfl (o_copy rfl (pe hs rfl rfl) (pe hs rfl rfl) ho_1 (h0.below hb_1) hq (by omega) (by omega)) (fun v_2 w_2 hR_2 => ?_)
 obtain ⟨r_1, rfl, ho_2, hb_2⟩ := hR_2
 have HB_1 := hb_1.trans hb_2
 refine x_nil (hK_3 _ _ ?_)
 refine w2_sr (fun K_4 hK_4 => ?_)
 refine q_mv (pe hs rfl rfl) ?_
 refine q_at (pe hs rfl rfl) ?_
 refine x_nil (hK_4 _ _ ?_)
 refine w2_ret ?_
 refine ret1 rfl hd (pe hs rfl rfl) ?_
 exact ⟨_, _, rfl, ho_2, HB_1⟩
theorem made_any (w : World) :
  Calls Tryz.prog 7 #[] w fun e w' => ∃ (M : Nat → Prop) (g : Nat), e = .returned (.pointer (some ⟨g, 0, none⟩)) ∧ ClientAt w' M g (padTo 32 [1]) (pubL (padTo 32 [7])) false ((0 : Nat) : Int) ∧ Ge w M ∧ Below w.heap.size w w' := by
 refine x_enter 21 Tryz.func7 rfl rfl (fun a hs hd ha0 => ?_)
 clear ha0
 refine w2_sr (fun K_1 hK_1 => ?_)
 refine q_as (.pointer none) rfl ?_
 refine x_nil (hK_1 _ _ ?_)
 refine w2_sr (fun K_2 hK_2 => ?_)
 refine op_ex (d := 6) rfl rfl (o_build1 (m := 7) rfl rfl (by omega)) (fun v_1 w_1 hR_1 => ?_)
 obtain ⟨g_1, rfl, ho_1, hb_1⟩ := hR_1
 have hob_1 := ho_1
 refine q_ca (vs := #[.slice ((some ⟨g_1, 0, none⟩)) (1) (1)]) Tryz.func18 (args1 (pe hs rfl rfl)) (Key_any _ (ho_1).bs (by simp only [List.length_cons, List.length_nil])) (fun e_1 w_2 hR_2 => ?_)
 obtain ⟨A_1, c_1, rfl, ho_2, hb_2⟩ := hR_2
 replace ho_2 := ho_2.mono hb_1.size
 have HB_1 := below_from hb_1 hb_2
 refine ⟨_, rfl, ?_⟩
 refine q_ca (vs := #[.slice A_1 (32) (c_1)]) Tryz.func17 (args1 (pe hs rfl rfl)) (Base_own _ (ho_2).bs (by simp only [padTo_length])) (fun e_2 w_3 hR_3 => ?_)
 obtain ⟨A_2, c_2, rfl, ho_3, hb_3⟩ := hR_3
 replace ho_3 := ho_3.mono HB_1.size
 have HB_2 := below_from HB_1 hb_3
 refine ⟨_, rfl, ?_⟩
 refine q_mv (pe hs rfl rfl) ?_
 refine q_ex (v := .slice A_2 (32) (c_2)) (pe hs rfl rfl) rfl ?_
 refine q_ex (v := .int .i64 ((0 : Nat) : Int)) (pe hs rfl rfl) rfl ?_
 refine q_at (pe hs rfl rfl) ?_
 refine q_at (v := .int .i64 ((0 : Nat) : Int)) (pe hs rfl rfl) ?_
 refine x_nil (hK_2 _ _ ?_)
 refine w2_sr (fun K_3 hK_3 => ?_)
 refine op_ex (d := 12) rfl rfl (o_build1 (m := 1) rfl rfl (by omega)) (fun v_2 w_4 hR_4 => ?_)
 obtain ⟨g_2, rfl, ho_4, hb_4⟩ := hR_4
 have hob_2 := ho_4
 replace ho_4 := ho_4.mono HB_2.size
 replace ho_3 := ho_3.nx hb_4
 have HB_3 := below_from HB_2 hb_4
 refine q_ca (vs := #[.slice ((some ⟨g_2, 0, none⟩)) (1) (1)]) Tryz.func18 (args1 (pe hs rfl rfl)) (Key_any _ (ho_4).bs (by simp only [List.length_cons, List.length_nil])) (fun e_3 w_5 hR_5 => ?_)
 obtain ⟨A_3, c_3, rfl, ho_5, hb_5⟩ := hR_5
 replace ho_5 := ho_5.mono HB_3.size
 replace ho_3 := ho_3.nx hb_5
 have HB_4 := below_from HB_3 hb_5
 refine ⟨_, rfl, ?_⟩
 refine q_mv (pe hs rfl rfl) ?_
 refine q_ca (vs := #[.int .i64 ((1 : Nat) : Int), .slice A_3 (32) (c_3), .slice A_2 (32) (c_2), .string ({ data := #[] }), .string ({ data := #[] }), .int .i64 ((4 : Nat) : Int), .int .i64 ((500 : Nat) : Int), .int .i64 ((100 : Nat) : Int)]) Tryz.func19 (args8 rfl (pe hs rfl rfl) (pe hs rfl rfl) rfl rfl rfl rfl rfl) (CNew_any _ (ho_5).bs (by simp only [padTo_length]) (ho_3).bs (pubL_length _)) (fun e_4 w_6 hR_6 => ?_)
 obtain ⟨M_1, g_3, rfl, hC_1, hge_1, hb_6⟩ := hR_6
 have gg_1 := hge_1.down HB_4.size
 have HB_5 := below_from HB_4 hb_6
 refine ⟨_, rfl, ?_⟩
 refine q_mv (pe hs rfl rfl) ?_
 refine q_ex (v := .pointer (some ⟨g_3, 0, none⟩)) (pe hs rfl rfl) rfl ?_
 refine q_ex (v := .int .i64 ((0 : Nat) : Int)) (pe hs rfl rfl) rfl ?_
 refine q_at (pe hs rfl rfl) ?_
 refine q_at (v := .int .i64 ((0 : Nat) : Int)) (pe hs rfl rfl) ?_
 refine x_nil (hK_3 _ _ ?_)
 refine w2_seq (fun K_4 hK_4 => ?_)
 refine w2_sr (fun K_5 hK_5 => ?_)
 refine q_mv (v := .int .i64 ((0 : Nat) : Int)) (pe hs rfl rfl) ?_
 refine q_v 19 (.bool (false)) (o_eq (o_neq (m := 0) (n := 0) rfl (pe hs rfl rfl) rfl) rfl) ?_
 refine x_nil (hK_5 _ _ ?_)
 refine w2_condF (pe hs rfl rfl) ?_
 refine w2_skip ?_
 refine hK_4 _ _ ?_
 refine w2_sr (fun K_6 hK_6 => ?_)
 refine q_mv (pe hs rfl rfl) ?_
 refine q_at (pe hs rfl rfl) ?_
 refine x_nil (hK_6 _ _ ?_)
 refine w2_ret ?_
 refine ret1 rfl hd (pe hs rfl rfl) ?_
 exact ⟨M_1, g_3, rfl, hC_1, gg_1, HB_5⟩
theorem ok10 : okT ((10 : Nat) : Int) := by unfold okT; omega
theorem awake23_any (w : World) :
  Calls Tryz.prog 6 #[] w fun e w' => e = .returned (.bool true) ∧ Below w.heap.size w w' := by
 refine x_enter 46 Tryz.func6 rfl rfl (fun a hs hd ha0 => ?_)
 clear ha0
 refine w2_sr (fun K_1 hK_1 => ?_)
 refine q_as (.bool (false)) rfl ?_
 refine x_nil (hK_1 _ _ ?_)
 refine w2_sr (fun K_2 hK_2 => ?_)
 refine q_ca (vs := #[]) Tryz.func7 (args0) (made_any _) (fun e_1 w_1 hR_1 => ?_)
 obtain ⟨M_1, g_1, rfl, hC_1, hge_1, hb_1⟩ := hR_1
 refine ⟨_, rfl, ?_⟩
 refine q_at (pe hs rfl rfl) ?_
 refine x_nil (hK_2 _ _ ?_)
 refine w2_seq (fun K_3 hK_3 => ?_)
 refine w2_sr (fun K_4 hK_4 => ?_)
 refine q_mv (pe hs rfl rfl) ?_
 refine q_v 5 (.bool (false)) (o_nil (b := false) rfl (pe hs rfl rfl) rfl rfl ⟨58, fun _ => by kernel_rfl⟩) ?_
 refine x_nil (hK_4 _ _ ?_)
 refine w2_condF (pe hs rfl rfl) ?_
 refine w2_skip ?_
 refine hK_3 _ _ ?_
 refine w2_sr (fun K_5 hK_5 => ?_)
 refine q_mv (pe hs rfl rfl) ?_
 refine op_ex (d := 7) rfl rfl (o_build1 (m := 3) rfl rfl (by omega)) (fun v_1 w_2 hR_2 => ?_)
 obtain ⟨g_2, rfl, ho_1, hb_2⟩ := hR_2
 have hob_1 := ho_1
 replace ho_1 := ho_1.mono hb_1.size
 replace hC_1 := hC_1.nx hb_2
 have HB_1 := below_from hb_1 hb_2
 refine q_ca (vs := #[.pointer (some ⟨g_1, 0, none⟩), .slice ((some ⟨g_2, 0, none⟩)) (1) (1), .int .i64 ((10 : Nat) : Int)]) Tryz.func8 (args3 (pe hs rfl rfl) (pe hs rfl rfl) rfl) (Dial_ok _ hC_1 ok10 (ho_1).bs (by simp only [List.length_cons, List.length_nil]) (by omega) (key_good (by decide)) (pubL_num _)) (fun e_2 w_3 hR_3 => ?_)
 have hge_2_l := hC_1.lt
 obtain ⟨ge__1, ce_1, D_1, d_1, rfl, hge_2, hE_1, hO_1, hC_2, hX_1⟩ := hR_3
 have hne_1 : ¬ M_1 ge__1 := fun h => absurd (hge_2_l _ h) (Nat.not_lt.2 hge_2)
 replace hO_1 := hO_1.mono HB_1.size
 have hl_1 : ([0, 1] ++ (pubL (shaL ([3])) ++ outS (firstS (shaL nameS) (shaL (shaL (shaL nameS ++ [0, 1]) ++ (pubL (padTo 32 [7])))) (padTo 32 [1]) (pubL (shaL ([3]))) (dhL (shaL ([3])) (secN (padTo 32 [7])))) (numZ (((10 : Nat) : Int)) 8))).length = 58 := data_len _ _ (numZ_length _ _)
 have HB_2 := hX_1.below HB_1 HB_1.size hge_1
 refine ⟨_, rfl, ?_⟩
 refine q_at (pe hs rfl rfl) ?_
 refine x_nil (hK_5 _ _ ?_)
 refine w2_sr (fun K_6 hK_6 => ?_)
 refine q_mv (pe hs rfl rfl) ?_
 refine q_v 10 (.int .i64 ((1 : Nat) : Int)) (o_lenE rfl (pe hs rfl rfl)) ?_
 refine q_v 11 (.bool (true)) (o_eq (o_eql (m := 1) (n := 1) rfl (pe hs rfl rfl) rfl) rfl) ?_
 refine q_mv (pe hs rfl rfl) ?_
 refine op_valG (e := 12) (d := 13) (v := .slice ((some ⟨ge__1, 0, none⟩)) (1) (ce_1)) rfl rfl (by kernel_rfl) (pe hs rfl rfl) (o_move rfl (pe hs rfl rfl)) ?_
 refine op_valG (e := 12) (d := 14) (v := .pointer (some ⟨ge__1, 0, none⟩)) rfl rfl (by kernel_rfl) (pe hs rfl rfl) (o_ixE rfl (pe hs rfl rfl) rfl (by decide)) ?_
 refine op_valG (e := 12) (d := 15) (v := .pointer (some ⟨ge__1, 0, none⟩)) rfl rfl (by kernel_rfl) (pe hs rfl rfl) (o_field (k' := 0) rfl (pe hs rfl rfl) (fun _ => by kernel_rfl)) ?_
 refine op_valG (e := 12) (d := 16) (v := .int .i64 ((1 : Nat) : Int)) rfl rfl (by kernel_rfl) (pe hs rfl rfl) (o_ldE0 rfl (pe hs rfl rfl) hE_1 ⟨by kernel_rfl, by kernel_rfl⟩) ?_
 refine op_valG (e := 12) (d := 17) (v := .bool (true)) rfl rfl (by kernel_rfl) (pe hs rfl rfl) (o_eq (o_eql (m := 1) (n := 1) rfl (pe hs rfl rfl) rfl) rfl) ?_
 refine q_v 18 (.bool (true)) (o_pickT rfl (pe hs rfl rfl) (pe hs rfl rfl)) ?_
 refine q_mv (pe hs rfl rfl) ?_
 refine op_valG (e := 19) (d := 20) (v := .slice ((some ⟨ge__1, 0, none⟩)) (1) (ce_1)) rfl rfl (by kernel_rfl) (pe hs rfl rfl) (o_move rfl (pe hs rfl rfl)) ?_
 refine op_valG (e := 19) (d := 21) (v := .pointer (some ⟨ge__1, 0, none⟩)) rfl rfl (by kernel_rfl) (pe hs rfl rfl) (o_ixE rfl (pe hs rfl rfl) rfl (by decide)) ?_
 refine op_valG (e := 19) (d := 22) (v := .pointer (some ⟨ge__1, 7, none⟩)) rfl rfl (by kernel_rfl) (pe hs rfl rfl) (o_field (k' := 7) rfl (pe hs rfl rfl) (fun _ => by kernel_rfl)) ?_
 refine op_valG (e := 19) (d := 23) (v := .slice D_1 (58) (d_1)) rfl rfl (by kernel_rfl) (pe hs rfl rfl) (o_ldE7 rfl (pe hs rfl rfl) hE_1 ⟨by kernel_rfl, by kernel_rfl⟩) ?_
 refine op_valG (e := 19) (d := 24) (v := .int .i64 ((58 : Nat) : Int)) rfl rfl (by kernel_rfl) (pe hs rfl rfl) (o_len rfl (pe hs rfl rfl)) ?_
 refine op_valG (e := 19) (d := 25) (v := .bool (true)) rfl rfl (by kernel_rfl) (pe hs rfl rfl) (o_eq (o_eql (m := 58) (n := 58) rfl (pe hs rfl rfl) rfl) rfl) ?_
 refine q_v 26 (.bool (true)) (o_pickT rfl (pe hs rfl rfl) (pe hs rfl rfl)) ?_
 refine q_mv (pe hs rfl rfl) ?_
 refine op_valG (e := 27) (d := 28) (v := .slice ((some ⟨ge__1, 0, none⟩)) (1) (ce_1)) rfl rfl (by kernel_rfl) (pe hs rfl rfl) (o_move rfl (pe hs rfl rfl)) ?_
 refine op_valG (e := 27) (d := 29) (v := .pointer (some ⟨ge__1, 0, none⟩)) rfl rfl (by kernel_rfl) (pe hs rfl rfl) (o_ixE rfl (pe hs rfl rfl) rfl (by decide)) ?_
 refine op_valG (e := 27) (d := 30) (v := .pointer (some ⟨ge__1, 7, none⟩)) rfl rfl (by kernel_rfl) (pe hs rfl rfl) (o_field (k' := 7) rfl (pe hs rfl rfl) (fun _ => by kernel_rfl)) ?_
 refine op_valG (e := 27) (d := 31) (v := .slice D_1 (58) (d_1)) rfl rfl (by kernel_rfl) (pe hs rfl rfl) (o_ldE7 rfl (pe hs rfl rfl) hE_1 ⟨by kernel_rfl, by kernel_rfl⟩) ?_
 refine op_valG (e := 27) (d := 32) (v := .pointer (atA D_1 (1))) rfl rfl (by kernel_rfl) (pe hs rfl rfl) (o_ix (k := 1) rfl (pe hs rfl rfl) rfl (by omega) ((hO_1).bs.some (by rw [hl_1]; omega))) ?_
 refine op_valG (e := 27) (d := 33) (v := .int .u8 ((1 : Nat) : Int)) rfl rfl (by kernel_rfl) (pe hs rfl rfl) (o_ld8 rfl (pe hs rfl rfl) (hO_1).bs (by rw [hl_1]; omega) rfl) ?_
 refine op_valG (e := 27) (d := 34) (v := .bool (true)) rfl rfl (by kernel_rfl) (pe hs rfl rfl) (o_eq (o_eql (m := 1) (n := 1) rfl (pe hs rfl rfl) rfl) rfl) ?_
 refine q_v 35 (.bool (true)) (o_pickT rfl (pe hs rfl rfl) (pe hs rfl rfl)) ?_
 refine q_mv (pe hs rfl rfl) ?_
 refine op_valG (e := 36) (d := 37) (v := .pointer (some ⟨g_1, 0, none⟩)) rfl rfl (by kernel_rfl) (pe hs rfl rfl) (o_move rfl (pe hs rfl rfl)) ?_
 refine op_callG (e := 36) (vs := #[.pointer (some ⟨g_1, 0, none⟩)]) rfl rfl (by kernel_rfl) (pe hs rfl rfl) (exec_call Tryz.func16 (by kernel_rfl) (by kernel_rfl) _ rfl _ _ (args1 (pe hs rfl rfl))) (Up_any _ hC_2) (fun e_3 w_4 hR_4 => ?_)
 obtain ⟨rfl, rfl⟩ := hR_4
 refine ⟨_, rfl, ?_⟩
 refine op_valG (e := 36) (d := 39) (v := .bool (true)) rfl rfl (by kernel_rfl) (pe hs rfl rfl) (o_not (b := false) rfl (pe hs rfl rfl)) ?_
 refine q_v 40 (.bool (true)) (o_pickT rfl (pe hs rfl rfl) (pe hs rfl rfl)) ?_
 refine q_mv (pe hs rfl rfl) ?_
 refine op_valG (e := 41) (d := 42) (v := .pointer (some ⟨g_1, 0, none⟩)) rfl rfl (by kernel_rfl) (pe hs rfl rfl) (o_move rfl (pe hs rfl rfl)) ?_
 refine op_callG (e := 41) (vs := #[.pointer (some ⟨g_1, 0, none⟩)]) rfl rfl (by kernel_rfl) (pe hs rfl rfl) (exec_call Tryz.func15 (by kernel_rfl) (by kernel_rfl) _ rfl _ _ (args1 (pe hs rfl rfl))) (Len_any _ hC_2) (fun e_4 w_5 hR_5 => ?_)
 obtain ⟨rfl, rfl⟩ := hR_5
 refine ⟨_, rfl, ?_⟩
 refine op_valG (e := 41) (d := 44) (v := .bool (true)) rfl rfl (by kernel_rfl) (pe hs rfl rfl) (o_eq (o_eql (m := 0) (n := 0) rfl (pe hs rfl rfl) rfl) rfl) ?_
 refine q_v 45 (.bool (true)) (o_pickT rfl (pe hs rfl rfl) (pe hs rfl rfl)) ?_
 refine q_at (pe hs rfl rfl) ?_
 refine x_nil (hK_6 _ _ ?_)
 refine w2_ret ?_
 refine ret1 rfl hd (pe hs rfl rfl) ?_
 exact ⟨rfl, HB_2⟩
end Go.Proofs.YtodhdajelnfhpaaGreat
