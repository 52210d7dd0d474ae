/-
 WALKS: chacha.block.
-/
import Derived.Test.YtodhdajelnfhpaaGreatArr32
import Derived.Test.YtodhdajelnfhpaaGreatCell
namespace Go.Proofs.YtodhdajelnfhpaaGreat
open Go.RowKit
set_option linter.unusedVariables false
set_option linter.unusedSimpArgs false
set_option maxRecDepth 100000
attribute [local irreducible] wpList wpListIn putsR

theorem add_i64 {o : Oper} {a : Act} {w : World} {x y : Operand} {m n : Nat} (ho : o.op = .binOp .add 3 x y 3) (hx : a.eval x = .int .i64 (m : Int)) (hy : a.eval y = .int .i64 (n : Int)) (hb : m + n < 4611686018427387904) :
  (execOp a.eval o).run Tryz.prog w = .ok (.value (.int .i64 ((m + n : Nat) : Int))) w := by
 have e : IntKind.i64.wrap ((m : Int) + (n : Int)) = (m : Int) + (n : Int) := IntWalk.i64_in _ (by omega)
 generalize a.eval = ev at hx hy ⊢
 simp [execOp, ho, hx, hy, go_sem, e]
def cols (s : List Nat) : Nat → List Nat
 | 0 => s
 | K + 1 => qrAt (cols s K) K (4 + K) (8 + K) (12 + K)
def diags (s : List Nat) : Nat → List Nat
 | 0 => s
 | K + 1 => qrAt (diags s K) K (4 + (K + 1) % 4) (8 + (K + 2) % 4) (12 + (K + 3) % 4)
def dbls (s : List Nat) : Nat → List Nat
 | 0 => s
 | R + 1 => diags (cols (dbls s R) 4) 4
/-- Sixteen words. -/
def W16 (s : List Nat) : Prop := s.length = 16 ∧ ∀ x ∈ s, x < 4294967296
theorem W16.get {s : List Nat} (h : W16 s) (i : Nat) : s.getD i 0 < 4294967296 := by
 rw [List.getD_eq_getElem?_getD]
 cases hx : s[i]? with
 | none => simp
 | some v => exact h.2 v (List.mem_of_getElem? hx)
theorem W16.set {s : List Nat} (h : W16 s) (i v : Nat) (hv : v < 4294967296) : W16 (s.set i v) :=
 ⟨by rw [List.length_set]; exact h.1, fun x hx => by
  rcases List.mem_or_eq_of_mem_set hx with h1 | h1
  ·exact h.2 x h1
  ·rw [h1]; exact hv⟩
theorem W16.qr {s : List Nat} (h : W16 s) (i j k l : Nat) : W16 (qrAt s i j k l) := by
 have hq := qr_lt _ _ _ _ (h.get i) (h.get j) (h.get k) (h.get l)
 unfold qrAt
 generalize Go.Proofs.YtodhdajelnfhpaaGreat.qr (s.getD i 0) (s.getD j 0) (s.getD k 0) (s.getD l 0) = q at *
 obtain ⟨a, b, c, d⟩ := q
 exact (((h.set i a hq.1).set j b hq.2.1).set k c hq.2.2.1).set l d hq.2.2.2
theorem W16.cols {s : List Nat} (h : W16 s) : ∀ K, W16 (cols s K)
 | 0 => h
 | K + 1 => (W16.cols h K).qr _ _ _ _
theorem W16.diags {s : List Nat} (h : W16 s) : ∀ K, W16 (diags s K)
 | 0 => h
 | K + 1 => (W16.diags h K).qr _ _ _ _
theorem W16.dbls {s : List Nat} (h : W16 s) : ∀ R, W16 (dbls s R)
 | 0 => h
 | R + 1 => ((W16.dbls h R).cols 4).diags 4
theorem qrAt_eq {s : List Nat} {i j k l a b c d : Nat} (h : qr (s.getD i 0) (s.getD j 0) (s.getD k 0) (s.getD l 0) = (a, b, c, d)) : qrAt s i j k l = (((s.set i a).set j b).set k c).set l d := by
 unfold qrAt
 rw [h]
theorem beginL_16 (ks ns : List Nat) (n : Nat) (hk : ∀ x ∈ ks, x < 256) (hn : ∀ x ∈ ns, x < 256) (h : n < 4294967296) : W16 (beginL ks ns n) := by
 refine ⟨rfl, fun x hx => ?_⟩
 have lk : ∀ i, lowN ks i 4 < 4294967296 := fun i => lowN_lt hk i 4
 have ln : ∀ i, lowN ns i 4 < 4294967296 := fun i => lowN_lt hn i 4
 unfold beginL at hx
 simp only [List.mem_cons, List.not_mem_nil, or_false] at hx
 rcases hx with rfl | rfl | rfl | rfl | rfl | rfl | rfl | rfl | rfl | rfl | rfl | rfl | rfl | rfl | rfl | rfl <;> first | omega | exact lk _ | exact ln _ | exact h

/-- The bytes of a block, so many words of them. -/
def outL (s f : List Nat) : Nat → List Nat
 | 0 => []
 | K + 1 => outL s f K ++ putL ((s.getD K 0 + f.getD K 0) % 4294967296) 4
theorem outL_length (s f : List Nat) (K : Nat) : (outL s f K).length = 4 * K := by
 induction K with
 | zero => rfl
 | succ K ih => rw [outL, List.length_append, ih, putL_length]; omega

/-- A block's bytes. -/
def blockL (ks ns : List Nat) (n : Nat) : List Nat := outL (dbls (beginL ks ns n) 10) (beginL ks ns n) 16
theorem blockL_length (ks ns : List Nat) (n : Nat) : (blockL ks ns n).length = 64 := outL_length _ _ _
def colS (B : Nat) (K a0 b0 c0 d0 p0 p1 p2 p3 g_2 : Nat) : Nat → World → Value → Prop
 | 0, _, v => v = .int .i64 ((K : Nat) : Int)
 | 1, _, v => v = .int .i64 ((K : Nat) : Int)
 | 2, _, v => v = .int .i64 ((4 + K : Nat) : Int)
 | 3, _, v => v = .int .i64 ((K : Nat) : Int)
 | 4, _, v => v = .int .i64 ((8 + K : Nat) : Int)
 | 5, _, v => v = .int .i64 ((K : Nat) : Int)
 | 6, _, v => v = .int .i64 ((12 + K : Nat) : Int)
 | 7, _, v => v = .int .i64 ((K : Nat) : Int)
 | 8, _, v => v = .pointer (some ⟨g_2, K, none⟩)
 | 9, _, v => v = .int .u32 ((a0 : Nat) : Int)
 | 10, _, v => v = .int .i64 ((K : Nat) : Int)
 | 11, _, v => v = .int .i64 ((4 + K : Nat) : Int)
 | 12, _, v => v = .pointer (some ⟨g_2, 4 + K, none⟩)
 | 13, _, v => v = .int .u32 ((b0 : Nat) : Int)
 | 14, _, v => v = .int .i64 ((K : Nat) : Int)
 | 15, _, v => v = .int .i64 ((8 + K : Nat) : Int)
 | 16, _, v => v = .pointer (some ⟨g_2, 8 + K, none⟩)
 | 17, _, v => v = .int .u32 ((c0 : Nat) : Int)
 | 18, _, v => v = .int .i64 ((K : Nat) : Int)
 | 19, _, v => v = .int .i64 ((12 + K : Nat) : Int)
 | 20, _, v => v = .pointer (some ⟨g_2, 12 + K, none⟩)
 | 21, _, v => v = .int .u32 ((d0 : Nat) : Int)
 | 22, _, v => v = .tuple #[.int .u32 ((p0 : Nat) : Int), .int .u32 ((p1 : Nat) : Int), .int .u32 ((p2 : Nat) : Int), .int .u32 ((p3 : Nat) : Int)]
 | 23, _, v => v = .tuple #[.int .u32 ((p0 : Nat) : Int), .int .u32 ((p1 : Nat) : Int), .int .u32 ((p2 : Nat) : Int), .int .u32 ((p3 : Nat) : Int)]
 | 24, _, v => v = .int .u32 ((p0 : Nat) : Int)
 | 25, _, v => v = .int .u32 ((p1 : Nat) : Int)
 | 26, _, v => v = .int .u32 ((p2 : Nat) : Int)
 | 27, _, v => v = .int .u32 ((p3 : Nat) : Int)
 | 28, _, v => v = .pointer (some ⟨g_2, K, none⟩)
 | 29, _, _ => True
 | 30, _, v => v = .pointer (some ⟨g_2, 4 + K, none⟩)
 | 31, _, _ => True
 | 32, _, v => v = .pointer (some ⟨g_2, 8 + K, none⟩)
 | 33, _, _ => True
 | _, _, _ => True

def colSK : Nat → HK
 | 29 => .hot
 | 31 => .hot
 | 33 => .hot
 | _ => .val

def diaS (B : Nat) (K a0 b0 c0 d0 p0 p1 p2 p3 g_2 bb cc dd : Nat) : Nat → World → Value → Prop
 | 0, _, v => v = .int .i64 ((K : Nat) : Int)
 | 1, _, v => v = .int .i64 ((bb : Nat) : Int)
 | 2, _, v => v = .int .i64 ((cc : Nat) : Int)
 | 3, _, v => v = .int .i64 ((dd : Nat) : Int)
 | 4, _, v => v = .int .i64 ((K : Nat) : Int)
 | 5, _, v => v = .pointer (some ⟨g_2, K, none⟩)
 | 6, _, v => v = .int .u32 ((a0 : Nat) : Int)
 | 7, _, v => v = .int .i64 ((bb : Nat) : Int)
 | 8, _, v => v = .pointer (some ⟨g_2, bb, none⟩)
 | 9, _, v => v = .int .u32 ((b0 : Nat) : Int)
 | 10, _, v => v = .int .i64 ((cc : Nat) : Int)
 | 11, _, v => v = .pointer (some ⟨g_2, cc, none⟩)
 | 12, _, v => v = .int .u32 ((c0 : Nat) : Int)
 | 13, _, v => v = .int .i64 ((dd : Nat) : Int)
 | 14, _, v => v = .pointer (some ⟨g_2, dd, none⟩)
 | 15, _, v => v = .int .u32 ((d0 : Nat) : Int)
 | 16, _, v => v = .tuple #[.int .u32 ((p0 : Nat) : Int), .int .u32 ((p1 : Nat) : Int), .int .u32 ((p2 : Nat) : Int), .int .u32 ((p3 : Nat) : Int)]
 | 17, _, v => v = .tuple #[.int .u32 ((p0 : Nat) : Int), .int .u32 ((p1 : Nat) : Int), .int .u32 ((p2 : Nat) : Int), .int .u32 ((p3 : Nat) : Int)]
 | 18, _, v => v = .int .u32 ((p0 : Nat) : Int)
 | 19, _, v => v = .int .u32 ((p1 : Nat) : Int)
 | 20, _, v => v = .int .u32 ((p2 : Nat) : Int)
 | 21, _, v => v = .int .u32 ((p3 : Nat) : Int)
 | 22, _, v => v = .pointer (some ⟨g_2, K, none⟩)
 | 23, _, _ => True
 | 24, _, v => v = .pointer (some ⟨g_2, bb, none⟩)
 | 25, _, _ => True
 | 26, _, v => v = .pointer (some ⟨g_2, cc, none⟩)
 | 27, _, _ => True
 | _, _, _ => True

def diaSK : Nat → HK
 | 23 => .hot
 | 25 => .hot
 | 27 => .hot
 | _ => .val

set_option maxHeartbeats 8000000 in
theorem block_any {A B : Option Addr} {c d m k : Nat} {ks ns : List Nat} (n : Nat) (w : World) (ha : Bs w A c ks) (hb : Bs w B d ns) (hm : ks.length = m) (hk : ns.length = k) (hn : n < 4294967296) :
  Calls Tryz.prog 191 #[.slice A (m) (c), .slice B (k) (d), .int .u32 ((n : Nat) : Int)] w fun e w' => ∃ A c, e = .returned (.slice A 64 c) ∧ Own w' w.heap.size A c (blockL ks ns n) ∧ Below w.heap.size w w' := by
 have S0 : W16 (beginL ks ns n) := beginL_16 ks ns n ha.b8 hb.b8 hn
 refine x_enter 117 Tryz.func191 rfl rfl (fun a hs hd ha0 => ?_)
 have t0 : a.eval (.tmp 0) = .slice A (m) (c) := ha0 0 _ rfl
 have t1 : a.eval (.tmp 1) = .slice B (k) (d) := ha0 1 _ rfl
 have t2 : a.eval (.tmp 2) = .int .u32 ((n : Nat) : Int) := ha0 2 _ rfl
 clear ha0
 refine w2_sr (fun K_1 hK_1 => ?_)
 refine q_as (.slice none (0) (0)) rfl ?_
 refine x_nil (hK_1 _ _ ?_)
 refine w2_sr (fun K_2 hK_2 => ?_)
 refine q_mv ((pm rfl).trans t0) ?_
 refine q_mv ((pm rfl).trans t1) ?_
 refine q_mv ((pm rfl).trans t2) ?_
 refine q_ca (vs := #[.slice A (m) (c), .slice B (k) (d), .int .u32 ((n : Nat) : Int)]) Tryz.func210 (args3 (pe hs rfl rfl) (pe hs rfl rfl) (pe hs rfl rfl)) (begin_any n _ ha hb hm hk) (fun e_1 w_1 hR_1 => ?_)
 obtain ⟨rfl, hb_1⟩ := hR_1
 refine ⟨_, rfl, ?_⟩
 refine op_ex (d := 7) rfl rfl (o_alloc (zs := (iws .u32 (List.replicate 16 0)).toArray) rfl (fun _ => by kernel_rfl)) (fun v_1 w_2 hR_2 => ?_)
 obtain ⟨g_1, rfl, hle_1, hB_1, hb_2⟩ := hR_2
 have ge_1 : w.heap.size ≤ g_1 := Nat.le_trans hb_1.size hle_1
 have HB_1 := below_from hb_1 hb_2
 refine op_do rfl rfl (o_storeI rfl (pe hs rfl rfl) (pe hs rfl rfl) hB_1 (by rw [S0.1]; exact ⟨by kernel_rfl, by kernel_rfl⟩) (by rw [S0.1]; simp [iws])) (fun w_3 hR_3 => ?_)
 obtain ⟨hB_2, hX_1⟩ := hR_3
 have HB_2 := hX_1.below HB_1 HB_1.size (fun k hk => hk ▸ ge_1)
 clear hB_1
 refine x_nil (hK_2 _ _ ?_)
 refine w2_sr (fun K_3 hK_3 => ?_)
 refine q_v 20 (.agg (iws .u32 (beginL ks ns n)).toArray) (o_loadI rfl (pe hs rfl rfl) hB_2 (by rw [S0.1]; exact ⟨by kernel_rfl, by kernel_rfl⟩)) ?_
 refine op_ex (d := 8) rfl rfl (o_alloc (zs := (iws .u32 (List.replicate 16 0)).toArray) rfl (fun _ => by kernel_rfl)) (fun v_2 w_4 hR_4 => ?_)
 obtain ⟨g_2, rfl, hle_2, hB_3, hb_3⟩ := hR_4
 have ne_1 : g_1 ≠ g_2 := Nat.ne_of_lt (Nat.lt_of_lt_of_le hB_2.lt hle_2)
 have ge_2 : w.heap.size ≤ g_2 := Nat.le_trans HB_2.size hle_2
 replace hB_2 := hB_2.nx hb_3
 have HB_3 := below_from HB_2 hb_3
 refine op_do rfl rfl (o_storeI rfl (pe hs rfl rfl) (pe hs rfl rfl) hB_3 (by rw [S0.1]; exact ⟨by kernel_rfl, by kernel_rfl⟩) (by rw [S0.1]; simp [iws])) (fun w_5 hR_5 => ?_)
 obtain ⟨hB_4, hX_2⟩ := hR_5
 replace hB_2 := hX_2.blk hB_2 ne_1
 have HB_4 := hX_2.below HB_3 HB_3.size (fun k hk => hk ▸ ge_2)
 clear hB_3
 refine x_nil (hK_3 _ _ ?_)
 refine w2_seq (fun K_4 hK_4 => ?_)
 refine w2_sr (fun K_5 hK_5 => ?_)
 refine q_v 21 (.int .i64 ((0 : Nat) : Int)) (o_move rfl rfl) ?_
 refine x_nil (hK_5 _ _ ?_)
 refine w2_block (fun K_6 hK_6 => ?_)
 refine x_loop (fun nn aa ww => ∃ (R : Nat), nn = 10 - R ∧ aa.tmps.size = 117 ∧ aa.defers = [] ∧ aa.eval (.tmp 0) = .slice A (m) (c) ∧ aa.eval (.tmp 1) = .slice B (k) (d) ∧ aa.eval (.tmp 2) = .int .u32 ((n : Nat) : Int) ∧ aa.eval (.tmp 6) = .slice none (0) (0) ∧ aa.eval (.tmp 7) = .pointer (some ⟨g_1, 0, none⟩) ∧ aa.eval (.tmp 8) = .pointer (some ⟨g_2, 0, none⟩) ∧ aa.eval (.tmp 16) = .slice A (m) (c) ∧ aa.eval (.tmp 17) = .slice B (k) (d) ∧ aa.eval (.tmp 18) = .int .u32 ((n : Nat) : Int) ∧ aa.eval (.tmp 19) = .agg (iws .u32 (beginL ks ns n)).toArray ∧ aa.eval (.tmp 20) = .agg (iws .u32 (beginL ks ns n)).toArray ∧ aa.eval (.tmp 21) = .int .i64 ((R : Nat) : Int) ∧ R ≤ 10 ∧ Blk ww g_2 (iws .u32 (dbls (beginL ks ns n) R)).toArray 262 ∧ Blk ww g_1 (iws .u32 (beginL ks ns n)).toArray 262 ∧ Below w.heap.size w ww) (10) ?_ ?_
 ·exact ⟨0, rfl, (by rw [putsR_size]; exact hs), (by rw [putsR_defers]; exact hd), ((pm rfl).trans t0), ((pm rfl).trans t1), ((pm rfl).trans t2), (pe hs rfl rfl), (pe hs rfl rfl), (pe hs rfl rfl), (pe hs rfl rfl), (pe hs rfl rfl), (pe hs rfl rfl), (pe hs rfl rfl), (pe hs rfl rfl), (pe hs rfl rfl), by omega, hB_4, hB_2, HB_4⟩
 ·skip
  clear t0 t1 t2 hd hB_2 hB_4 HB_4
  rintro nna_1 a_1 w_6 ⟨R, hm_1, hs_1, hd_1, ta_1_0, ta_1_1, ta_1_2, ta_1_6, ta_1_7, ta_1_8, ta_1_16, ta_1_17, ta_1_18, ta_1_19, ta_1_20, ta_1_21, hR, BS, BF, HBL⟩ K_7 hK_7
  subst hm_1
  have S1 := S0.dbls R
  generalize hs1 : dbls (beginL ks ns n) R = s1 at BS S1
  refine w2_sr (fun K_8 hK_8 => ?_)
  refine q_v 22 (.bool (decide (R < 10))) (o_lss (m := R) (n := 10) rfl ((pm rfl).trans ta_1_21) rfl) ?_
  refine x_nil (hK_8 _ _ ?_)
  refine w2_seq (fun K_9 hK_9 => ?_)
  refine w2_split (pe hs_1 rfl rfl) (fun h_1 => ?_) (fun h_1 => ?_)
  ·simp only [DD9] at h_1
   refine w2_skip ?_
   refine hK_9 _ _ ?_
   refine w2_seq (fun K_10 hK_10 => ?_)
   refine w2_block (fun K_11 hK_11 => ?_)
   refine w2_seq (fun K_12 hK_12 => ?_)
   refine w2_sr (fun K_13 hK_13 => ?_)
   refine q_v 23 (.int .i64 ((0 : Nat) : Int)) (o_move rfl rfl) ?_
   refine x_nil (hK_13 _ _ ?_)
   refine w2_block (fun K_14 hK_14 => ?_)
   refine x_loop (fun nn aa ww => ∃ (K : Nat), nn = 4 - K ∧ aa.tmps.size = 117 ∧ aa.defers = [] ∧ aa.eval (.tmp 0) = .slice A (m) (c) ∧ aa.eval (.tmp 1) = .slice B (k) (d) ∧ aa.eval (.tmp 2) = .int .u32 ((n : Nat) : Int) ∧ aa.eval (.tmp 6) = .slice none (0) (0) ∧ aa.eval (.tmp 7) = .pointer (some ⟨g_1, 0, none⟩) ∧ aa.eval (.tmp 8) = .pointer (some ⟨g_2, 0, none⟩) ∧ aa.eval (.tmp 16) = .slice A (m) (c) ∧ aa.eval (.tmp 17) = .slice B (k) (d) ∧ aa.eval (.tmp 18) = .int .u32 ((n : Nat) : Int) ∧ aa.eval (.tmp 19) = .agg (iws .u32 (beginL ks ns n)).toArray ∧ aa.eval (.tmp 20) = .agg (iws .u32 (beginL ks ns n)).toArray ∧ aa.eval (.tmp 21) = .int .i64 ((R : Nat) : Int) ∧ aa.eval (.tmp 22) = .bool (decide (R < 10)) ∧ aa.eval (.tmp 23) = .int .i64 ((K : Nat) : Int) ∧ K ≤ 4 ∧ Blk ww g_2 (iws .u32 (cols s1 K)).toArray 262 ∧ Blk ww g_1 (iws .u32 (beginL ks ns n)).toArray 262 ∧ Below w.heap.size w ww) (4) ?_ ?_
   ·exact ⟨0, rfl, (by rw [putsR_size]; exact hs_1), (by rw [putsR_defers]; exact hd_1), ((pm rfl).trans ta_1_0), ((pm rfl).trans ta_1_1), ((pm rfl).trans ta_1_2), ((pm rfl).trans ta_1_6), ((pm rfl).trans ta_1_7), ((pm rfl).trans ta_1_8), ((pm rfl).trans ta_1_16), ((pm rfl).trans ta_1_17), ((pm rfl).trans ta_1_18), ((pm rfl).trans ta_1_19), ((pm rfl).trans ta_1_20), ((pm rfl).trans ta_1_21), (pe hs_1 rfl rfl), (pe hs_1 rfl rfl), by omega, BS, BF, HBL⟩
   ·skip
    clear ta_1_0 ta_1_1 ta_1_2 ta_1_6 ta_1_16 ta_1_17 ta_1_18 ta_1_19 ta_1_7 ta_1_20 ta_1_8 ta_1_21 hd_1 BS BF HBL
    rintro nna_2 a_2 w_7 ⟨K, hm_2, hs_2, hd_2, ta_2_0, ta_2_1, ta_2_2, ta_2_6, ta_2_7, ta_2_8, ta_2_16, ta_2_17, ta_2_18, ta_2_19, ta_2_20, ta_2_21, ta_2_22, ta_2_23, hK, BS, BF, HBL⟩ K_15 hK_15
    subst hm_2
    have HS := S1.cols K
    generalize hs : cols s1 K = s at BS HS
    have hs16 := HS.1
    refine w2_sr (fun K_16 hK_16 => ?_)
    refine q_v 24 (.bool (decide (K < 4))) (o_lss (m := K) (n := 4) rfl ((pm rfl).trans ta_2_23) rfl) ?_
    refine x_nil (hK_16 _ _ ?_)
    refine w2_seq (fun K_17 hK_17 => ?_)
    refine w2_split (pe hs_2 rfl rfl) (fun h_2 => ?_) (fun h_2 => ?_)
    ·simp only [DD9] at h_2
     refine w2_skip ?_
     refine hK_17 _ _ ?_
     refine w2_seq (fun K_18 hK_18 => ?_)
     refine w2_block (fun K_19 hK_19 => ?_)
     refine w2_sr (fun K_20 hK_20 => ?_)
     refine q_mv ((pm rfl).trans ta_2_23) ?_
     refine q_at (pe hs_2 rfl rfl) ?_
     refine x_nil (hK_20 _ _ ?_)
     obtain ⟨a0, ha0, la0⟩ : ∃ a, s.getD (K) 0 = a ∧ a < 4294967296 := ⟨_, rfl, HS.get _⟩
     obtain ⟨b0, hb0, lb0⟩ : ∃ a, s.getD (4 + K) 0 = a ∧ a < 4294967296 := ⟨_, rfl, HS.get _⟩
     obtain ⟨c0, hc0, lc0⟩ : ∃ a, s.getD (8 + K) 0 = a ∧ a < 4294967296 := ⟨_, rfl, HS.get _⟩
     obtain ⟨d0, hd0, ld0⟩ : ∃ a, s.getD (12 + K) 0 = a ∧ a < 4294967296 := ⟨_, rfl, HS.get _⟩
     obtain ⟨p0, p1, p2, p3, hq⟩ : ∃ p0 p1 p2 p3, qr a0 b0 c0 d0 = (p0, p1, p2, p3) := ⟨_, _, _, _, rfl⟩
     refine x_hot 34 colSK (colS (w.heap.size) K a0 b0 c0 d0 p0 p1 p2 p3 g_2) (fun L w => Blk w g_2 (iws .u32 (bif L 33 then (((s).set (K) p0).set (4 + K) p1).set (8 + K) p2 else bif L 31 then ((s).set (K) p0).set (4 + K) p1 else bif L 29 then (s).set (K) p0 else s)).toArray 262) (fun k => k = g_2) hs_2 hd_2 (by kernel_rfl) (by kernel_rfl) (by kernel_rfl) (by kernel_rfl) ?_ (fun L w w' h hb => h.old hb) (fun L i w hk h => by (have e29 : (29 == i) = false := (if e : i = 29 then absurd (by rw [e]; rfl) hk else by (simp only [beq_eq_false_iff_ne]; omega)); have e31 : (31 == i) = false := (if e : i = 31 then absurd (by rw [e]; rfl) hk else by (simp only [beq_eq_false_iff_ne]; omega)); have e33 : (33 == i) = false := (if e : i = 33 then absurd (by rw [e]; rfl) hk else by (simp only [beq_eq_false_iff_ne]; omega)); simp only [e29, e31, e33, Bool.or_false]; exact h)) ?_ BS (hots_all ?_) ?_
     ·exact fun i w w' v h hb => by revert h; unfold colS; split <;> exact id
     ·exact fun i w v hk h => by unfold colSK at hk; split at hk <;> cases hk
     ·simp only [List.take_succ_cons, List.take_zero, HotFrom]
      refine ⟨?_, ?_, ?_, ?_, ?_, ?_, ?_, ?_, ?_, ?_, ?_, ?_, ?_, ?_, ?_, ?_, ?_, ?_, ?_, ?_, ?_, ?_, ?_, ?_, ?_, ?_, ?_, ?_, ?_, ?_, ?_, ?_, ?_, ?_, trivial⟩
      ·refine hot_val rfl rfl (fun L a w' hat => ?_)
       have h0 : a.eval (.tmp 9) = .int .i64 ((K : Nat) : Int) := (hat.others 9 (by decide)).trans (pe hs_2 rfl rfl)
       exact out_of rfl h0
      ·refine hot_val rfl rfl (fun L a w' hat => ?_)
       have h0 : a.eval (.tmp 9) = .int .i64 ((K : Nat) : Int) := (hat.others 9 (by decide)).trans (pe hs_2 rfl rfl)
       exact out_of rfl h0
      ·refine hot_val rfl rfl (fun L a w' hat => ?_)
       have h0 : a.eval (.const (Value.int IntKind.i64 4)) = .int .i64 ((4 : Nat) : Int) := rfl
       have h1 : a.eval (.tmp 28) = .int .i64 ((K : Nat) : Int) := hat.deps ⟨1, .data⟩ (by simp) rfl 28 (by decide) rfl
       exact out_of (add_i64 rfl h0 h1 (by omega)) rfl
      ·refine hot_val rfl rfl (fun L a w' hat => ?_)
       have h0 : a.eval (.tmp 9) = .int .i64 ((K : Nat) : Int) := (hat.others 9 (by decide)).trans (pe hs_2 rfl rfl)
       exact out_of rfl h0
      ·refine hot_val rfl rfl (fun L a w' hat => ?_)
       have h0 : a.eval (.const (Value.int IntKind.i64 8)) = .int .i64 ((8 : Nat) : Int) := rfl
       have h1 : a.eval (.tmp 30) = .int .i64 ((K : Nat) : Int) := hat.deps ⟨3, .data⟩ (by simp) rfl 30 (by decide) rfl
       exact out_of (add_i64 rfl h0 h1 (by omega)) rfl
      ·refine hot_val rfl rfl (fun L a w' hat => ?_)
       have h0 : a.eval (.tmp 9) = .int .i64 ((K : Nat) : Int) := (hat.others 9 (by decide)).trans (pe hs_2 rfl rfl)
       exact out_of rfl h0
      ·refine hot_val rfl rfl (fun L a w' hat => ?_)
       have h0 : a.eval (.const (Value.int IntKind.i64 12)) = .int .i64 ((12 : Nat) : Int) := rfl
       have h1 : a.eval (.tmp 32) = .int .i64 ((K : Nat) : Int) := hat.deps ⟨5, .data⟩ (by simp) rfl 32 (by decide) rfl
       exact out_of (add_i64 rfl h0 h1 (by omega)) rfl
      ·refine hot_val rfl rfl (fun L a w' hat => ?_)
       have h0 : a.eval (.tmp 9) = .int .i64 ((K : Nat) : Int) := (hat.others 9 (by decide)).trans (pe hs_2 rfl rfl)
       exact out_of rfl h0
      ·refine hot_val rfl rfl (fun L a w' hat => ?_)
       have h0 : a.eval (.tmp 8) = .pointer (some ⟨g_2, 0, none⟩) := (hat.others 8 (by decide)).trans ((pm rfl).trans ta_2_8)
       have h1 : a.eval (.tmp 34) = .int .i64 ((K : Nat) : Int) := hat.deps ⟨7, .data⟩ (by simp) rfl 34 (by decide) rfl
       exact out_of (zero_off (o_ixA (k := 0) (n := 16) (e := 142) rfl h0 h1 (by omega) (fun _ => by kernel_rfl) (fun _ => by kernel_rfl))) rfl
      ·refine hot_val rfl rfl (fun L a w' hat => ?_)
       have h0 : a.eval (.tmp 35) = .pointer (some ⟨g_2, K, none⟩) := hat.deps ⟨8, .data⟩ (by simp) rfl 35 (by decide) rfl
       exact out_of (o_loadW rfl h0 (by (have h := hat.hot; simp only [hat.later 29 _ rfl (by kernel_rfl), hat.later 31 _ rfl (by kernel_rfl), hat.later 33 _ rfl (by kernel_rfl), cond_false] at h; exact h)) (by rw [hs16]; omega) ha0 ⟨by kernel_rfl, by kernel_rfl⟩) rfl
      ·refine hot_val rfl rfl (fun L a w' hat => ?_)
       have h0 : a.eval (.tmp 9) = .int .i64 ((K : Nat) : Int) := (hat.others 9 (by decide)).trans (pe hs_2 rfl rfl)
       exact out_of rfl h0
      ·refine hot_val rfl rfl (fun L a w' hat => ?_)
       have h0 : a.eval (.const (Value.int IntKind.i64 4)) = .int .i64 ((4 : Nat) : Int) := rfl
       have h1 : a.eval (.tmp 37) = .int .i64 ((K : Nat) : Int) := hat.deps ⟨10, .data⟩ (by simp) rfl 37 (by decide) rfl
       exact out_of (add_i64 rfl h0 h1 (by omega)) rfl
      ·refine hot_val rfl rfl (fun L a w' hat => ?_)
       have h0 : a.eval (.tmp 8) = .pointer (some ⟨g_2, 0, none⟩) := (hat.others 8 (by decide)).trans ((pm rfl).trans ta_2_8)
       have h1 : a.eval (.tmp 38) = .int .i64 ((4 + K : Nat) : Int) := hat.deps ⟨11, .data⟩ (by simp) rfl 38 (by decide) rfl
       exact out_of (zero_off (o_ixA (k := 0) (n := 16) (e := 142) rfl h0 h1 (by omega) (fun _ => by kernel_rfl) (fun _ => by kernel_rfl))) rfl
      ·refine hot_val rfl rfl (fun L a w' hat => ?_)
       have h0 : a.eval (.tmp 39) = .pointer (some ⟨g_2, 4 + K, none⟩) := hat.deps ⟨12, .data⟩ (by simp) rfl 39 (by decide) rfl
       exact out_of (o_loadW rfl h0 (by (have h := hat.hot; simp only [hat.later 29 _ rfl (by kernel_rfl), hat.later 31 _ rfl (by kernel_rfl), hat.later 33 _ rfl (by kernel_rfl), cond_false] at h; exact h)) (by rw [hs16]; omega) hb0 ⟨by kernel_rfl, by kernel_rfl⟩) rfl
      ·refine hot_val rfl rfl (fun L a w' hat => ?_)
       have h0 : a.eval (.tmp 9) = .int .i64 ((K : Nat) : Int) := (hat.others 9 (by decide)).trans (pe hs_2 rfl rfl)
       exact out_of rfl h0
      ·refine hot_val rfl rfl (fun L a w' hat => ?_)
       have h0 : a.eval (.const (Value.int IntKind.i64 8)) = .int .i64 ((8 : Nat) : Int) := rfl
       have h1 : a.eval (.tmp 41) = .int .i64 ((K : Nat) : Int) := hat.deps ⟨14, .data⟩ (by simp) rfl 41 (by decide) rfl
       exact out_of (add_i64 rfl h0 h1 (by omega)) rfl
      ·refine hot_val rfl rfl (fun L a w' hat => ?_)
       have h0 : a.eval (.tmp 8) = .pointer (some ⟨g_2, 0, none⟩) := (hat.others 8 (by decide)).trans ((pm rfl).trans ta_2_8)
       have h1 : a.eval (.tmp 42) = .int .i64 ((8 + K : Nat) : Int) := hat.deps ⟨15, .data⟩ (by simp) rfl 42 (by decide) rfl
       exact out_of (zero_off (o_ixA (k := 0) (n := 16) (e := 142) rfl h0 h1 (by omega) (fun _ => by kernel_rfl) (fun _ => by kernel_rfl))) rfl
      ·refine hot_val rfl rfl (fun L a w' hat => ?_)
       have h0 : a.eval (.tmp 43) = .pointer (some ⟨g_2, 8 + K, none⟩) := hat.deps ⟨16, .data⟩ (by simp) rfl 43 (by decide) rfl
       exact out_of (o_loadW rfl h0 (by (have h := hat.hot; simp only [hat.later 29 _ rfl (by kernel_rfl), hat.later 31 _ rfl (by kernel_rfl), hat.later 33 _ rfl (by kernel_rfl), cond_false] at h; exact h)) (by rw [hs16]; omega) hc0 ⟨by kernel_rfl, by kernel_rfl⟩) rfl
      ·refine hot_val rfl rfl (fun L a w' hat => ?_)
       have h0 : a.eval (.tmp 9) = .int .i64 ((K : Nat) : Int) := (hat.others 9 (by decide)).trans (pe hs_2 rfl rfl)
       exact out_of rfl h0
      ·refine hot_val rfl rfl (fun L a w' hat => ?_)
       have h0 : a.eval (.const (Value.int IntKind.i64 12)) = .int .i64 ((12 : Nat) : Int) := rfl
       have h1 : a.eval (.tmp 45) = .int .i64 ((K : Nat) : Int) := hat.deps ⟨18, .data⟩ (by simp) rfl 45 (by decide) rfl
       exact out_of (add_i64 rfl h0 h1 (by omega)) rfl
      ·refine hot_val rfl rfl (fun L a w' hat => ?_)
       have h0 : a.eval (.tmp 8) = .pointer (some ⟨g_2, 0, none⟩) := (hat.others 8 (by decide)).trans ((pm rfl).trans ta_2_8)
       have h1 : a.eval (.tmp 46) = .int .i64 ((12 + K : Nat) : Int) := hat.deps ⟨19, .data⟩ (by simp) rfl 46 (by decide) rfl
       exact out_of (zero_off (o_ixA (k := 0) (n := 16) (e := 142) rfl h0 h1 (by omega) (fun _ => by kernel_rfl) (fun _ => by kernel_rfl))) rfl
      ·refine hot_val rfl rfl (fun L a w' hat => ?_)
       have h0 : a.eval (.tmp 47) = .pointer (some ⟨g_2, 12 + K, none⟩) := hat.deps ⟨20, .data⟩ (by simp) rfl 47 (by decide) rfl
       exact out_of (o_loadW rfl h0 (by (have h := hat.hot; simp only [hat.later 29 _ rfl (by kernel_rfl), hat.later 31 _ rfl (by kernel_rfl), hat.later 33 _ rfl (by kernel_rfl), cond_false] at h; exact h)) (by rw [hs16]; omega) hd0 ⟨by kernel_rfl, by kernel_rfl⟩) rfl
      ·refine hot_val rfl rfl (fun L a w' hat => ?_)
       have h0 : a.eval (.tmp 36) = .int .u32 ((a0 : Nat) : Int) := hat.deps ⟨9, .data⟩ (by simp) rfl 36 (by decide) rfl
       have h1 : a.eval (.tmp 40) = .int .u32 ((b0 : Nat) : Int) := hat.deps ⟨13, .data⟩ (by simp) rfl 40 (by decide) rfl
       have h2 : a.eval (.tmp 44) = .int .u32 ((c0 : Nat) : Int) := hat.deps ⟨17, .data⟩ (by simp) rfl 44 (by decide) rfl
       have h3 : a.eval (.tmp 48) = .int .u32 ((d0 : Nat) : Int) := hat.deps ⟨21, .data⟩ (by simp) rfl 48 (by decide) rfl
       exact .inr ⟨_, #[.int .u32 ((a0 : Nat) : Int), .int .u32 ((b0 : Nat) : Int), .int .u32 ((c0 : Nat) : Int), .int .u32 ((d0 : Nat) : Int)], exec_call Tryz.func211 (by kernel_rfl) (by kernel_rfl) _ rfl _ _ (by simp [h0, h1, h2, h3]), (Quarter_any a0 b0 c0 d0 _ la0 lb0 lc0 ld0).mono (fun e w'' ⟨p, q, r, s, he, hq', _, _, _, _, hw⟩ => ⟨_, he, (by rw [hq] at hq'; simp only [Prod.mk.injEq] at hq'; obtain ⟨rfl, rfl, rfl, rfl⟩ := hq'; rfl), hw ▸ Below.refl _ _⟩)⟩
      ·refine hot_val rfl rfl (fun L a w' hat => ?_)
       have h0 : a.eval (.tmp 49) = .tuple #[.int .u32 ((p0 : Nat) : Int), .int .u32 ((p1 : Nat) : Int), .int .u32 ((p2 : Nat) : Int), .int .u32 ((p3 : Nat) : Int)] := hat.deps ⟨22, .data⟩ (by simp) rfl 49 (by decide) rfl
       exact out_of rfl h0
      ·refine hot_val rfl rfl (fun L a w' hat => ?_)
       have h0 : a.eval (.tmp 26) = .tuple #[.int .u32 ((p0 : Nat) : Int), .int .u32 ((p1 : Nat) : Int), .int .u32 ((p2 : Nat) : Int), .int .u32 ((p3 : Nat) : Int)] := hat.deps ⟨23, .data⟩ (by simp) rfl 26 (by decide) rfl
       exact out_of (v := .int .u32 ((p0 : Nat) : Int)) (by (generalize a.eval = ev at *); simp [execOp, go_sem, h0]) rfl
      ·refine hot_val rfl rfl (fun L a w' hat => ?_)
       have h0 : a.eval (.tmp 26) = .tuple #[.int .u32 ((p0 : Nat) : Int), .int .u32 ((p1 : Nat) : Int), .int .u32 ((p2 : Nat) : Int), .int .u32 ((p3 : Nat) : Int)] := hat.deps ⟨23, .data⟩ (by simp) rfl 26 (by decide) rfl
       exact out_of (v := .int .u32 ((p1 : Nat) : Int)) (by (generalize a.eval = ev at *); simp [execOp, go_sem, h0]) rfl
      ·refine hot_val rfl rfl (fun L a w' hat => ?_)
       have h0 : a.eval (.tmp 26) = .tuple #[.int .u32 ((p0 : Nat) : Int), .int .u32 ((p1 : Nat) : Int), .int .u32 ((p2 : Nat) : Int), .int .u32 ((p3 : Nat) : Int)] := hat.deps ⟨23, .data⟩ (by simp) rfl 26 (by decide) rfl
       exact out_of (v := .int .u32 ((p2 : Nat) : Int)) (by (generalize a.eval = ev at *); simp [execOp, go_sem, h0]) rfl
      ·refine hot_val rfl rfl (fun L a w' hat => ?_)
       have h0 : a.eval (.tmp 26) = .tuple #[.int .u32 ((p0 : Nat) : Int), .int .u32 ((p1 : Nat) : Int), .int .u32 ((p2 : Nat) : Int), .int .u32 ((p3 : Nat) : Int)] := hat.deps ⟨23, .data⟩ (by simp) rfl 26 (by decide) rfl
       exact out_of (v := .int .u32 ((p3 : Nat) : Int)) (by (generalize a.eval = ev at *); simp [execOp, go_sem, h0]) rfl
      ·refine hot_val rfl rfl (fun L a w' hat => ?_)
       have h0 : a.eval (.tmp 8) = .pointer (some ⟨g_2, 0, none⟩) := (hat.others 8 (by decide)).trans ((pm rfl).trans ta_2_8)
       have h1 : a.eval (.tmp 27) = .int .i64 ((K : Nat) : Int) := hat.deps ⟨0, .data⟩ (by simp) rfl 27 (by decide) rfl
       exact out_of (zero_off (o_ixA (k := 0) (n := 16) (e := 142) rfl h0 h1 (by omega) (fun _ => by kernel_rfl) (fun _ => by kernel_rfl))) rfl
      ·refine hot_store rfl (fun L a w' hat => ?_)
       have h0 : a.eval (.tmp 54) = .pointer (some ⟨g_2, K, none⟩) := hat.deps ⟨28, .data⟩ (by simp) rfl 54 (by decide) rfl
       have h1 : a.eval (.tmp 50) = .int .u32 ((p0 : Nat) : Int) := hat.deps ⟨24, .data⟩ (by simp) rfl 50 (by decide) rfl
       have f31 := hat.later 31 _ rfl (by kernel_rfl)
       have f33 := hat.later 33 _ rfl (by kernel_rfl)
       obtain ⟨z, hz, hz2, hH⟩ : ∃ z : List Nat, z.length = 16 ∧ z.set (K) p0 = (s).set (K) p0 ∧ Blk w' g_2 (iws .u32 z).toArray 262 := by (have hH := hat.hot; cases hL : L 29 <;> simp only [hL, f31, f33, cond_true, cond_false] at hH <;> exact ⟨_, by simp only [List.length_set, hs16], by simp only [List.set_set], hH⟩)
       exact hot_ex (o_storeW rfl h0 h1 hH (by rw [hz]; omega) ⟨by kernel_rfl, by kernel_rfl⟩) (fun w'' hN => by (simp only [f31, f33, Nat.reduceBEq, beq_self_eq_true, Bool.or_true, Bool.false_or, Bool.or_false, Bool.true_or, cond_true, cond_false]; rw [hz2] at hN; exact hN))
      ·refine hot_val rfl rfl (fun L a w' hat => ?_)
       have h0 : a.eval (.tmp 8) = .pointer (some ⟨g_2, 0, none⟩) := (hat.others 8 (by decide)).trans ((pm rfl).trans ta_2_8)
       have h1 : a.eval (.tmp 29) = .int .i64 ((4 + K : Nat) : Int) := hat.deps ⟨2, .data⟩ (by simp) rfl 29 (by decide) rfl
       exact out_of (zero_off (o_ixA (k := 0) (n := 16) (e := 142) rfl h0 h1 (by omega) (fun _ => by kernel_rfl) (fun _ => by kernel_rfl))) rfl
      ·refine hot_store rfl (fun L a w' hat => ?_)
       have h0 : a.eval (.tmp 55) = .pointer (some ⟨g_2, 4 + K, none⟩) := hat.deps ⟨30, .data⟩ (by simp) rfl 55 (by decide) rfl
       have h1 : a.eval (.tmp 51) = .int .u32 ((p1 : Nat) : Int) := hat.deps ⟨25, .data⟩ (by simp) rfl 51 (by decide) rfl
       have f33 := hat.later 33 _ rfl (by kernel_rfl)
       have f29 := hat.before 29 (by kernel_rfl)
       obtain ⟨z, hz, hz2, hH⟩ : ∃ z : List Nat, z.length = 16 ∧ z.set (4 + K) p1 = ((s).set (K) p0).set (4 + K) p1 ∧ Blk w' g_2 (iws .u32 z).toArray 262 := by (have hH := hat.hot; cases hL : L 31 <;> simp only [hL, f29, f33, cond_true, cond_false] at hH <;> exact ⟨_, by simp only [List.length_set, hs16], by simp only [List.set_set], hH⟩)
       exact hot_ex (o_storeW rfl h0 h1 hH (by rw [hz]; omega) ⟨by kernel_rfl, by kernel_rfl⟩) (fun w'' hN => by (simp only [f29, f33, Nat.reduceBEq, beq_self_eq_true, Bool.or_true, Bool.false_or, Bool.or_false, Bool.true_or, cond_true, cond_false]; rw [hz2] at hN; exact hN))
      ·refine hot_val rfl rfl (fun L a w' hat => ?_)
       have h0 : a.eval (.tmp 8) = .pointer (some ⟨g_2, 0, none⟩) := (hat.others 8 (by decide)).trans ((pm rfl).trans ta_2_8)
       have h1 : a.eval (.tmp 31) = .int .i64 ((8 + K : Nat) : Int) := hat.deps ⟨4, .data⟩ (by simp) rfl 31 (by decide) rfl
       exact out_of (zero_off (o_ixA (k := 0) (n := 16) (e := 142) rfl h0 h1 (by omega) (fun _ => by kernel_rfl) (fun _ => by kernel_rfl))) rfl
      ·refine hot_store rfl (fun L a w' hat => ?_)
       have h0 : a.eval (.tmp 56) = .pointer (some ⟨g_2, 8 + K, none⟩) := hat.deps ⟨32, .data⟩ (by simp) rfl 56 (by decide) rfl
       have h1 : a.eval (.tmp 52) = .int .u32 ((p2 : Nat) : Int) := hat.deps ⟨26, .data⟩ (by simp) rfl 52 (by decide) rfl
       have f29 := hat.before 29 (by kernel_rfl)
       have f31 := hat.before 31 (by kernel_rfl)
       obtain ⟨z, hz, hz2, hH⟩ : ∃ z : List Nat, z.length = 16 ∧ z.set (8 + K) p2 = (((s).set (K) p0).set (4 + K) p1).set (8 + K) p2 ∧ Blk w' g_2 (iws .u32 z).toArray 262 := by (have hH := hat.hot; cases hL : L 33 <;> simp only [hL, f29, f31, cond_true, cond_false] at hH <;> exact ⟨_, by simp only [List.length_set, hs16], by simp only [List.set_set], hH⟩)
       exact hot_ex (o_storeW rfl h0 h1 hH (by rw [hz]; omega) ⟨by kernel_rfl, by kernel_rfl⟩) (fun w'' hN => by (simp only [f29, f31, Nat.reduceBEq, beq_self_eq_true, Bool.or_true, Bool.false_or, Bool.or_false, Bool.true_or, cond_true, cond_false]; rw [hz2] at hN; exact hN))
     intro L a_3 w_8 hs_3 hd_3 hbx_1 hO_1 hV_1 hall_1 hH_1
     have hB_5 : Blk w_8 g_2 (iws .u32 ((((s).set (K) p0).set (4 + K) p1).set (8 + K) p2)).toArray 262 := by (have h := hH_1; simp only [hall_1 33 (by omega), cond_true] at h; exact h)
     have ta_3_0 := (hO_1 0 (by decide)).trans ((pm rfl).trans ta_2_0)
     have ta_3_1 := (hO_1 1 (by decide)).trans ((pm rfl).trans ta_2_1)
     have ta_3_2 := (hO_1 2 (by decide)).trans ((pm rfl).trans ta_2_2)
     have ta_3_6 := (hO_1 6 (by decide)).trans ((pm rfl).trans ta_2_6)
     have ta_3_16 := (hO_1 16 (by decide)).trans ((pm rfl).trans ta_2_16)
     have ta_3_17 := (hO_1 17 (by decide)).trans ((pm rfl).trans ta_2_17)
     have ta_3_18 := (hO_1 18 (by decide)).trans ((pm rfl).trans ta_2_18)
     have ta_3_19 := (hO_1 19 (by decide)).trans ((pm rfl).trans ta_2_19)
     have ta_3_7 := (hO_1 7 (by decide)).trans ((pm rfl).trans ta_2_7)
     have ta_3_20 := (hO_1 20 (by decide)).trans ((pm rfl).trans ta_2_20)
     have ta_3_8 := (hO_1 8 (by decide)).trans ((pm rfl).trans ta_2_8)
     have ta_3_21 := (hO_1 21 (by decide)).trans ((pm rfl).trans ta_2_21)
     have ta_3_22 := (hO_1 22 (by decide)).trans ((pm rfl).trans ta_2_22)
     have ta_3_23 := (hO_1 23 (by decide)).trans ((pm rfl).trans ta_2_23)
     have ta_3_33 : a_3.eval (.tmp 33) = .int .i64 ((12 + K : Nat) : Int) := hV_1 6 (by omega) (by decide) 33 rfl
     have ta_3_53 : a_3.eval (.tmp 53) = .int .u32 ((p3 : Nat) : Int) := hV_1 27 (by omega) (by decide) 53 rfl
     clear hO_1 hV_1 hall_1 hH_1
     clear ta_2_0 ta_2_1 ta_2_2 ta_2_6 ta_2_16 ta_2_17 ta_2_18 ta_2_19 ta_2_7 ta_2_20 ta_2_8 ta_2_21 ta_2_22 ta_2_23
     clear BS
     replace BF := hbx_1.blk BF ne_1
     have HB_5 := hbx_1.below HBL HBL.size (fun k hk => hk ▸ ge_2)
     simp only [List.drop_succ_cons, List.drop_zero]
     refine op_val (d := 57) (v := .pointer (some ⟨g_2, 12 + K, none⟩)) rfl rfl (zero_off (o_ixA (k := 0) (i := 12 + K) (n := 16) (e := 142) rfl ((pm rfl).trans ta_3_8) ((pm rfl).trans ta_3_33) (by omega) (fun _ => by kernel_rfl) (fun _ => by kernel_rfl))) ?_
     refine op_do rfl rfl (o_storeW rfl (pe hs_3 rfl rfl) ((pm rfl).trans ta_3_53) hB_5 (by simp only [List.length_set, List.length_set, List.length_set, hs16]; omega) ⟨by kernel_rfl, by kernel_rfl⟩) (fun w_9 hR_6 => ?_)
     obtain ⟨hB_6, hX_3⟩ := hR_6
     replace BF := hX_3.blk BF ne_1
     have HB_6 := hX_3.below HB_5 HB_5.size (fun k hk => hk ▸ ge_2)
     clear hB_5
     refine x_nil (hK_19 _ _ ?_)
     refine hK_18 _ _ ?_
     refine x_region (by kernel_rfl) ?_
     refine q_v 58 (.int .i64 ((K + 1 : Nat) : Int)) (o_add64 (m := K) (n := 1) rfl ((pm rfl).trans ta_3_23) rfl (by omega)) ?_
     refine q_mv (pe hs_3 rfl rfl) ?_
     refine x_nil ?_
     refine hK_15 _ _ _ ⟨K + 1, rfl, (by rw [putsR_size]; exact hs_3), (by rw [putsR_defers]; exact hd_3), ((pm rfl).trans ta_3_0), ((pm rfl).trans ta_3_1), ((pm rfl).trans ta_3_2), ((pm rfl).trans ta_3_6), ((pm rfl).trans ta_3_7), ((pm rfl).trans ta_3_8), ((pm rfl).trans ta_3_16), ((pm rfl).trans ta_3_17), ((pm rfl).trans ta_3_18), ((pm rfl).trans ta_3_19), ((pm rfl).trans ta_3_20), ((pm rfl).trans ta_3_21), ((pm rfl).trans ta_3_22), (pe hs_3 rfl rfl), (by omega), (by rw [cols, hs, qrAt_eq (a := p0) (b := p1) (c := p2) (d := p3) (by rw [ha0, hb0, hc0, hd0]; exact hq)]; exact hB_6), BF, HB_6⟩ ?_
     omega
    ·simp only [DD9] at h_2
     obtain rfl : K = 4 := by omega
     have S2 := HS
     obtain ⟨s2, hs2⟩ : ∃ z, s = z := ⟨_, rfl⟩
     rw [hs2] at BS S2
     have hs2' := hs.trans hs2
     clear HS hs16 hs hs2
     refine w2_exit ?_
     refine thn_exit ?_
     refine thn_exit ?_
     refine exb_hit ?_
     refine hK_14 _ _ ?_
     refine hK_12 _ _ ?_
     refine w2_sr (fun K_21 hK_21 => ?_)
     refine q_v 59 (.int .i64 ((0 : Nat) : Int)) (o_move rfl rfl) ?_
     refine x_nil (hK_21 _ _ ?_)
     refine w2_block (fun K_22 hK_22 => ?_)
     refine x_loop (fun nn aa ww => ∃ (K : Nat), nn = 4 - K ∧ aa.tmps.size = 117 ∧ aa.defers = [] ∧ aa.eval (.tmp 0) = .slice A (m) (c) ∧ aa.eval (.tmp 1) = .slice B (k) (d) ∧ aa.eval (.tmp 2) = .int .u32 ((n : Nat) : Int) ∧ aa.eval (.tmp 6) = .slice none (0) (0) ∧ aa.eval (.tmp 7) = .pointer (some ⟨g_1, 0, none⟩) ∧ aa.eval (.tmp 8) = .pointer (some ⟨g_2, 0, none⟩) ∧ aa.eval (.tmp 16) = .slice A (m) (c) ∧ aa.eval (.tmp 17) = .slice B (k) (d) ∧ aa.eval (.tmp 18) = .int .u32 ((n : Nat) : Int) ∧ aa.eval (.tmp 19) = .agg (iws .u32 (beginL ks ns n)).toArray ∧ aa.eval (.tmp 20) = .agg (iws .u32 (beginL ks ns n)).toArray ∧ aa.eval (.tmp 21) = .int .i64 ((R : Nat) : Int) ∧ aa.eval (.tmp 22) = .bool (decide (R < 10)) ∧ aa.eval (.tmp 23) = .int .i64 ((4 : Nat) : Int) ∧ aa.eval (.tmp 24) = .bool (decide (4 < 4)) ∧ aa.eval (.tmp 59) = .int .i64 ((K : Nat) : Int) ∧ K ≤ 4 ∧ Blk ww g_2 (iws .u32 (diags s2 K)).toArray 262 ∧ Blk ww g_1 (iws .u32 (beginL ks ns n)).toArray 262 ∧ Below w.heap.size w ww) (4) ?_ ?_
     ·exact ⟨0, rfl, (by rw [putsR_size]; exact hs_2), (by rw [putsR_defers]; exact hd_2), ((pm rfl).trans ta_2_0), ((pm rfl).trans ta_2_1), ((pm rfl).trans ta_2_2), ((pm rfl).trans ta_2_6), ((pm rfl).trans ta_2_7), ((pm rfl).trans ta_2_8), ((pm rfl).trans ta_2_16), ((pm rfl).trans ta_2_17), ((pm rfl).trans ta_2_18), ((pm rfl).trans ta_2_19), ((pm rfl).trans ta_2_20), ((pm rfl).trans ta_2_21), ((pm rfl).trans ta_2_22), ((pm rfl).trans ta_2_23), (pe hs_2 rfl rfl), (pe hs_2 rfl rfl), by omega, BS, BF, HBL⟩
     ·skip
      clear ta_2_0 ta_2_1 ta_2_2 ta_2_6 ta_2_16 ta_2_17 ta_2_18 ta_2_19 ta_2_7 ta_2_20 ta_2_8 ta_2_21 ta_2_22 ta_2_23 hd_2 BS BF HBL
      rintro nna_4 a_4 w_10 ⟨K, hm_3, hs_4, hd_4, ta_4_0, ta_4_1, ta_4_2, ta_4_6, ta_4_7, ta_4_8, ta_4_16, ta_4_17, ta_4_18, ta_4_19, ta_4_20, ta_4_21, ta_4_22, ta_4_23, ta_4_24, ta_4_59, hK, BS, BF, HBL⟩ K_23 hK_23
      subst hm_3
      have HS := S2.diags K
      generalize hs : diags s2 K = s at BS HS
      have hs16 := HS.1
      refine w2_sr (fun K_24 hK_24 => ?_)
      refine q_v 60 (.bool (decide (K < 4))) (o_lss (m := K) (n := 4) rfl ((pm rfl).trans ta_4_59) rfl) ?_
      refine x_nil (hK_24 _ _ ?_)
      refine w2_seq (fun K_25 hK_25 => ?_)
      refine w2_split (pe hs_4 rfl rfl) (fun h_3 => ?_) (fun h_3 => ?_)
      ·simp only [DD9] at h_3
       refine w2_skip ?_
       refine hK_25 _ _ ?_
       refine w2_seq (fun K_26 hK_26 => ?_)
       refine w2_block (fun K_27 hK_27 => ?_)
       refine w2_sr (fun K_28 hK_28 => ?_)
       refine q_mv ((pm rfl).trans ta_4_59) ?_
       refine q_at (pe hs_4 rfl rfl) ?_
       refine x_nil (hK_28 _ _ ?_)
       refine w2_sr (fun K_29 hK_29 => ?_)
       refine q_mv (pe hs_4 rfl rfl) ?_
       refine q_v 63 (.int .i64 ((K + 1 : Nat) : Int)) (o_add64 (m := K) (n := 1) rfl (pe hs_4 rfl rfl) rfl (by omega)) ?_
       refine q_v 64 (.int .i64 (((K + 1) % 4 : Nat) : Int)) (o_rem (m := (K + 1)) (n := 4) rfl (pe hs_4 rfl rfl) rfl (by omega) (IntWalk.i64_in _ (by omega))) ?_
       refine q_v 65 (.int .i64 ((4 + ((K + 1) % 4) : Nat) : Int)) (o_add64 (m := 4) (n := ((K + 1) % 4)) rfl rfl (pe hs_4 rfl rfl) (by omega)) ?_
       refine q_mv (pe hs_4 rfl rfl) ?_
       refine q_v 67 (.int .i64 ((K + 2 : Nat) : Int)) (o_add64 (m := K) (n := 2) rfl (pe hs_4 rfl rfl) rfl (by omega)) ?_
       refine q_v 68 (.int .i64 (((K + 2) % 4 : Nat) : Int)) (o_rem (m := (K + 2)) (n := 4) rfl (pe hs_4 rfl rfl) rfl (by omega) (IntWalk.i64_in _ (by omega))) ?_
       refine q_v 69 (.int .i64 ((8 + ((K + 2) % 4) : Nat) : Int)) (o_add64 (m := 8) (n := ((K + 2) % 4)) rfl rfl (pe hs_4 rfl rfl) (by omega)) ?_
       refine q_mv (pe hs_4 rfl rfl) ?_
       refine q_v 71 (.int .i64 ((K + 3 : Nat) : Int)) (o_add64 (m := K) (n := 3) rfl (pe hs_4 rfl rfl) rfl (by omega)) ?_
       refine q_v 72 (.int .i64 (((K + 3) % 4 : Nat) : Int)) (o_rem (m := (K + 3)) (n := 4) rfl (pe hs_4 rfl rfl) rfl (by omega) (IntWalk.i64_in _ (by omega))) ?_
       refine q_v 73 (.int .i64 ((12 + ((K + 3) % 4) : Nat) : Int)) (o_add64 (m := 12) (n := ((K + 3) % 4)) rfl rfl (pe hs_4 rfl rfl) (by omega)) ?_
       refine q_at (pe hs_4 rfl rfl) ?_
       refine q_at (pe hs_4 rfl rfl) ?_
       refine q_at (pe hs_4 rfl rfl) ?_
       refine x_nil ?_
       generalize hbb : 4 + (K + 1) % 4 = bb
       generalize hcc : 8 + (K + 2) % 4 = cc
       generalize hdd : 12 + (K + 3) % 4 = dd
       refine hK_29 _ _ ?_
       obtain ⟨a0, ha0, la0⟩ : ∃ a, s.getD (K) 0 = a ∧ a < 4294967296 := ⟨_, rfl, HS.get _⟩
       obtain ⟨b0, hb0, lb0⟩ : ∃ a, s.getD (bb) 0 = a ∧ a < 4294967296 := ⟨_, rfl, HS.get _⟩
       obtain ⟨c0, hc0, lc0⟩ : ∃ a, s.getD (cc) 0 = a ∧ a < 4294967296 := ⟨_, rfl, HS.get _⟩
       obtain ⟨d0, hd0, ld0⟩ : ∃ a, s.getD (dd) 0 = a ∧ a < 4294967296 := ⟨_, rfl, HS.get _⟩
       obtain ⟨p0, p1, p2, p3, hq⟩ : ∃ p0 p1 p2 p3, qr a0 b0 c0 d0 = (p0, p1, p2, p3) := ⟨_, _, _, _, rfl⟩
       refine x_hot 28 diaSK (diaS (w.heap.size) K a0 b0 c0 d0 p0 p1 p2 p3 g_2 bb cc dd) (fun L w => Blk w g_2 (iws .u32 (bif L 27 then (((s).set (K) p0).set (bb) p1).set (cc) p2 else bif L 25 then ((s).set (K) p0).set (bb) p1 else bif L 23 then (s).set (K) p0 else s)).toArray 262) (fun k => k = g_2) hs_4 hd_4 (by kernel_rfl) (by kernel_rfl) (by kernel_rfl) (by kernel_rfl) ?_ (fun L w w' h hb => h.old hb) (fun L i w hk h => by (have e23 : (23 == i) = false := (if e : i = 23 then absurd (by rw [e]; rfl) hk else by (simp only [beq_eq_false_iff_ne]; omega)); have e25 : (25 == i) = false := (if e : i = 25 then absurd (by rw [e]; rfl) hk else by (simp only [beq_eq_false_iff_ne]; omega)); have e27 : (27 == i) = false := (if e : i = 27 then absurd (by rw [e]; rfl) hk else by (simp only [beq_eq_false_iff_ne]; omega)); simp only [e23, e25, e27, Bool.or_false]; exact h)) ?_ BS (hots_all ?_) ?_
       ·exact fun i w w' v h hb => by revert h; unfold diaS; split <;> exact id
       ·exact fun i w v hk h => by unfold diaSK at hk; split at hk <;> cases hk
       ·simp only [List.take_succ_cons, List.take_zero, HotFrom]
        refine ⟨?_, ?_, ?_, ?_, ?_, ?_, ?_, ?_, ?_, ?_, ?_, ?_, ?_, ?_, ?_, ?_, ?_, ?_, ?_, ?_, ?_, ?_, ?_, ?_, ?_, ?_, ?_, ?_, trivial⟩
        ·refine hot_val rfl rfl (fun L a w' hat => ?_)
         have h0 : a.eval (.tmp 10) = .int .i64 ((K : Nat) : Int) := (hat.others 10 (by decide)).trans (pe hs_4 rfl rfl)
         exact out_of rfl h0
        ·refine hot_val rfl rfl (fun L a w' hat => ?_)
         have h0 : a.eval (.tmp 11) = .int .i64 ((bb : Nat) : Int) := (hat.others 11 (by decide)).trans (pe hs_4 rfl rfl)
         exact out_of rfl h0
        ·refine hot_val rfl rfl (fun L a w' hat => ?_)
         have h0 : a.eval (.tmp 12) = .int .i64 ((cc : Nat) : Int) := (hat.others 12 (by decide)).trans (pe hs_4 rfl rfl)
         exact out_of rfl h0
        ·refine hot_val rfl rfl (fun L a w' hat => ?_)
         have h0 : a.eval (.tmp 13) = .int .i64 ((dd : Nat) : Int) := (hat.others 13 (by decide)).trans (pe hs_4 rfl rfl)
         exact out_of rfl h0
        ·refine hot_val rfl rfl (fun L a w' hat => ?_)
         have h0 : a.eval (.tmp 10) = .int .i64 ((K : Nat) : Int) := (hat.others 10 (by decide)).trans (pe hs_4 rfl rfl)
         exact out_of rfl h0
        ·refine hot_val rfl rfl (fun L a w' hat => ?_)
         have h0 : a.eval (.tmp 8) = .pointer (some ⟨g_2, 0, none⟩) := (hat.others 8 (by decide)).trans ((pm rfl).trans ta_4_8)
         have h1 : a.eval (.tmp 79) = .int .i64 ((K : Nat) : Int) := hat.deps ⟨4, .data⟩ (by simp) rfl 79 (by decide) rfl
         exact out_of (zero_off (o_ixA (k := 0) (n := 16) (e := 142) rfl h0 h1 (by omega) (fun _ => by kernel_rfl) (fun _ => by kernel_rfl))) rfl
        ·refine hot_val rfl rfl (fun L a w' hat => ?_)
         have h0 : a.eval (.tmp 80) = .pointer (some ⟨g_2, K, none⟩) := hat.deps ⟨5, .data⟩ (by simp) rfl 80 (by decide) rfl
         exact out_of (o_loadW rfl h0 (by (have h := hat.hot; simp only [hat.later 23 _ rfl (by kernel_rfl), hat.later 25 _ rfl (by kernel_rfl), hat.later 27 _ rfl (by kernel_rfl), cond_false] at h; exact h)) (by rw [hs16]; omega) ha0 ⟨by kernel_rfl, by kernel_rfl⟩) rfl
        ·refine hot_val rfl rfl (fun L a w' hat => ?_)
         have h0 : a.eval (.tmp 11) = .int .i64 ((bb : Nat) : Int) := (hat.others 11 (by decide)).trans (pe hs_4 rfl rfl)
         exact out_of rfl h0
        ·refine hot_val rfl rfl (fun L a w' hat => ?_)
         have h0 : a.eval (.tmp 8) = .pointer (some ⟨g_2, 0, none⟩) := (hat.others 8 (by decide)).trans ((pm rfl).trans ta_4_8)
         have h1 : a.eval (.tmp 82) = .int .i64 ((bb : Nat) : Int) := hat.deps ⟨7, .data⟩ (by simp) rfl 82 (by decide) rfl
         exact out_of (zero_off (o_ixA (k := 0) (n := 16) (e := 142) rfl h0 h1 (by omega) (fun _ => by kernel_rfl) (fun _ => by kernel_rfl))) rfl
        ·refine hot_val rfl rfl (fun L a w' hat => ?_)
         have h0 : a.eval (.tmp 83) = .pointer (some ⟨g_2, bb, none⟩) := hat.deps ⟨8, .data⟩ (by simp) rfl 83 (by decide) rfl
         exact out_of (o_loadW rfl h0 (by (have h := hat.hot; simp only [hat.later 23 _ rfl (by kernel_rfl), hat.later 25 _ rfl (by kernel_rfl), hat.later 27 _ rfl (by kernel_rfl), cond_false] at h; exact h)) (by rw [hs16]; omega) hb0 ⟨by kernel_rfl, by kernel_rfl⟩) rfl
        ·refine hot_val rfl rfl (fun L a w' hat => ?_)
         have h0 : a.eval (.tmp 12) = .int .i64 ((cc : Nat) : Int) := (hat.others 12 (by decide)).trans (pe hs_4 rfl rfl)
         exact out_of rfl h0
        ·refine hot_val rfl rfl (fun L a w' hat => ?_)
         have h0 : a.eval (.tmp 8) = .pointer (some ⟨g_2, 0, none⟩) := (hat.others 8 (by decide)).trans ((pm rfl).trans ta_4_8)
         have h1 : a.eval (.tmp 85) = .int .i64 ((cc : Nat) : Int) := hat.deps ⟨10, .data⟩ (by simp) rfl 85 (by decide) rfl
         exact out_of (zero_off (o_ixA (k := 0) (n := 16) (e := 142) rfl h0 h1 (by omega) (fun _ => by kernel_rfl) (fun _ => by kernel_rfl))) rfl
        ·refine hot_val rfl rfl (fun L a w' hat => ?_)
         have h0 : a.eval (.tmp 86) = .pointer (some ⟨g_2, cc, none⟩) := hat.deps ⟨11, .data⟩ (by simp) rfl 86 (by decide) rfl
         exact out_of (o_loadW rfl h0 (by (have h := hat.hot; simp only [hat.later 23 _ rfl (by kernel_rfl), hat.later 25 _ rfl (by kernel_rfl), hat.later 27 _ rfl (by kernel_rfl), cond_false] at h; exact h)) (by rw [hs16]; omega) hc0 ⟨by kernel_rfl, by kernel_rfl⟩) rfl
        ·refine hot_val rfl rfl (fun L a w' hat => ?_)
         have h0 : a.eval (.tmp 13) = .int .i64 ((dd : Nat) : Int) := (hat.others 13 (by decide)).trans (pe hs_4 rfl rfl)
         exact out_of rfl h0
        ·refine hot_val rfl rfl (fun L a w' hat => ?_)
         have h0 : a.eval (.tmp 8) = .pointer (some ⟨g_2, 0, none⟩) := (hat.others 8 (by decide)).trans ((pm rfl).trans ta_4_8)
         have h1 : a.eval (.tmp 88) = .int .i64 ((dd : Nat) : Int) := hat.deps ⟨13, .data⟩ (by simp) rfl 88 (by decide) rfl
         exact out_of (zero_off (o_ixA (k := 0) (n := 16) (e := 142) rfl h0 h1 (by omega) (fun _ => by kernel_rfl) (fun _ => by kernel_rfl))) rfl
        ·refine hot_val rfl rfl (fun L a w' hat => ?_)
         have h0 : a.eval (.tmp 89) = .pointer (some ⟨g_2, dd, none⟩) := hat.deps ⟨14, .data⟩ (by simp) rfl 89 (by decide) rfl
         exact out_of (o_loadW rfl h0 (by (have h := hat.hot; simp only [hat.later 23 _ rfl (by kernel_rfl), hat.later 25 _ rfl (by kernel_rfl), hat.later 27 _ rfl (by kernel_rfl), cond_false] at h; exact h)) (by rw [hs16]; omega) hd0 ⟨by kernel_rfl, by kernel_rfl⟩) rfl
        ·refine hot_val rfl rfl (fun L a w' hat => ?_)
         have h0 : a.eval (.tmp 81) = .int .u32 ((a0 : Nat) : Int) := hat.deps ⟨6, .data⟩ (by simp) rfl 81 (by decide) rfl
         have h1 : a.eval (.tmp 84) = .int .u32 ((b0 : Nat) : Int) := hat.deps ⟨9, .data⟩ (by simp) rfl 84 (by decide) rfl
         have h2 : a.eval (.tmp 87) = .int .u32 ((c0 : Nat) : Int) := hat.deps ⟨12, .data⟩ (by simp) rfl 87 (by decide) rfl
         have h3 : a.eval (.tmp 90) = .int .u32 ((d0 : Nat) : Int) := hat.deps ⟨15, .data⟩ (by simp) rfl 90 (by decide) rfl
         exact .inr ⟨_, #[.int .u32 ((a0 : Nat) : Int), .int .u32 ((b0 : Nat) : Int), .int .u32 ((c0 : Nat) : Int), .int .u32 ((d0 : Nat) : Int)], exec_call Tryz.func211 (by kernel_rfl) (by kernel_rfl) _ rfl _ _ (by simp [h0, h1, h2, h3]), (Quarter_any a0 b0 c0 d0 _ la0 lb0 lc0 ld0).mono (fun e w'' ⟨p, q, r, s, he, hq', _, _, _, _, hw⟩ => ⟨_, he, (by rw [hq] at hq'; simp only [Prod.mk.injEq] at hq'; obtain ⟨rfl, rfl, rfl, rfl⟩ := hq'; rfl), hw ▸ Below.refl _ _⟩)⟩
        ·refine hot_val rfl rfl (fun L a w' hat => ?_)
         have h0 : a.eval (.tmp 91) = .tuple #[.int .u32 ((p0 : Nat) : Int), .int .u32 ((p1 : Nat) : Int), .int .u32 ((p2 : Nat) : Int), .int .u32 ((p3 : Nat) : Int)] := hat.deps ⟨16, .data⟩ (by simp) rfl 91 (by decide) rfl
         exact out_of rfl h0
        ·refine hot_val rfl rfl (fun L a w' hat => ?_)
         have h0 : a.eval (.tmp 74) = .tuple #[.int .u32 ((p0 : Nat) : Int), .int .u32 ((p1 : Nat) : Int), .int .u32 ((p2 : Nat) : Int), .int .u32 ((p3 : Nat) : Int)] := hat.deps ⟨17, .data⟩ (by simp) rfl 74 (by decide) rfl
         exact out_of (v := .int .u32 ((p0 : Nat) : Int)) (by (generalize a.eval = ev at *); simp [execOp, go_sem, h0]) rfl
        ·refine hot_val rfl rfl (fun L a w' hat => ?_)
         have h0 : a.eval (.tmp 74) = .tuple #[.int .u32 ((p0 : Nat) : Int), .int .u32 ((p1 : Nat) : Int), .int .u32 ((p2 : Nat) : Int), .int .u32 ((p3 : Nat) : Int)] := hat.deps ⟨17, .data⟩ (by simp) rfl 74 (by decide) rfl
         exact out_of (v := .int .u32 ((p1 : Nat) : Int)) (by (generalize a.eval = ev at *); simp [execOp, go_sem, h0]) rfl
        ·refine hot_val rfl rfl (fun L a w' hat => ?_)
         have h0 : a.eval (.tmp 74) = .tuple #[.int .u32 ((p0 : Nat) : Int), .int .u32 ((p1 : Nat) : Int), .int .u32 ((p2 : Nat) : Int), .int .u32 ((p3 : Nat) : Int)] := hat.deps ⟨17, .data⟩ (by simp) rfl 74 (by decide) rfl
         exact out_of (v := .int .u32 ((p2 : Nat) : Int)) (by (generalize a.eval = ev at *); simp [execOp, go_sem, h0]) rfl
        ·refine hot_val rfl rfl (fun L a w' hat => ?_)
         have h0 : a.eval (.tmp 74) = .tuple #[.int .u32 ((p0 : Nat) : Int), .int .u32 ((p1 : Nat) : Int), .int .u32 ((p2 : Nat) : Int), .int .u32 ((p3 : Nat) : Int)] := hat.deps ⟨17, .data⟩ (by simp) rfl 74 (by decide) rfl
         exact out_of (v := .int .u32 ((p3 : Nat) : Int)) (by (generalize a.eval = ev at *); simp [execOp, go_sem, h0]) rfl
        ·refine hot_val rfl rfl (fun L a w' hat => ?_)
         have h0 : a.eval (.tmp 8) = .pointer (some ⟨g_2, 0, none⟩) := (hat.others 8 (by decide)).trans ((pm rfl).trans ta_4_8)
         have h1 : a.eval (.tmp 75) = .int .i64 ((K : Nat) : Int) := hat.deps ⟨0, .data⟩ (by simp) rfl 75 (by decide) rfl
         exact out_of (zero_off (o_ixA (k := 0) (n := 16) (e := 142) rfl h0 h1 (by omega) (fun _ => by kernel_rfl) (fun _ => by kernel_rfl))) rfl
        ·refine hot_store rfl (fun L a w' hat => ?_)
         have h0 : a.eval (.tmp 96) = .pointer (some ⟨g_2, K, none⟩) := hat.deps ⟨22, .data⟩ (by simp) rfl 96 (by decide) rfl
         have h1 : a.eval (.tmp 92) = .int .u32 ((p0 : Nat) : Int) := hat.deps ⟨18, .data⟩ (by simp) rfl 92 (by decide) rfl
         have f25 := hat.later 25 _ rfl (by kernel_rfl)
         have f27 := hat.later 27 _ rfl (by kernel_rfl)
         obtain ⟨z, hz, hz2, hH⟩ : ∃ z : List Nat, z.length = 16 ∧ z.set (K) p0 = (s).set (K) p0 ∧ Blk w' g_2 (iws .u32 z).toArray 262 := by (have hH := hat.hot; cases hL : L 23 <;> simp only [hL, f25, f27, cond_true, cond_false] at hH <;> exact ⟨_, by simp only [List.length_set, hs16], by simp only [List.set_set], hH⟩)
         exact hot_ex (o_storeW rfl h0 h1 hH (by rw [hz]; omega) ⟨by kernel_rfl, by kernel_rfl⟩) (fun w'' hN => by (simp only [f25, f27, Nat.reduceBEq, beq_self_eq_true, Bool.or_true, Bool.false_or, Bool.or_false, Bool.true_or, cond_true, cond_false]; rw [hz2] at hN; exact hN))
        ·refine hot_val rfl rfl (fun L a w' hat => ?_)
         have h0 : a.eval (.tmp 8) = .pointer (some ⟨g_2, 0, none⟩) := (hat.others 8 (by decide)).trans ((pm rfl).trans ta_4_8)
         have h1 : a.eval (.tmp 76) = .int .i64 ((bb : Nat) : Int) := hat.deps ⟨1, .data⟩ (by simp) rfl 76 (by decide) rfl
         exact out_of (zero_off (o_ixA (k := 0) (n := 16) (e := 142) rfl h0 h1 (by omega) (fun _ => by kernel_rfl) (fun _ => by kernel_rfl))) rfl
        ·refine hot_store rfl (fun L a w' hat => ?_)
         have h0 : a.eval (.tmp 97) = .pointer (some ⟨g_2, bb, none⟩) := hat.deps ⟨24, .data⟩ (by simp) rfl 97 (by decide) rfl
         have h1 : a.eval (.tmp 93) = .int .u32 ((p1 : Nat) : Int) := hat.deps ⟨19, .data⟩ (by simp) rfl 93 (by decide) rfl
         have f27 := hat.later 27 _ rfl (by kernel_rfl)
         have f23 := hat.before 23 (by kernel_rfl)
         obtain ⟨z, hz, hz2, hH⟩ : ∃ z : List Nat, z.length = 16 ∧ z.set (bb) p1 = ((s).set (K) p0).set (bb) p1 ∧ Blk w' g_2 (iws .u32 z).toArray 262 := by (have hH := hat.hot; cases hL : L 25 <;> simp only [hL, f23, f27, cond_true, cond_false] at hH <;> exact ⟨_, by simp only [List.length_set, hs16], by simp only [List.set_set], hH⟩)
         exact hot_ex (o_storeW rfl h0 h1 hH (by rw [hz]; omega) ⟨by kernel_rfl, by kernel_rfl⟩) (fun w'' hN => by (simp only [f23, f27, Nat.reduceBEq, beq_self_eq_true, Bool.or_true, Bool.false_or, Bool.or_false, Bool.true_or, cond_true, cond_false]; rw [hz2] at hN; exact hN))
        ·refine hot_val rfl rfl (fun L a w' hat => ?_)
         have h0 : a.eval (.tmp 8) = .pointer (some ⟨g_2, 0, none⟩) := (hat.others 8 (by decide)).trans ((pm rfl).trans ta_4_8)
         have h1 : a.eval (.tmp 77) = .int .i64 ((cc : Nat) : Int) := hat.deps ⟨2, .data⟩ (by simp) rfl 77 (by decide) rfl
         exact out_of (zero_off (o_ixA (k := 0) (n := 16) (e := 142) rfl h0 h1 (by omega) (fun _ => by kernel_rfl) (fun _ => by kernel_rfl))) rfl
        ·refine hot_store rfl (fun L a w' hat => ?_)
         have h0 : a.eval (.tmp 98) = .pointer (some ⟨g_2, cc, none⟩) := hat.deps ⟨26, .data⟩ (by simp) rfl 98 (by decide) rfl
         have h1 : a.eval (.tmp 94) = .int .u32 ((p2 : Nat) : Int) := hat.deps ⟨20, .data⟩ (by simp) rfl 94 (by decide) rfl
         have f23 := hat.before 23 (by kernel_rfl)
         have f25 := hat.before 25 (by kernel_rfl)
         obtain ⟨z, hz, hz2, hH⟩ : ∃ z : List Nat, z.length = 16 ∧ z.set (cc) p2 = (((s).set (K) p0).set (bb) p1).set (cc) p2 ∧ Blk w' g_2 (iws .u32 z).toArray 262 := by (have hH := hat.hot; cases hL : L 27 <;> simp only [hL, f23, f25, cond_true, cond_false] at hH <;> exact ⟨_, by simp only [List.length_set, hs16], by simp only [List.set_set], hH⟩)
         exact hot_ex (o_storeW rfl h0 h1 hH (by rw [hz]; omega) ⟨by kernel_rfl, by kernel_rfl⟩) (fun w'' hN => by (simp only [f23, f25, Nat.reduceBEq, beq_self_eq_true, Bool.or_true, Bool.false_or, Bool.or_false, Bool.true_or, cond_true, cond_false]; rw [hz2] at hN; exact hN))
       intro L a_5 w_11 hs_5 hd_5 hbx_2 hO_2 hV_2 hall_2 hH_2
       have hB_7 : Blk w_11 g_2 (iws .u32 ((((s).set (K) p0).set (bb) p1).set (cc) p2)).toArray 262 := by (have h := hH_2; simp only [hall_2 27 (by omega), cond_true] at h; exact h)
       have ta_5_0 := (hO_2 0 (by decide)).trans ((pm rfl).trans ta_4_0)
       have ta_5_1 := (hO_2 1 (by decide)).trans ((pm rfl).trans ta_4_1)
       have ta_5_2 := (hO_2 2 (by decide)).trans ((pm rfl).trans ta_4_2)
       have ta_5_6 := (hO_2 6 (by decide)).trans ((pm rfl).trans ta_4_6)
       have ta_5_16 := (hO_2 16 (by decide)).trans ((pm rfl).trans ta_4_16)
       have ta_5_17 := (hO_2 17 (by decide)).trans ((pm rfl).trans ta_4_17)
       have ta_5_18 := (hO_2 18 (by decide)).trans ((pm rfl).trans ta_4_18)
       have ta_5_19 := (hO_2 19 (by decide)).trans ((pm rfl).trans ta_4_19)
       have ta_5_7 := (hO_2 7 (by decide)).trans ((pm rfl).trans ta_4_7)
       have ta_5_20 := (hO_2 20 (by decide)).trans ((pm rfl).trans ta_4_20)
       have ta_5_8 := (hO_2 8 (by decide)).trans ((pm rfl).trans ta_4_8)
       have ta_5_21 := (hO_2 21 (by decide)).trans ((pm rfl).trans ta_4_21)
       have ta_5_22 := (hO_2 22 (by decide)).trans ((pm rfl).trans ta_4_22)
       have ta_5_23 := (hO_2 23 (by decide)).trans ((pm rfl).trans ta_4_23)
       have ta_5_24 := (hO_2 24 (by decide)).trans ((pm rfl).trans ta_4_24)
       have ta_5_59 := (hO_2 59 (by decide)).trans ((pm rfl).trans ta_4_59)
       have ta_5_78 : a_5.eval (.tmp 78) = .int .i64 ((dd : Nat) : Int) := hV_2 3 (by omega) (by decide) 78 rfl
       have ta_5_95 : a_5.eval (.tmp 95) = .int .u32 ((p3 : Nat) : Int) := hV_2 21 (by omega) (by decide) 95 rfl
       clear hO_2 hV_2 hall_2 hH_2
       clear ta_4_0 ta_4_1 ta_4_2 ta_4_6 ta_4_16 ta_4_17 ta_4_18 ta_4_19 ta_4_7 ta_4_20 ta_4_8 ta_4_21 ta_4_22 ta_4_23 ta_4_24 ta_4_59
       clear BS
       replace BF := hbx_2.blk BF ne_1
       have HB_7 := hbx_2.below HBL HBL.size (fun k hk => hk ▸ ge_2)
       simp only [List.drop_succ_cons, List.drop_zero]
       refine op_val (d := 99) (v := .pointer (some ⟨g_2, dd, none⟩)) rfl rfl (zero_off (o_ixA (k := 0) (i := dd) (n := 16) (e := 142) rfl ((pm rfl).trans ta_5_8) ((pm rfl).trans ta_5_78) (by omega) (fun _ => by kernel_rfl) (fun _ => by kernel_rfl))) ?_
       refine op_do rfl rfl (o_storeW rfl (pe hs_5 rfl rfl) ((pm rfl).trans ta_5_95) hB_7 (by simp only [List.length_set, List.length_set, List.length_set, hs16]; omega) ⟨by kernel_rfl, by kernel_rfl⟩) (fun w_12 hR_7 => ?_)
       obtain ⟨hB_8, hX_4⟩ := hR_7
       replace BF := hX_4.blk BF ne_1
       have HB_8 := hX_4.below HB_7 HB_7.size (fun k hk => hk ▸ ge_2)
       clear hB_7
       refine x_nil (hK_27 _ _ ?_)
       refine hK_26 _ _ ?_
       refine x_region (by kernel_rfl) ?_
       refine q_v 100 (.int .i64 ((K + 1 : Nat) : Int)) (o_add64 (m := K) (n := 1) rfl ((pm rfl).trans ta_5_59) rfl (by omega)) ?_
       refine q_mv (pe hs_5 rfl rfl) ?_
       refine x_nil ?_
       refine hK_23 _ _ _ ⟨K + 1, rfl, (by rw [putsR_size]; exact hs_5), (by rw [putsR_defers]; exact hd_5), ((pm rfl).trans ta_5_0), ((pm rfl).trans ta_5_1), ((pm rfl).trans ta_5_2), ((pm rfl).trans ta_5_6), ((pm rfl).trans ta_5_7), ((pm rfl).trans ta_5_8), ((pm rfl).trans ta_5_16), ((pm rfl).trans ta_5_17), ((pm rfl).trans ta_5_18), ((pm rfl).trans ta_5_19), ((pm rfl).trans ta_5_20), ((pm rfl).trans ta_5_21), ((pm rfl).trans ta_5_22), ((pm rfl).trans ta_5_23), ((pm rfl).trans ta_5_24), (pe hs_5 rfl rfl), (by omega), (by rw [diags, hs, hbb, hcc, hdd, qrAt_eq (a := p0) (b := p1) (c := p2) (d := p3) (by rw [ha0, hb0, hc0, hd0]; exact hq)]; exact hB_8), BF, HB_8⟩ ?_
       omega
      ·simp only [DD9] at h_3
       obtain rfl : K = 4 := by omega
       refine w2_exit ?_
       refine thn_exit ?_
       refine thn_exit ?_
       refine exb_hit ?_
       refine hK_22 _ _ ?_
       refine hK_11 _ _ ?_
       refine hK_10 _ _ ?_
       refine x_region (by kernel_rfl) ?_
       refine q_v 101 (.int .i64 ((R + 1 : Nat) : Int)) (o_add64 (m := R) (n := 1) rfl ((pm rfl).trans ta_4_21) rfl (by omega)) ?_
       refine q_mv (pe hs_4 rfl rfl) ?_
       refine x_nil ?_
       refine hK_7 _ _ _ ⟨R + 1, rfl, (by rw [putsR_size]; exact hs_4), (by rw [putsR_defers]; exact hd_4), ((pm rfl).trans ta_4_0), ((pm rfl).trans ta_4_1), ((pm rfl).trans ta_4_2), ((pm rfl).trans ta_4_6), ((pm rfl).trans ta_4_7), ((pm rfl).trans ta_4_8), ((pm rfl).trans ta_4_16), ((pm rfl).trans ta_4_17), ((pm rfl).trans ta_4_18), ((pm rfl).trans ta_4_19), ((pm rfl).trans ta_4_20), (pe hs_4 rfl rfl), (by omega), (by rw [dbls, hs1, hs2', hs]; exact BS), BF, HBL⟩ ?_
       omega
  ·simp only [DD9] at h_1
   obtain rfl : R = 10 := by omega
   refine w2_exit ?_
   refine thn_exit ?_
   refine thn_exit ?_
   refine exb_hit ?_
   refine hK_6 _ _ ?_
   refine hK_4 _ _ ?_
   refine w2_sr (fun K_30 hK_30 => ?_)
   refine q_as (.slice none (0) (0)) rfl ?_
   refine x_nil (hK_30 _ _ ?_)
   refine w2_seq (fun K_31 hK_31 => ?_)
   refine w2_seq (fun K_32 hK_32 => ?_)
   have s16 := S1.1
   refine x_region (by kernel_rfl) ?_
   refine q_v 102 (.int .i64 ((0 : Nat) : Int)) (o_move rfl rfl) ?_
   refine x_nil (hK_32 _ _ ?_)
   refine w2_block (fun K_33 hK_33 => ?_)
   refine x_loop (fun nn aa ww => ∃ (K : Nat) (A1 : Option Addr) (c1 : Nat), nn = 16 - K ∧ aa.tmps.size = 117 ∧ aa.defers = [] ∧ aa.eval (.tmp 0) = .slice A (m) (c) ∧ aa.eval (.tmp 1) = .slice B (k) (d) ∧ aa.eval (.tmp 2) = .int .u32 ((n : Nat) : Int) ∧ aa.eval (.tmp 6) = .slice none (0) (0) ∧ aa.eval (.tmp 7) = .pointer (some ⟨g_1, 0, none⟩) ∧ aa.eval (.tmp 8) = .pointer (some ⟨g_2, 0, none⟩) ∧ aa.eval (.tmp 14) = .slice A1 (4 * K) (c1) ∧ aa.eval (.tmp 16) = .slice A (m) (c) ∧ aa.eval (.tmp 17) = .slice B (k) (d) ∧ aa.eval (.tmp 18) = .int .u32 ((n : Nat) : Int) ∧ aa.eval (.tmp 19) = .agg (iws .u32 (beginL ks ns n)).toArray ∧ aa.eval (.tmp 20) = .agg (iws .u32 (beginL ks ns n)).toArray ∧ aa.eval (.tmp 21) = .int .i64 ((10 : Nat) : Int) ∧ aa.eval (.tmp 22) = .bool (decide (10 < 10)) ∧ aa.eval (.tmp 102) = .int .i64 ((K : Nat) : Int) ∧ K ≤ 16 ∧ Own ww w.heap.size A1 c1 (outL s1 (beginL ks ns n) K) ∧ Blk ww g_2 (iws .u32 s1).toArray 262 ∧ Blk ww g_1 (iws .u32 (beginL ks ns n)).toArray 262 ∧ Below w.heap.size w ww) (16) ?_ ?_
   ·exact ⟨0, none, 0, rfl, (by rw [putsR_size]; exact hs_1), (by rw [putsR_defers]; exact hd_1), ((pm rfl).trans ta_1_0), ((pm rfl).trans ta_1_1), ((pm rfl).trans ta_1_2), ((pm rfl).trans ta_1_6), ((pm rfl).trans ta_1_7), ((pm rfl).trans ta_1_8), (pe hs_1 rfl rfl), ((pm rfl).trans ta_1_16), ((pm rfl).trans ta_1_17), ((pm rfl).trans ta_1_18), ((pm rfl).trans ta_1_19), ((pm rfl).trans ta_1_20), ((pm rfl).trans ta_1_21), (pe hs_1 rfl rfl), (pe hs_1 rfl rfl), by omega, Own.nil _ _, BS, BF, HBL⟩
   ·skip
    clear ta_1_0 ta_1_1 ta_1_2 ta_1_6 ta_1_16 ta_1_17 ta_1_18 ta_1_19 ta_1_7 ta_1_20 ta_1_8 ta_1_21 hd_1 BS BF HBL
    rintro nna_6 a_6 w_13 ⟨K, A1, c1, hm_4, hs_6, hd_6, ta_6_0, ta_6_1, ta_6_2, ta_6_6, ta_6_7, ta_6_8, ta_6_14, ta_6_16, ta_6_17, ta_6_18, ta_6_19, ta_6_20, ta_6_21, ta_6_22, ta_6_102, hK, hO, BS, BF, HBL⟩ K_34 hK_34
    subst hm_4
    refine w2_sr (fun K_35 hK_35 => ?_)
    refine q_v 103 (.bool (decide (K < 16))) (o_lss (m := K) (n := 16) rfl ((pm rfl).trans ta_6_102) rfl) ?_
    refine x_nil (hK_35 _ _ ?_)
    refine w2_seq (fun K_36 hK_36 => ?_)
    refine w2_split (pe hs_6 rfl rfl) (fun h_4 => ?_) (fun h_4 => ?_)
    ·simp only [DD9] at h_4
     refine w2_skip ?_
     refine hK_36 _ _ ?_
     refine w2_seq (fun K_37 hK_37 => ?_)
     refine w2_block (fun K_38 hK_38 => ?_)
     refine w2_sr (fun K_39 hK_39 => ?_)
     refine q_mv ((pm rfl).trans ta_6_102) ?_
     refine q_at (pe hs_6 rfl rfl) ?_
     refine x_nil (hK_39 _ _ ?_)
     refine x_drawn 9 [fun _ v => v = .slice A1 (4 * K) (c1), fun _ v => v = .int .i64 ((K : Nat) : Int), fun _ v => v = .pointer (some ⟨g_2, K, none⟩), fun _ v => v = .int .u32 ((s1.getD (K) 0 : Nat) : Int), fun _ v => v = .int .i64 ((K : Nat) : Int), fun _ v => v = .pointer (some ⟨g_1, K, none⟩), fun _ v => v = .int .u32 (((beginL ks ns n).getD (K) 0 : Nat) : Int), fun _ v => v = .int .u32 ((((s1.getD (K) 0) + ((beginL ks ns n).getD (K) 0)) % 4294967296 : Nat) : Int), fun w v => OwnN w_13.heap.size 4 (putL (((s1.getD (K) 0) + ((beginL ks ns n).getD (K) 0)) % 4294967296) 4) w v] [105, 106, 107, 108, 109, 110, 111, 112, 113] hs_6 hd_6 (by kernel_rfl) (by kernel_rfl) (by kernel_rfl) (by kernel_rfl) (by kernel_rfl) ⟨stLit, stLit, stLit, stLit, stLit, stLit, stLit, stLit, stOwn, trivial⟩ ⟨(step_ok rfl (fun a' w' hb' hO hD => by
       have d_1 := (hO 14 (by decide)).trans ((pm rfl).trans ta_6_14)
       exact .inl ⟨_, _, (o_move rfl d_1), rfl, Below.refl _ _⟩)),
(step_ok rfl (fun a' w' hb' hO hD => by
       have d_2 : a'.eval (.tmp 15) = .int .i64 ((K : Nat) : Int) := (hO 15 (by decide)).trans (pe hs_6 rfl rfl)
       exact .inl ⟨_, _, (o_move rfl d_2), rfl, Below.refl _ _⟩)),
(step_ok rfl (fun a' w' hb' hO hD => by
       have d_3 := (hO 8 (by decide)).trans ((pm rfl).trans ta_6_8)
       have d_4 : a'.eval (.tmp 106) = .int .i64 ((K : Nat) : Int) := hD 1 106 (by kernel_rfl) rfl
       exact .inl ⟨_, _, (zero_off (o_ixA (k := 0) (i := K) (n := 16) (e := 142) rfl d_3 d_4 (by omega) (fun _ => by kernel_rfl) (fun _ => by kernel_rfl))), rfl, Below.refl _ _⟩)),
(step_ok rfl (fun a' w' hb' hO hD => by
       have d_5 : a'.eval (.tmp 107) = .pointer (some ⟨g_2, K, none⟩) := hD 2 107 (by kernel_rfl) rfl
       exact .inl ⟨_, _, (o_loadW rfl d_5 (BS.nx hb') (by rw [s16]; omega) rfl ⟨by kernel_rfl, by kernel_rfl⟩), rfl, Below.refl _ _⟩)),
(step_ok rfl (fun a' w' hb' hO hD => by
       have d_6 : a'.eval (.tmp 15) = .int .i64 ((K : Nat) : Int) := (hO 15 (by decide)).trans (pe hs_6 rfl rfl)
       exact .inl ⟨_, _, (o_move rfl d_6), rfl, Below.refl _ _⟩)),
(step_ok rfl (fun a' w' hb' hO hD => by
       have d_7 := (hO 7 (by decide)).trans ((pm rfl).trans ta_6_7)
       have d_8 : a'.eval (.tmp 109) = .int .i64 ((K : Nat) : Int) := hD 4 109 (by kernel_rfl) rfl
       exact .inl ⟨_, _, (zero_off (o_ixA (k := 0) (i := K) (n := 16) (e := 142) rfl d_7 d_8 (by omega) (fun _ => by kernel_rfl) (fun _ => by kernel_rfl))), rfl, Below.refl _ _⟩)),
(step_ok rfl (fun a' w' hb' hO hD => by
       have d_9 : a'.eval (.tmp 110) = .pointer (some ⟨g_1, K, none⟩) := hD 5 110 (by kernel_rfl) rfl
       exact .inl ⟨_, _, (o_loadW rfl d_9 (BF.nx hb') (by rw [S0.1]; omega) rfl ⟨by kernel_rfl, by kernel_rfl⟩), rfl, Below.refl _ _⟩)),
(step_ok rfl (fun a' w' hb' hO hD => by
       have d_10 : a'.eval (.tmp 108) = .int .u32 ((s1.getD (K) 0 : Nat) : Int) := hD 3 108 (by kernel_rfl) rfl
       have d_11 : a'.eval (.tmp 111) = .int .u32 (((beginL ks ns n).getD (K) 0 : Nat) : Int) := hD 6 111 (by kernel_rfl) rfl
       exact .inl ⟨_, _, (o_addU (m := (s1.getD (K) 0)) (n := ((beginL ks ns n).getD (K) 0)) (((s1.getD (K) 0) + ((beginL ks ns n).getD (K) 0)) % 4294967296) rfl d_10 d_11 (by rw [IntKind.wrap_u32]; omega)), rfl, Below.refl _ _⟩)),
(step_ok rfl (fun a' w' hb' hO hD => by
       have d_12 : a'.eval (.tmp 112) = .int .u32 ((((s1.getD (K) 0) + ((beginL ks ns n).getD (K) 0)) % 4294967296 : Nat) : Int) := hD 7 112 (by kernel_rfl) rfl
       exact .inr ⟨_, #[.int .u32 ((((s1.getD (K) 0) + ((beginL ks ns n).getD (K) 0)) % 4294967296 : Nat) : Int)], (exec_call Tryz.func127 (by kernel_rfl) (by kernel_rfl) _ rfl _ _ (args1 d_12)), Calls.mono (PutLow32_any (((s1.getD (K) 0) + ((beginL ks ns n).getD (K) 0)) % 4294967296) _ (Nat.mod_lt _ (by omega))) (fun e w'' hR => by obtain ⟨A_1, c_1, rfl, ho_1, hb_4⟩ := hR; exact ⟨_, rfl, ⟨_, _, rfl, ho_1.mono hb'.size⟩, hb_4⟩)⟩)), trivial⟩ (fun a_7 w_14 hs_7 hd_7 hb_5 hO_3 hV_3 => ?_)
     have ta_7_0 := (hO_3 0 (by decide)).trans ((pm rfl).trans ta_6_0)
     have ta_7_1 := (hO_3 1 (by decide)).trans ((pm rfl).trans ta_6_1)
     have ta_7_2 := (hO_3 2 (by decide)).trans ((pm rfl).trans ta_6_2)
     have ta_7_6 := (hO_3 6 (by decide)).trans ((pm rfl).trans ta_6_6)
     have ta_7_16 := (hO_3 16 (by decide)).trans ((pm rfl).trans ta_6_16)
     have ta_7_17 := (hO_3 17 (by decide)).trans ((pm rfl).trans ta_6_17)
     have ta_7_18 := (hO_3 18 (by decide)).trans ((pm rfl).trans ta_6_18)
     have ta_7_19 := (hO_3 19 (by decide)).trans ((pm rfl).trans ta_6_19)
     have ta_7_7 := (hO_3 7 (by decide)).trans ((pm rfl).trans ta_6_7)
     have ta_7_20 := (hO_3 20 (by decide)).trans ((pm rfl).trans ta_6_20)
     have ta_7_8 := (hO_3 8 (by decide)).trans ((pm rfl).trans ta_6_8)
     have ta_7_21 := (hO_3 21 (by decide)).trans ((pm rfl).trans ta_6_21)
     have ta_7_22 := (hO_3 22 (by decide)).trans ((pm rfl).trans ta_6_22)
     have ta_7_102 := (hO_3 102 (by decide)).trans ((pm rfl).trans ta_6_102)
     clear ta_6_0 ta_6_1 ta_6_2 ta_6_6 ta_6_16 ta_6_17 ta_6_18 ta_6_19 ta_6_7 ta_6_20 ta_6_8 ta_6_21 ta_6_22 ta_6_14 ta_6_102 hd_6
     replace hO := hO.nx hb_5
     replace BS := BS.nx hb_5
     replace BF := BF.nx hb_5
     have HB_9 := below_from HBL hb_5
     have ta_7_105 : a_7.eval (.tmp 105) = .slice A1 (4 * K) (c1) := hV_3 0 105 rfl rfl
     have x_1 := hV_3 8 113 rfl rfl
     obtain ⟨A_2, c_2, hv_1, hO_4⟩ := x_1
     replace hO_4 := hO_4.mono HBL.size
     clear hV_3 hO_3
     simp only [List.drop_succ_cons, List.drop_zero]
     refine op_ex (d := 114) rfl rfl (o_append rfl ((pm rfl).trans ta_7_105) ((pm rfl).trans hv_1) hO (hO_4).bs (by rw [outL_length]) (by simp only [putL_length]) (by omega) HB_9.size) (fun v_3 w_15 hR_8 => ?_)
     obtain ⟨A_3, c_3, rfl, ho_2, hb_6, hg_1, hat_1⟩ := hR_8
     replace BS := BS.grown hO hg_1 (by decide)
     replace BF := BF.grown hO hg_1 (by decide)
     have HB_10 : Below w.heap.size w w_15 := (HB_9).trans hb_6
     clear hg_1 hat_1 hO
     refine q_at (pe hs_7 rfl rfl) ?_
     refine x_nil (hK_38 _ _ ?_)
     refine hK_37 _ _ ?_
     refine x_region (by kernel_rfl) ?_
     refine q_v 115 (.int .i64 ((K + 1 : Nat) : Int)) (o_add64 (m := K) (n := 1) rfl ((pm rfl).trans ta_7_102) rfl (by omega)) ?_
     refine q_mv (pe hs_7 rfl rfl) ?_
     refine x_nil ?_
     refine hK_34 _ _ _ ⟨K + 1, A_3, c_3, rfl, (by rw [putsR_size]; exact hs_7), (by rw [putsR_defers]; exact hd_7), ((pm rfl).trans ta_7_0), ((pm rfl).trans ta_7_1), ((pm rfl).trans ta_7_2), ((pm rfl).trans ta_7_6), ((pm rfl).trans ta_7_7), ((pm rfl).trans ta_7_8), (pe hs_7 rfl rfl), ((pm rfl).trans ta_7_16), ((pm rfl).trans ta_7_17), ((pm rfl).trans ta_7_18), ((pm rfl).trans ta_7_19), ((pm rfl).trans ta_7_20), ((pm rfl).trans ta_7_21), ((pm rfl).trans ta_7_22), (pe hs_7 rfl rfl), (by omega), ho_2, BS, BF, HB_10⟩ ?_
     omega
    ·simp only [DD9] at h_4
     obtain rfl : K = 16 := by omega
     refine w2_exit ?_
     refine thn_exit ?_
     refine thn_exit ?_
     refine exb_hit ?_
     refine hK_33 _ _ ?_
     refine hK_31 _ _ ?_
     refine w2_sr (fun K_40 hK_40 => ?_)
     refine q_mv ((pm rfl).trans ta_6_14) ?_
     refine q_at (pe hs_6 rfl rfl) ?_
     refine x_nil (hK_40 _ _ ?_)
     refine w2_ret ?_
     refine ret1 rfl hd_6 (pe hs_6 rfl rfl) ?_
     exact ⟨A1, c1, rfl, (by unfold blockL; rw [hs1]; exact hO), HBL⟩
end Go.Proofs.YtodhdajelnfhpaaGreat
