/-
 WALKS: chacha.may, Block, Xor.
-/
import Derived.Test.YtkhbihnnkflfkaaGreatEz
import Derived.Test.YtkhbihnnkflfkaaGreatChunk
import Derived.Test.YtkhbihnnkflfkaaGreatBlock
import Derived.Test.YtkhbihnnkflfkaaGreatWXor
namespace Go.Proofs.YtkhbihnnkflfkaaGreat
open Go.RowKit
set_option maxHeartbeats 8000000
set_option linter.unusedVariables false
set_option linter.unusedSimpArgs false
set_option maxRecDepth 100000
attribute [local irreducible] wpList wpListIn putsR

variable {A B : Option Addr} {c d k m n : Nat} {bs ks ns : List Nat}
theorem may_true (w : World) (hm : m = 32) (hk : k = 12) :
  Calls Tryz.prog 96 #[.slice A (m) (c), .slice B (k) (d)] w fun e w' => e = .returned (.bool true) ∧ w = w' := by
 refine x_enter 13 Tryz.func96 rfl rfl (fun a hs hd ha0 => ?_)
 have t0 := tA 0 ha0
 have t1 := tA 1 ha0
 clear ha0
 iterate 7 refine e1 ?_
 refine q_w (o_len rfl ev) ?_
 refine q_v 7 (.bool (true)) (o_eq (o_eql (m := m) (n := 32) rfl ev rfl) (by rw [decide_eq_true hm])) ?_
 refine e1 ?_
 refine q_g 8 (.slice B (k) (d)) (o_move rfl ev) ?_
 refine q_g 8 (.int .i64 ((k : Nat) : Int)) (o_len rfl ev) ?_
 refine q_g 8 (.bool (true)) (o_eq (o_eql (m := k) (n := 12) rfl ev rfl) (by rw [decide_eq_true hk])) ?_
 refine q_w (o_pickT rfl ev ev) ?_
 iterate 4 refine e1 ?_
 exact ⟨rfl, rfl⟩
theorem Block_full (n : Nat) (w : World) (ha : Bs w A c ks) (hb : Bs w B d ns) (hm : ks.length = m) (hk : ns.length = k) (hn : n < 4294967296) (hm32 : m = 32) (hk12 : k = 12) :
  Calls Tryz.prog 100 #[.slice A (m) (c), .slice B (k) (d), .int .u32 ((n : Nat) : Int)] w fun e w' => ∃ A c, e = .returned (.tuple #[.slice A 64 c, .int .i64 0]) ∧ Own w' w.heap.size A c (blockL ks ns n) ∧ Below w.heap.size w w' := by
 refine x_enter 16 Tryz.func100 rfl rfl (fun a hs hd ha0 => ?_)
 have t0 := tA 0 ha0
 have t1 := tA 1 ha0
 have t2 := tA 2 ha0
 clear ha0
 iterate 3 refine e1 ?_
 refine q_as (.int .i64 ((0 : Nat) : Int)) rfl ?_
 iterate 7 refine e1 ?_
 refine k_c Tryz.func96 (may_true _ hm32 hk12) ?_
 rintro e_1 w_1 ⟨rfl, rfl⟩
 refine ⟨_, rfl, ?_⟩
 refine q_v 11 (.bool (false)) (o_not (b := true) rfl ev) ?_
 iterate 10 refine e1 ?_
 refine k_c Tryz.func99 (block_any n _ ha hb hm hk hn) ?_
 rintro e_2 w_2 ⟨A_1, c_1, rfl, ho_1, hb_2⟩
 refine ⟨_, rfl, ?_⟩
 refine e1 ?_
 refine q_as (.int .i64 ((0 : Nat) : Int)) rfl ?_
 iterate 3 refine e1 ?_
 exact ⟨_, _, rfl, ho_1, hb_2⟩
def chunkL (bs : List Nat) (m k : Nat) : List Nat := (bs.drop (m * k)).take m
theorem chunkL_length (bs : List Nat) (m k : Nat) : (chunkL bs m k).length = min m (bs.length - m * k) := by simp [chunkL]
theorem Bs.chunk {w : World} (h : Bs w A c bs) (hn : bs.length = n) (m k : Nat) : Bs w (atA A (m * k)) (min m (n - m * k)) (chunkL bs m k) := by
 subst hn
 by_cases h1 : m * k < bs.length ∧ 0 < m
 ·have hle := h.le
  have h2 := h.sub (l := m * k) (q := m * k + min m (bs.length - m * k)) (m := m * k + min m (bs.length - m * k)) (by omega) (Nat.le_refl _) (by omega)
  rw [subA_le _ (by omega), show m * k + min m (bs.length - m * k) - m * k = min m (bs.length - m * k) by omega] at h2
  have e : (bs.drop (m * k)).take (min m (bs.length - m * k)) = chunkL bs m k := by
   unfold chunkL
   rw [← List.length_drop, ← List.take_take, List.take_length]
  rw [e] at h2
  exact h2
 ·have e : chunkL bs m k = [] := List.eq_nil_of_length_eq_zero (by rw [chunkL_length]; omega)
  have e2 : min m (bs.length - m * k) = 0 := by omega
  rw [e, e2]
  exact ⟨by simp, by simp [maxLen], by simp, .inl rfl⟩
def xorSt (ks ns : List Nat) (n : Nat) (bs : List Nat) (pre : List Nat) : List Nat × Nat :=
 pre.foldl (fun st x => (st.1 ++ xorL (chunkL bs 64 x) (blockL ks ns st.2) (chunkL bs 64 x).length, (st.2 + 1) % 4294967296)) ([], n)
theorem xorSt_snoc (ks ns : List Nat) (n : Nat) (bs pre : List Nat) (x : Nat) : xorSt ks ns n bs (pre ++ [x]) = ((xorSt ks ns n bs pre).1 ++ xorL (chunkL bs 64 x) (blockL ks ns (xorSt ks ns n bs pre).2) (chunkL bs 64 x).length, ((xorSt ks ns n bs pre).2 + 1) % 4294967296) := by
 simp [xorSt]
theorem xorSt_le (ks ns : List Nat) (n : Nat) (bs : List Nat) : ∀ pre : List Nat, (xorSt ks ns n bs pre).1.length ≤ 64 * pre.length := by
 intro pre
 have key : ∀ r : List Nat, (xorSt ks ns n bs r.reverse).1.length ≤ 64 * r.reverse.length := by
  intro r
  induction r with
  | nil => simp [xorSt]
  | cons x r ih =>
   rw [List.reverse_cons, xorSt_snoc]
   simp only [List.length_append, xorL_length, chunkL_length, List.length_cons, List.length_nil]
   omega
 simpa using key pre.reverse
theorem xorSt_lt (ks ns : List Nat) (n : Nat) (bs : List Nat) (hn : n < 4294967296) (pre : List Nat) : (xorSt ks ns n bs pre).2 < 4294967296 := by
 have key : ∀ r : List Nat, (xorSt ks ns n bs r.reverse).2 < 4294967296 := by
  intro r
  cases r with
  | nil => simpa [xorSt] using hn
  | cons x r => rw [List.reverse_cons, xorSt_snoc]; exact Nat.mod_lt _ (by omega)
 simpa using key pre.reverse
theorem xorSt_length (ks ns : List Nat) (n : Nat) (bs : List Nat) : ∀ j, (xorSt ks ns n bs (List.range j)).1.length = min (64 * j) bs.length := by
 intro j
 induction j with
 | zero => simp [xorSt]
 | succ j ih =>
  rw [List.range_succ, xorSt_snoc]
  simp only [List.length_append, xorL_length, chunkL_length, ih]
  omega
def xorS (ks ns : List Nat) (n : Nat) (bs : List Nat) : List Nat := (xorSt ks ns n bs (List.range ((bs.length + 64 - 1) / 64))).1
theorem xorS_length (ks ns : List Nat) (n : Nat) (bs : List Nat) : (xorS ks ns n bs).length = bs.length := by
 unfold xorS
 rw [xorSt_length]
 omega
theorem WXor_le {xs ys : List Nat} (w : World) (ha : Bs w A c xs) (hb : Bs w B d ys) (hn : xs.length = n) (hm : ys.length = m) (hl : n ≤ 70368744177664) (hle : n ≤ m) :
  Calls Tryz.prog 98 #[.slice A n c, .slice B m d] w fun e w' => ∃ A' c', e = .returned (.slice A' n c') ∧ Own w' w.heap.size A' c' (xorL xs ys n) ∧ Below w.heap.size w w' := by
 have h := WXor_any w ha hb hn hm hl
 rwa [Nat.min_eq_left hle] at h
theorem Xor_full {C : Option Addr} {f q : Nat} (n : Nat) (w : World) (ha : Bs w A c ks) (hb : Bs w B d ns) (hc : Bs w C f bs) (hm : ks.length = m) (hk : ns.length = k) (hq : bs.length = q) (hn : n < 4294967296) (hm32 : m = 32) (hk12 : k = 12) (hl : q ≤ 70368744177664) :
  Calls Tryz.prog 60 #[.slice A (m) (c), .slice B (k) (d), .int .u32 ((n : Nat) : Int), .slice C (q) (f)] w fun e w' => ∃ A c, e = .returned (.tuple #[.slice A q c, .int .i64 0]) ∧ Own w' w.heap.size A c (xorS ks ns n bs) ∧ Below w.heap.size w w' := by
 refine x_enterM 30 Tryz.func60 rfl rfl (fun a hs hd ha0 => ?_)
 have t0 := tA 0 ha0
 have t1 := tA 1 ha0
 have t2 := tA 2 ha0
 have t3 := tA 3 ha0
 clear ha0
 iterate 2 refine e1 ?_
 refine q_x (o_box rfl ev rfl) (fun v_1 w_1 hR_1 => ?_)
 obtain ⟨g_1, rfl, hle_1, hB_1, hb_1⟩ := hR_1
 refine q_x (o_box rfl ev rfl) (fun v_2 w_2 hR_2 => ?_)
 obtain ⟨g_2, rfl, hle_2, hB_2, hb_2⟩ := hR_2
 replace hB_1 := hB_1.nx hb_2
 have HB_1 := below_from hb_1 hb_2
 refine q_x (o_box rfl ev rfl) (fun v_3 w_3 hR_3 => ?_)
 obtain ⟨g_3, rfl, hle_3, hB_3, hb_3⟩ := hR_3
 have ne_2 : g_1 ≠ g_3 := Nat.ne_of_lt (Nat.lt_of_lt_of_le hB_1.lt hle_3)
 have ne_3 : g_2 ≠ g_3 := Nat.ne_of_lt (Nat.lt_of_lt_of_le hB_2.lt hle_3)
 have ge_3 : w.heap.size ≤ g_3 := Nat.le_trans HB_1.size hle_3
 obtain ⟨hB_1, hB_2⟩ := nx2 hb_3 hB_1 hB_2
 have HB_2 := below_from HB_1 hb_3
 refine e1 ?_
 refine q_as (.int .i64 ((0 : Nat) : Int)) rfl ?_
 iterate 4 refine e1 ?_
 refine q_ld (v := .slice A (m) (c)) (pe hs rfl rfl) hB_1 rfl ?_
 refine q_ld (v := .slice B (k) (d)) (pe hs rfl rfl) hB_2 rfl ?_
 refine e1 ?_
 refine k_c Tryz.func96 (may_true _ hm32 hk12) ?_
 rintro e_1 w_4 ⟨rfl, rfl⟩
 refine ⟨_, rfl, ?_⟩
 refine q_v 15 (.bool (false)) (o_not (b := true) rfl ev) ?_
 iterate 6 refine e1 ?_
 refine q_x (o_alloc (zs := #[.slice none (0) (0)]) rfl (fun _ => by kernel_rfl)) (fun v_4 w_5 hR_5 => ?_)
 obtain ⟨g_4, rfl, hle_4, hB_4, hb_5⟩ := hR_5
 have ne_4 : g_1 ≠ g_4 := Nat.ne_of_lt (Nat.lt_of_lt_of_le hB_1.lt hle_4)
 have ne_5 : g_2 ≠ g_4 := Nat.ne_of_lt (Nat.lt_of_lt_of_le hB_2.lt hle_4)
 have ne_6 : g_3 ≠ g_4 := Nat.ne_of_lt (Nat.lt_of_lt_of_le hB_3.lt hle_4)
 have ge_4 : w.heap.size ≤ g_4 := Nat.le_trans HB_2.size hle_4
 obtain ⟨hB_1, hB_2, hB_3⟩ := nx3 hb_5 hB_1 hB_2 hB_3
 have HB_3 := below_from HB_2 hb_5
 iterate 6 refine e1 ?_
 refine k_c Tryz.func97 (Chunk_any 64 _ (by omega)) ?_
 rintro e_2 w_6 ⟨g1, g2, rfl, hle1, hle2, hne12, B1, B2, hb_6⟩
 have ne_11 : g_3 ≠ g1 := Nat.ne_of_lt (Nat.lt_of_lt_of_le hB_3.lt hle1)
 have ne_12 : g_3 ≠ g2 := Nat.ne_of_lt (Nat.lt_of_lt_of_le hB_3.lt hle2)
 have ne_13 : g_4 ≠ g1 := Nat.ne_of_lt (Nat.lt_of_lt_of_le hB_4.lt hle1)
 have ne_14 : g_4 ≠ g2 := Nat.ne_of_lt (Nat.lt_of_lt_of_le hB_4.lt hle2)
 obtain ⟨hB_1, hB_2, hB_3, hB_4⟩ := nx4 hb_6 hB_1 hB_2 hB_3 hB_4
 have HB_4 := below_from HB_3 hb_6
 refine ⟨_, rfl, ?_⟩
 iterate 2 refine e1 ?_
 refine x_range (α := Nat) (encs := fun x => #[.slice ((atA C (64 * x))) (min 64 (q - 64 * x)) (min 64 (q - 64 * x))]) (pe hs rfl rfl) Tryz.func126 (by kernel_rfl) (by kernel_rfl) (chunk_seq (by omega) (by omega) (hc.below HB_4) hq (by omega) B1 B2) keepB_t keepB_b (fun _ => rfl) (fun pre W => ∃ (A1 : Option Addr) (c1 : Nat), (Blk W g_1 #[.slice A (m) (c)] 22) ∧ (Blk W g_2 #[.slice B (k) (d)] 22) ∧ (Blk W g_3 #[.int .u32 (((xorSt ks ns n bs pre).2 : Nat) : Int)] 68) ∧ (Blk W g_4 #[.slice A1 ((xorSt ks ns n bs pre).1.length) (c1)] 22) ∧ (Own W w.heap.size A1 c1 ((xorSt ks ns n bs pre).1)) ∧ Below w.heap.size w W) (fun _ _ _ => False) (fun pre A A' row ⟨A1, c1, BK, BN, BC, BO, hO, HBI⟩ hg hr => ⟨A1, c1, BK.nc hg hr, BN.nc hg hr, BC.nc hg hr, BO.nc hg hr, hO.nc hg hr, below_nc HBI hg hr HB_4.size HBI.size⟩) (fun _ _ _ _ _ h _ _ => h) ?_ (fun x aa W => aa.tmps.size = 30 ∧ aa.defers = [] ∧ aa.eval (.tmp 4) = .pointer (some ⟨g_1, 0, none⟩) ∧ aa.eval (.tmp 5) = .pointer (some ⟨g_2, 0, none⟩) ∧ aa.eval (.tmp 6) = .pointer (some ⟨g_3, 0, none⟩) ∧ aa.eval (.tmp 10) = .pointer (some ⟨g_4, 0, none⟩) ∧ aa.eval (.tmp 11) = .slice ((atA C (64 * x))) (min 64 (q - 64 * x)) (min 64 (q - 64 * x))) (fun _ _ _ _ _ _ h _ _ => h) ?_ ?_ ?_ (fun _ _ _ _ _ _ h _ => h.elim)
 ·exact ⟨none, 0, hB_1, hB_2, hB_3, hB_4, Own.nil _ _, HB_4⟩
 ·intro pre x W K hI hK
  rw [fold1 _ _ _ _ (fun _ _ => rfl)]
  have hs_1 : (putsR a [(17, .func (.func 126) #[] #[.pointer (some ⟨g1, 0, none⟩), .pointer (some ⟨g2, 0, none⟩)]), (16, .slice C (q) (f)), (10, .pointer (some ⟨g_4, 0, none⟩)), (15, .bool (false)), (14, .bool (true)), (13, .slice B (k) (d)), (12, .slice A (m) (c)), (9, .int .i64 ((0 : Nat) : Int)), (8, .slice none (0) (0)), (6, .pointer (some ⟨g_3, 0, none⟩)), (5, .pointer (some ⟨g_2, 0, none⟩)), (4, .pointer (some ⟨g_1, 0, none⟩))]).tmps.size = 30 := by rw [putsR_size]; exact hs
  have u_1 : ({ tmps := (putsR a [(17, .func (.func 126) #[] #[.pointer (some ⟨g1, 0, none⟩), .pointer (some ⟨g2, 0, none⟩)]), (16, .slice C (q) (f)), (10, .pointer (some ⟨g_4, 0, none⟩)), (15, .bool (false)), (14, .bool (true)), (13, .slice B (k) (d)), (12, .slice A (m) (c)), (9, .int .i64 ((0 : Nat) : Int)), (8, .slice none (0) (0)), (6, .pointer (some ⟨g_3, 0, none⟩)), (5, .pointer (some ⟨g_2, 0, none⟩)), (4, .pointer (some ⟨g_1, 0, none⟩))]).tmps, defers := [] } : Act).eval (.tmp 4) = .pointer (some ⟨g_1, 0, none⟩) := (pe hs rfl rfl)
  have u_2 : ({ tmps := (putsR a [(17, .func (.func 126) #[] #[.pointer (some ⟨g1, 0, none⟩), .pointer (some ⟨g2, 0, none⟩)]), (16, .slice C (q) (f)), (10, .pointer (some ⟨g_4, 0, none⟩)), (15, .bool (false)), (14, .bool (true)), (13, .slice B (k) (d)), (12, .slice A (m) (c)), (9, .int .i64 ((0 : Nat) : Int)), (8, .slice none (0) (0)), (6, .pointer (some ⟨g_3, 0, none⟩)), (5, .pointer (some ⟨g_2, 0, none⟩)), (4, .pointer (some ⟨g_1, 0, none⟩))]).tmps, defers := [] } : Act).eval (.tmp 5) = .pointer (some ⟨g_2, 0, none⟩) := (pe hs rfl rfl)
  have u_3 : ({ tmps := (putsR a [(17, .func (.func 126) #[] #[.pointer (some ⟨g1, 0, none⟩), .pointer (some ⟨g2, 0, none⟩)]), (16, .slice C (q) (f)), (10, .pointer (some ⟨g_4, 0, none⟩)), (15, .bool (false)), (14, .bool (true)), (13, .slice B (k) (d)), (12, .slice A (m) (c)), (9, .int .i64 ((0 : Nat) : Int)), (8, .slice none (0) (0)), (6, .pointer (some ⟨g_3, 0, none⟩)), (5, .pointer (some ⟨g_2, 0, none⟩)), (4, .pointer (some ⟨g_1, 0, none⟩))]).tmps, defers := [] } : Act).eval (.tmp 6) = .pointer (some ⟨g_3, 0, none⟩) := (pe hs rfl rfl)
  have u_4 : ({ tmps := (putsR a [(17, .func (.func 126) #[] #[.pointer (some ⟨g1, 0, none⟩), .pointer (some ⟨g2, 0, none⟩)]), (16, .slice C (q) (f)), (10, .pointer (some ⟨g_4, 0, none⟩)), (15, .bool (false)), (14, .bool (true)), (13, .slice B (k) (d)), (12, .slice A (m) (c)), (9, .int .i64 ((0 : Nat) : Int)), (8, .slice none (0) (0)), (6, .pointer (some ⟨g_3, 0, none⟩)), (5, .pointer (some ⟨g_2, 0, none⟩)), (4, .pointer (some ⟨g_1, 0, none⟩))]).tmps, defers := [] } : Act).eval (.tmp 10) = .pointer (some ⟨g_4, 0, none⟩) := (pe hs rfl rfl)
  obtain ⟨a9, ha9⟩ : ∃ a9 : Act, a9 = { tmps := (putsR a [(17, .func (.func 126) #[] #[.pointer (some ⟨g1, 0, none⟩), .pointer (some ⟨g2, 0, none⟩)]), (16, .slice C (q) (f)), (10, .pointer (some ⟨g_4, 0, none⟩)), (15, .bool (false)), (14, .bool (true)), (13, .slice B (k) (d)), (12, .slice A (m) (c)), (9, .int .i64 ((0 : Nat) : Int)), (8, .slice none (0) (0)), (6, .pointer (some ⟨g_3, 0, none⟩)), (5, .pointer (some ⟨g_2, 0, none⟩)), (4, .pointer (some ⟨g_1, 0, none⟩))]).tmps, defers := [] } := ⟨_, rfl⟩
  have hs9 : a9.tmps.size = 30 := by rw [ha9]; exact hs_1
  have hd9 : a9.defers = [] := by rw [ha9]
  rw [← ha9] at u_1 u_2 u_3 u_4 ⊢
  iterate 2 refine e1 ?_
  refine x_nil ?_
  exact hK _ _ (KeepsFrom.refl _ _) (KeepB.refl _ _) hI ⟨(psz hs9), (pdf hd9), ((pm rfl).trans u_1), ((pm rfl).trans u_2), ((pm rfl).trans u_3), ((pm rfl).trans u_4), ev⟩
 ·clear t0 t1 t2 t3 hB_1 hB_2 hB_3 hB_4
  rintro pre x a_1 W ⟨A1, c1, BK, BN, BC, BO, hO, HBI⟩ ⟨hs_2, hd_1, ta_1_4, ta_1_5, ta_1_6, ta_1_10, ta_1_11⟩ hlt
  have KF_1 := KeepsFrom.refl (w_6.heap.size) W
  have KB_1 := KeepB.refl [g1, g2] W
  refine x_bare ?_
  have hcl : (chunkL bs 64 x).length = min 64 (q - 64 * x) := by rw [chunkL_length, hq]
  have hcb := fun (W' : World) (hb : Below w.heap.size w W') => (hc.below hb).chunk hq 64 x
  have hs2 := xorSt_lt ks ns n bs hn pre
  have hsl := xorSt_le ks ns n bs pre
  have hsn := xorSt_snoc ks ns n bs pre x
  generalize hs2' : (xorSt ks ns n bs pre).2 = s2 at hs2 hsn BC
  generalize hs1' : (xorSt ks ns n bs pre).1 = s1 at hsl hsn BO hO
  iterate 2 refine e1 ?_
  refine y_drawn 7 [iV (.slice A1 (s1.length) (c1)), iV (.slice ((atA C (64 * x))) (min 64 (q - 64 * x)) (min 64 (q - 64 * x))), iV (.slice A (m) (c)), iV (.slice B (k) (d)), iI .u32 s2, fun w v => OwnN W.heap.size (64) (blockL ks ns s2) w v, fun w v => OwnN W.heap.size (min 64 (q - 64 * x)) (xorL (chunkL bs 64 x) (blockL ks ns s2) (min 64 (q - 64 * x))) w v] [19, 20, 21, 22, 23, 24, 25] hs_2 hd_1 ⟨(step_ok rfl fun a' w' hb' hO hD => oV (o_load1 rfl ed (BO.nx hb') rfl ⟨by kernel_rfl, by kernel_rfl⟩) rfl), sx, (step_ok rfl fun a' w' hb' hO hD => oV (o_load1 rfl ed (BK.nx hb') rfl ⟨by kernel_rfl, by kernel_rfl⟩) rfl), (step_ok rfl fun a' w' hb' hO hD => oV (o_load1 rfl ed (BN.nx hb') rfl ⟨by kernel_rfl, by kernel_rfl⟩) rfl), (step_ok rfl fun a' w' hb' hO hD => oV (o_load1 rfl ed (BC.nx hb') rfl ⟨by kernel_rfl, by kernel_rfl⟩) rfl), (step_ok rfl fun a' w' hb' hO hD => oC (vs := #[.slice A (m) (c), .slice B (k) (d), .int .u32 ((s2 : Nat) : Int)]) Tryz.func99 rfl (args3 ed ed ed) (Calls.mono (block_any s2 _ (ha.below (below_from HBI hb')) (hb.below (below_from HBI hb')) hm hk hs2) (fun e w'' hR => by obtain ⟨A_1, c_1, rfl, ho_1, hb_7⟩ := hR; exact ⟨_, rfl, ⟨_, _, rfl, ho_1.mono hb'.size⟩, hb_7⟩))),
(step_ok rfl (fun a' w' hb' hO hD => by
    have d_9 : a'.eval (.tmp 20) = .slice ((atA C (64 * x))) (min 64 (q - 64 * x)) (min 64 (q - 64 * x)) := hD 1 20 (by kernel_rfl) rfl
    have d_10 := hD 5 24 (by kernel_rfl) rfl
    obtain ⟨A_2, c_2, hv_1, hO_1⟩ := d_10
    exact .inr ⟨_, #[.slice ((atA C (64 * x))) (min 64 (q - 64 * x)) (min 64 (q - 64 * x)), .slice A_2 (64) (c_2)], (exec_call Tryz.func98 (by kernel_rfl) (by kernel_rfl) _ rfl _ _ (args2 d_9 hv_1)), Calls.mono (WXor_le _ (hcb _ (below_from HBI hb')) (hO_1).bs hcl (blockL_length _ _ _) (by omega) (by omega)) (fun e w'' hR => by obtain ⟨A_3, c_3, rfl, ho_2, hb_8⟩ := hR; exact ⟨_, rfl, ⟨_, _, rfl, ho_2.mono hb'.size⟩, hb_8⟩)⟩)), trivial⟩ (fun a_2 w_7 hs_3 hd_2 hb_9 hO_2 hV_1 => ?_)
  have ta_2_6 := fK 6 hO_2
  have ta_2_10 := fK 10 hO_2
  obtain ⟨BK, BN, BC, BO, hO⟩ := nx5 hb_9 BK BN BC BO hO
  have HB_5 := below_from HBI hb_9
  replace KF_1 := kf_grow KF_1 hb_9
  replace KB_1 := KeepB.grow KB_1 hb_9
  have ta_2_19 := fV 19 hV_1
  have x_1 := hV_1 5 24 rfl rfl
  obtain ⟨A_4, c_4, hv_2, hO_3⟩ := x_1
  replace hO_3 := hO_3.mono HBI.size
  have x_2 := hV_1 6 25 rfl rfl
  obtain ⟨A_5, c_5, hv_3, hO_4⟩ := x_2
  replace hO_4 := hO_4.mono HBI.size
  simp only [List.drop_succ_cons, List.drop_zero]
  refine q_x (o_append rfl ev ((pm rfl).trans hv_3) hO (hO_4).bs rfl (by simp only [xorL_length]) (by omega) HB_5.size) (fun v_5 w_8 hR_7 => ?_)
  obtain ⟨A_6, c_6, rfl, ho_3, hb_10, hg_1, hat_1⟩ := hR_7
  replace BK := BK.grown hO hg_1 (by decide)
  replace BN := BN.grown hO hg_1 (by decide)
  replace BC := BC.grown hO hg_1 (by decide)
  replace BO := BO.grown hO hg_1 (by decide)
  replace KF_1 := kf_app KF_1 hO hg_1
  replace KB_1 := KeepB.app KB_1 hO hg_1
  have HB_6 : Below w.heap.size w w_8 := (HB_5).trans hb_10
  refine q_d (o_store1 rfl ev ev rfl rfl BO (by simp only [List.length_cons, List.length_nil]; omega) ⟨by kernel_rfl, by kernel_rfl⟩) (fun w_9 hR_8 => ?_)
  obtain ⟨hB_5, hX_1⟩ := hR_8
  replace BK := hX_1.blk BK ne_4
  replace BN := hX_1.blk BN ne_5
  replace BC := hX_1.blk BC ne_6
  replace ho_3 := ho_3.keepX BO (by decide) hX_1
  replace KF_1 := kf_store KF_1 BO hX_1
  replace KB_1 := KeepB.store KB_1 hX_1 (by simp only [List.mem_cons, List.not_mem_nil, or_false, not_or]; exact ⟨ne_13, ne_14⟩)
  have HB_7 := hX_1.below HB_6 HB_6.size (fun k hk => hk ▸ ge_4)
  simp only [List.set_cons_zero, List.set_cons_succ] at hB_5
  iterate 2 refine e1 ?_
  refine q_ld (v := .int .u32 ((s2 : Nat) : Int)) ((pm rfl).trans ta_2_6) BC rfl ?_
  refine q_w (o_addU (n := 1) ((s2 + 1) % 4294967296) rfl ev rfl (by rw [IntKind.wrap_u32]; omega)) ?_
  refine q_d (o_store1 rfl ev ev rfl rfl BC (by simp only [List.length_cons, List.length_nil]; omega) ⟨by kernel_rfl, by kernel_rfl⟩) (fun w_10 hR_9 => ?_)
  obtain ⟨hB_6, hX_2⟩ := hR_9
  replace BK := hX_2.blk BK ne_2
  replace BN := hX_2.blk BN ne_3
  replace ho_3 := ho_3.keepX BC (by decide) hX_2
  replace hB_5 := hX_2.blk hB_5 (Ne.symm ne_6)
  replace KF_1 := kf_store KF_1 BC hX_2
  replace KB_1 := KeepB.store KB_1 hX_2 (by simp only [List.mem_cons, List.not_mem_nil, or_false, not_or]; exact ⟨ne_11, ne_12⟩)
  have HB_8 := hX_2.below HB_7 HB_7.size (fun k hk => hk ▸ ge_3)
  clear BC
  simp only [List.set_cons_zero, List.set_cons_succ] at hB_6
  refine e1 ?_
  exact ⟨KF_1, KB_1, _, _, BK, BN, (by rw [hsn]; exact hB_6), (by rw [hsn]; simp only [List.length_append, xorL_length, hcl]; exact hB_5), (by rw [hsn]; simp only [hcl]; exact ho_3), HB_8⟩
 ·clear hB_1 hB_2 hB_3 hB_4
  rintro D_1 xs w_11 hle_1 rfl ⟨A1, c1, BK, BN, BC, BO, hO, HBI⟩ hD_1
  replace hD_1 : MarkD w_11 D_1 := hD_1
  iterate 2 refine e1 ?_
  refine x_genD hs hd (fun a_3 hs_4 hd_3 he_1 => ?_)
  have ta_3_10 : a_3.eval (.tmp 10) = .pointer (some ⟨g_4, 0, none⟩) := (he_1 10).trans (pe hs rfl rfl)
  clear he_1
  iterate 2 refine e1 ?_
  refine q_ld (v := .slice A1 ((xorSt ks ns n bs (List.range ((q + 64 - 1) / 64))).1.length) (c1)) ((pm rfl).trans ta_3_10) BO rfl ?_
  refine e1 ?_
  refine q_as (.int .i64 ((0 : Nat) : Int)) rfl ?_
  iterate 2 refine e1 ?_
  refine retM2 rfl hd_3 hD_1 (pe hs_4 rfl rfl) (pe hs_4 rfl rfl) ?_
  have hg := grownBy_putObj' w_11 D_1 (.deferred none)
  have hr := hD_1.row (B := w.heap.size) (Nat.le_trans (by have := HB_4.size; omega) hle_1)
  have hlen : (xorSt ks ns n bs (List.range ((q + 64 - 1) / 64))).1.length = q := by rw [← hq]; exact xorS_length ks ns n bs
  refine ⟨A1, c1, by rw [hlen]; rfl, ?_, below_nc HBI hg hr (Nat.le_refl _) HBI.size⟩
  have h9 := hO.nc hg hr
  unfold xorS
  rw [hq]
  exact h9
end Go.Proofs.YtkhbihnnkflfkaaGreat
