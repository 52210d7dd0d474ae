/-
 WALKS: slices.Chunk of bytes.
-/
import Derived.Test.YtkhbihnnkflfkaaGreatEz
import Derived.Test.YtkhbihnnkflfkaaGreatOps2
namespace Go.Proofs.YtkhbihnnkflfkaaGreat
open Go.RowKit
set_option maxHeartbeats 8000000
set_option linter.unusedVariables false
set_option linter.unusedSimpArgs false
set_option maxRecDepth 100000
attribute [local irreducible] wpList wpListIn putsR

variable {A : Option Addr} {c g1 g2 m n : Nat} {w : World} {xs : List Nat}
theorem Chunk_any (m : Nat) (w : World) (hm : 0 < m) :
  Calls Tryz.prog 97 #[.slice A (n) (c), .int .i64 ((m : Nat) : Int)] w fun e w' => ∃ g1 g2, e = .returned (.func (.func 126) #[] #[.pointer (some ⟨g1, 0, none⟩), .pointer (some ⟨g2, 0, none⟩)]) ∧ w.heap.size ≤ g1 ∧ w.heap.size ≤ g2 ∧ g1 ≠ g2 ∧ Blk w' g1 #[.slice A n c] 22 ∧ Blk w' g2 #[.int .i64 (m : Int)] 3 ∧ Below w.heap.size w w' := by
 refine x_enter 9 Tryz.func97 rfl rfl (fun a hs hd ha0 => ?_)
 have t0 := tA 0 ha0
 have t1 := tA 1 ha0
 clear ha0
 iterate 2 refine e1 ?_
 refine q_x (o_box rfl ev rfl) (fun v_1 w_1 hR_1 => ?_)
 obtain ⟨g_1, rfl, hle_1, hB_1, hb_1⟩ := hR_1
 have ge_1 : w.heap.size ≤ g_1 := hle_1
 refine q_x (o_box rfl ev rfl) (fun v_2 w_2 hR_2 => ?_)
 obtain ⟨g_2, rfl, hle_2, hB_2, hb_2⟩ := hR_2
 have ne_1 : g_1 ≠ g_2 := Nat.ne_of_lt (Nat.lt_of_lt_of_le hB_1.lt hle_2)
 have ge_2 : w.heap.size ≤ g_2 := Nat.le_trans hb_1.size hle_2
 replace hB_1 := hB_1.nx hb_2
 have HB_1 := below_from hb_1 hb_2
 refine q_as ((Value.nilFunc)) rfl ?_
 iterate 4 refine e1 ?_
 refine q_ld (v := .int .i64 ((m : Nat) : Int)) (pe hs rfl rfl) hB_2 rfl ?_
 refine q_w (o_lss (n := 1) rfl ev rfl) ?_
 refine e1 ?_
 refine w2_split (pe hs rfl rfl) (fun h_1 => ?_) (fun h_1 => ?_)
 ·simp only [DD9] at h_1
  exact absurd h_1 (by omega)
 ·simp only [DD9] at h_1
  iterate 4 refine e1 ?_
  refine q_v 8 (.func (.func 126) #[] #[.pointer (some ⟨g_1, 0, none⟩), .pointer (some ⟨g_2, 0, none⟩)]) (o_makeFunc rfl (args2 ev ev)) ?_
  iterate 4 refine e1 ?_
  exact ⟨g_1, g_2, rfl, ge_1, ge_2, ne_1, hB_1, hB_2, HB_1⟩
theorem below_grown {w' : World} (h : Below w.heap.size w w') : w.grownBy w' none := ⟨h.os, h.tape, h.output, h.size, fun k hk _ => h.block k hk⟩
def chunkV (A : Option Addr) (n m k : Nat) : Value := .slice (atA A (m * k)) (min m (n - m * k)) (min m (n - m * k))
theorem chunk1_calls {l : Nat} (hm : 0 < m) (hm2 : m ≤ 4611686018427387904) (w : World) (hA : Bs w A c xs) (hn : xs.length = n) (J Jx : List Nat → World → Prop) (B1 : Blk w g1 #[.slice A n c] 22) (B2 : Blk w g2 #[.int .i64 (m : Int)] 3) (hn2 : n ≤ 4611686018427387904)
  (hY : ∀ pre x W1, J pre W1 → pre.length < (n + m - 1) / m → YieldAt Fence.wide 7 Tryz.prog l #[chunkV A n m x] W1 fun e W' => (e = .returned (.bool true) ∧ J (pre ++ [x]) W' ∧ KeepB [g1, g2] W1 W') ∨ (e = .returned (.bool false) ∧ Jx (pre ++ [x]) W')) (h0 : J [] w) (hAb : AbidesFrom w.heap.size J) :
  Calls Tryz.prog 126 #[.func (.yield l) #[] #[], .pointer (some ⟨g1, 0, none⟩), .pointer (some ⟨g2, 0, none⟩)] w fun e w' => (∃ v, e = .returned v) ∧ ((∃ ys, ys = List.range ((n + m - 1) / m) ∧ J ys w') ∨ (∃ pre, True ∧ Jx pre w')) := by
 refine x_enterI 31 Tryz.func126 rfl rfl (fun a hs hd ha0 => ?_)
 have t0 := tA 0 ha0
 have t1 := tA 1 ha0
 have t2 := tA 2 ha0
 clear ha0
 iterate 2 refine e1 ?_
 refine q_as (.int .i64 ((0 : Nat) : Int)) rfl ?_
 iterate 2 refine e1 ?_
 refine x_loop (fun nn aa ww => ∃ (k : Nat), nn = n - k ∧ aa.tmps.size = 31 ∧ aa.defers = [] ∧ aa.eval (.tmp 0) = .func (.yield l) #[] #[] ∧ aa.eval (.tmp 1) = .pointer (some ⟨g1, 0, none⟩) ∧ aa.eval (.tmp 2) = .pointer (some ⟨g2, 0, none⟩) ∧ aa.eval (.tmp 4) = .int .i64 ((m * k : Nat) : Int) ∧ m * k < n + m ∧ J (List.range k) ww ∧ Blk ww g1 #[.slice A n c] 22 ∧ Blk ww g2 #[.int .i64 (m : Int)] 3) (n) ?_ ?_
 ·exact ⟨0, rfl, (psz hs), (pdf hd), ev, ev, ev, ev, by rw [Nat.mul_zero]; omega, h0, B1, B2⟩
 ·skip
  clear t0 t1 t2 hd B1 B2
  rintro nna_1 a_1 w_1 ⟨k, hm_1, hs_1, hd_1, ta_1_0, ta_1_1, ta_1_2, ta_1_4, hk, hJ, B1, B2⟩ K_3 hK_3
  subst hm_1
  have hmk : m * (k + 1) = m * k + m := Nat.mul_succ m k
  have hle : k ≤ m * k := Nat.le_mul_of_pos_left k hm
  have hnc : n ≤ c := by have := hA.le; omega
  iterate 4 refine e1 ?_
  refine q_ld (v := .slice A (n) (c)) ((pm rfl).trans ta_1_1) B1 rfl ?_
  refine q_w (o_len rfl ev) ?_
  refine q_w (o_lss rfl ev ev) ?_
  refine e1 ?_
  refine w2_split (pe hs_1 rfl rfl) (fun h_1 => ?_) (fun h_1 => ?_)
  ·simp only [DD9] at h_1
   have hlt : k < (n + m - 1) / m := (Nat.le_div_iff_mul_le hm).2 (by rw [Nat.succ_mul, Nat.mul_comm k m]; omega)
   iterate 5 refine e1 ?_
   refine y_drawn 5 [iI .i64 m, iV (.slice A (n) (c)), iV (.int .i64 ((m * k : Nat) : Int)), iV (.slice ((subA A (m * k) c)) (n - (m * k)) (c - (m * k))), iV (.int .i64 ((n - (m * k) : Nat) : Int))] [13, 14, 15, 16, 17] hs_1 hd_1 ⟨(step_ok rfl fun a' w' hb' hO hD => oV (o_load1 rfl ed (B2.nx hb') rfl ⟨by kernel_rfl, by kernel_rfl⟩) rfl), (step_ok rfl fun a' w' hb' hO hD => oV (o_load1 rfl ed (B1.nx hb') rfl ⟨by kernel_rfl, by kernel_rfl⟩) rfl), sx, (step_ok rfl fun a' w' hb' hO hD => oV (o_sliceL rfl ed ed (by omega)) rfl), sx, trivial⟩ (fun a_2 w_2 hs_2 hd_2 hb_1 hO_1 hV_1 => ?_)
   have ta_2_0 := fK 0 hO_1
   have ta_2_1 := fK 1 hO_1
   have ta_2_2 := fK 2 hO_1
   have ta_2_4 := fK 4 hO_1
   obtain ⟨B1, B2⟩ := nx2 hb_1 B1 B2
   replace hJ := hAb _ _ _ _ hJ (below_grown hb_1) (fun r e => by cases e)
   have ta_2_13 := fV 13 hV_1
   have ta_2_17 := fV 17 hV_1
   simp only [List.drop_succ_cons, List.drop_zero]
   refine q_v 18 (.int .i64 ((min m (n - (m * k)) : Nat) : Int)) (o_min rfl ev ev) ?_
   iterate 2 refine e1 ?_
   refine w2_seq (fun K_9 hK_9 => ?_)
   refine x_regionI ?_
   refine op_valI (d := 19) (v := .func (.yield l) #[] #[]) rfl rfl (o_move rfl ((pm rfl).trans ta_2_0)) ?_
   refine op_valI (d := 20) (v := .slice A (n) (c)) rfl rfl (o_load1 rfl ((pm rfl).trans ta_2_1) B1 rfl ⟨by kernel_rfl, by kernel_rfl⟩) ?_
   refine op_valI (d := 21) (v := .int .i64 ((m * k : Nat) : Int)) rfl rfl (o_move rfl ((pm rfl).trans ta_2_4)) ?_
   refine op_valI (d := 22) (v := .int .i64 ((m * k : Nat) : Int)) rfl rfl (o_move rfl ((pm rfl).trans ta_2_4)) ?_
   refine op_valI (d := 23) (v := .int .i64 ((min m (n - (m * k)) : Nat) : Int)) rfl rfl (o_move rfl (pe hs_2 rfl rfl)) ?_
   refine op_valI (d := 24) (v := .int .i64 (((m * k) + (min m (n - (m * k))) : Nat) : Int)) rfl rfl (o_add64 (m := (m * k)) (n := (min m (n - (m * k)))) rfl (pe hs_2 rfl rfl) (pe hs_2 rfl rfl) (by omega)) ?_
   refine op_valI (d := 25) (v := .int .i64 ((m * k : Nat) : Int)) rfl rfl (o_move rfl ((pm rfl).trans ta_2_4)) ?_
   refine op_valI (d := 26) (v := .int .i64 ((min m (n - (m * k)) : Nat) : Int)) rfl rfl (o_move rfl (pe hs_2 rfl rfl)) ?_
   refine op_valI (d := 27) (v := .int .i64 (((m * k) + (min m (n - (m * k))) : Nat) : Int)) rfl rfl (o_add64 (m := (m * k)) (n := (min m (n - (m * k)))) rfl (pe hs_2 rfl rfl) (pe hs_2 rfl rfl) (by omega)) ?_
   refine op_valI (d := 28) (v := (chunkV A n m k)) rfl rfl (o_eq (o_slice3 rfl (pe hs_2 rfl rfl) (pe hs_2 rfl rfl) (pe hs_2 rfl rfl) (pe hs_2 rfl rfl) (by omega) (by omega) (by omega)) (by unfold chunkV; rw [subA_le _ (by omega)]; congr 1 <;> omega)) ?_
   refine op_yield (d := 29) rfl rfl rfl (pe hs_2 rfl rfl) (pe hs_2 rfl rfl) (hY (List.range k) k _ hJ (by simp; exact hlt)) (fun e_1 w_3 hR_1 => ?_)
   rcases hR_1 with ⟨rfl, hJ2, hk2⟩ | ⟨rfl, hJx2⟩
   ·skip
    refine ⟨_, rfl, ?_⟩
    replace B1 := hk2 _ (by simp) _ _ B1 (by decide)
    replace B2 := hk2 _ (by simp) _ _ B2 (by decide)
    refine op_valI (d := 30) (v := .bool (false)) rfl rfl (o_not (b := true) rfl (pe hs_2 rfl rfl)) ?_
    refine x_nilI ?_
    refine hK_9 _ _ ?_
    iterate 6 refine e1 ?_
    refine q_ld (v := .int .i64 ((m : Nat) : Int)) ((pm rfl).trans ta_2_2) B2 rfl ?_
    refine q_w (o_add64 rfl ev ev (by omega)) ?_
    refine e1 ?_
    refine x_nil ?_
    refine hK_3 _ _ _ ⟨k + 1, rfl, (psz hs_2), (pdf hd_2), ev, ev, ev, ev, (by omega), (by rw [List.range_succ]; exact hJ2), B1, B2⟩ ?_
    omega
   ·skip
    refine ⟨_, rfl, ?_⟩
    refine op_valI (d := 30) (v := .bool (true)) rfl rfl (o_not (b := false) rfl (pe hs_2 rfl rfl)) ?_
    refine x_nilI ?_
    refine hK_9 _ _ ?_
    iterate 6 refine e1 ?_
    refine ret0 rfl hd_2 ?_
    exact ⟨⟨_, rfl⟩, .inr ⟨_, trivial, hJx2⟩⟩
  ·simp only [DD9] at h_1
   iterate 4 refine e1 ?_
   refine end0 rfl hd_1 ?_
   have hfin : k = (n + m - 1) / m := by
    refine (Nat.div_eq_of_lt_le ?_ ?_).symm <;> rw [Nat.mul_comm]
    ·rcases Nat.eq_zero_or_pos k with h0' | h0'
     ·rw [h0']; simp
     ·omega
    ·have := Nat.mul_succ m k; omega
   exact ⟨⟨_, rfl⟩, .inl ⟨List.range k, by rw [hfin], hJ⟩⟩
theorem chunk_seq (hm : 0 < m) (hm2 : m ≤ 4611686018427387904) (hA : Bs w A c xs) (hn : xs.length = n) (hn2 : n ≤ 4611686018427387904) (B1 : Blk w g1 #[.slice A n c] 22) (B2 : Blk w g2 #[.int .i64 (m : Int)] 3) :
  SeqStopsK Fence.wide 8 Tryz.prog 126 #[.pointer (some ⟨g1, 0, none⟩), .pointer (some ⟨g2, 0, none⟩)] (fun k => #[chunkV A n m k]) (KeepB [g1, g2]) (fun ys => ys = List.range ((n + m - 1) / m)) (fun _ => True) ((n + m - 1) / m) w := by
 intro l J Jx W hb hJ hJx hY h0
 exact callsIn_wide.2 (chunk1_calls hm hm2 W (hA.below hb) hn J Jx (B1.old hb) (B2.old hb) hn2 hY h0 hJ)
end Go.Proofs.YtkhbihnnkflfkaaGreat
