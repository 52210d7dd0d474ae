/-
 Hash · Hmac, IN ONE TEXT.
-/
import Derived.Test.YtkhbihnnkflfkaaGreatEz
import Derived.Test.YtkhbihnnkflfkaaGreatShaM
import Derived.Test.YtkhbihnnkflfkaaGreatCiph
/-
 WALKS: sha: a hash.
-/
namespace Go.Proofs.YtkhbihnnkflfkaaGreat
open Go.RowKit
set_option maxHeartbeats 8000000
set_option linter.unusedVariables false
set_option linter.unusedSimpArgs false
set_option maxRecDepth 100000
attribute [local irreducible] wpList wpListIn putsR

variable {bs bs0 sv tt xs : List Nat} {p q : Value} {w w' : World} {A A0 : Option Addr} {c c0 g j m n : Nat} {M : Nat → Prop}
section
variable {o : Oper} {ev : Operand → Value} {w : World} {x y z : Operand} {T U t : TypeId} {g k : Nat}
theorem iws8 {kd : IntKind} : ∀ {sv : List Nat}, sv.length = 8 → iws kd sv = [.int kd ((sv.getD 0 0 : Nat) : Int), .int kd ((sv.getD 1 0 : Nat) : Int), .int kd ((sv.getD 2 0 : Nat) : Int), .int kd ((sv.getD 3 0 : Nat) : Int), .int kd ((sv.getD 4 0 : Nat) : Int), .int kd ((sv.getD 5 0 : Nat) : Int), .int kd ((sv.getD 6 0 : Nat) : Int), .int kd ((sv.getD 7 0 : Nat) : Int)]
 | [_, _, _, _, _, _, _, _], _ => rfl
theorem o_ldH8 (ho : o.op = .load t x) (hx : ev x = .pointer (some ⟨g, 0, none⟩)) (hB : Blk w g #[.int .u32 ((sv.getD 0 0 : Nat) : Int), .int .u32 ((sv.getD 1 0 : Nat) : Int), .int .u32 ((sv.getD 2 0 : Nat) : Int), .int .u32 ((sv.getD 3 0 : Nat) : Int), .int .u32 ((sv.getD 4 0 : Nat) : Int), .int .u32 ((sv.getD 5 0 : Nat) : Int), .int .u32 ((sv.getD 6 0 : Nat) : Int), .int .u32 ((sv.getD 7 0 : Nat) : Int), p, q] T) (hl : sv.length = 8) (ht : IsAgg t 8) : (execOp ev o).run Tryz.prog w = .ok (.value (.agg (iws .u32 sv).toArray)) w := by
 rw [iws8 hl]
 exact o_loadA _ ho hx hB ht rfl
theorem o_stH8 {nv : List Nat} (ho : o.op = .store t x y) (hx : ev x = .pointer (some ⟨g, 0, none⟩)) (hy : ev y = .agg (iws .u32 nv).toArray) (hB : Blk w g #[.int .u32 ((sv.getD 0 0 : Nat) : Int), .int .u32 ((sv.getD 1 0 : Nat) : Int), .int .u32 ((sv.getD 2 0 : Nat) : Int), .int .u32 ((sv.getD 3 0 : Nat) : Int), .int .u32 ((sv.getD 4 0 : Nat) : Int), .int .u32 ((sv.getD 5 0 : Nat) : Int), .int .u32 ((sv.getD 6 0 : Nat) : Int), .int .u32 ((sv.getD 7 0 : Nat) : Int), p, q] T) (hl : nv.length = 8) (ht : IsAgg t 8) :
  ∃ w', (execOp ev o).run Tryz.prog w = .ok .skip w' ∧ Blk w' g #[.int .u32 ((nv.getD 0 0 : Nat) : Int), .int .u32 ((nv.getD 1 0 : Nat) : Int), .int .u32 ((nv.getD 2 0 : Nat) : Int), .int .u32 ((nv.getD 3 0 : Nat) : Int), .int .u32 ((nv.getD 4 0 : Nat) : Int), .int .u32 ((nv.getD 5 0 : Nat) : Int), .int .u32 ((nv.getD 6 0 : Nat) : Int), .int .u32 ((nv.getD 7 0 : Nat) : Int), p, q] T ∧ BelowX (fun k => k = g) w w' := by
 have h1 := iws_one .u32 nv
 rw [iws8 hl] at hy h1
 exact o_storeA ho hx hy hB ht (by simp) h1
end
theorem Bs.keepH {cur : List Value} {T : TypeId} (h : Bs w A c xs) (hB : Blk w g cur.toArray T) (hno : ∀ z : Int, Value.int .u8 z ∉ cur) (hb : BelowX (fun k => k = g) w w') : Bs w' A c xs := by
 refine ⟨h.le, h.max, h.b8, ?_⟩
 rcases h.cells with h0 | ⟨b, off, hA, hc⟩
 ·exact .inl h0
 ·refine .inr ⟨b, off, hA, fun i hi => ?_⟩
  have hcell := hc i hi
  have hlt := World.block_lt_of_cell? w _ hcell
  have hne : b ≠ g := by
   rintro rfl
   rw [hB.cell] at hcell
   exact hno _ (List.mem_of_getElem? (by simpa using hcell))
  unfold World.cell? at hcell ⊢
  rw [hb.block b hlt hne]
  exact hcell
def hvN (bs : List Nat) : Nat → List Nat
 | 0 => beginS
 | K + 1 => takeL (hvN bs K) ((bs.drop (64 * K)).take 64)
theorem hvN_ok (bs : List Nat) : ∀ K, Ok32 8 (hvN bs K)
 | 0 => beginS_ok
 | K + 1 => takeL_ok (hvN_ok bs K) _
theorem hvN_app (bs cs : List Nat) : ∀ K, 64 * K ≤ bs.length → hvN (bs ++ cs) K = hvN bs K
 | 0, _ => rfl
 | K + 1, h => by
  rw [hvN, hvN, hvN_app bs cs K (by omega), List.drop_append_of_le_length (by omega), List.take_append_of_le_length (by rw [List.length_drop]; omega)]
structure HashAt (w : World) (M : Nat → Prop) (g : Nat) (bs : List Nat) : Prop where
 lt : Lt w M
 b8 : ∀ x ∈ bs, x < 256
 row : ∃ A c, Blk w g #[.int .u32 (((hvN bs (bs.length / 64)).getD 0 0 : Nat) : Int), .int .u32 (((hvN bs (bs.length / 64)).getD 1 0 : Nat) : Int), .int .u32 (((hvN bs (bs.length / 64)).getD 2 0 : Nat) : Int), .int .u32 (((hvN bs (bs.length / 64)).getD 3 0 : Nat) : Int), .int .u32 (((hvN bs (bs.length / 64)).getD 4 0 : Nat) : Int), .int .u32 (((hvN bs (bs.length / 64)).getD 5 0 : Nat) : Int), .int .u32 (((hvN bs (bs.length / 64)).getD 6 0 : Nat) : Int), .int .u32 (((hvN bs (bs.length / 64)).getD 7 0 : Nat) : Int), .slice A (bs.length % 64) (c), .int .i64 ((bs.length : Nat) : Int)] 160 ∧ Wt w A c (bs.drop (64 * (bs.length / 64))) ∧ M g ∧ ∀ j, blkA A j → M j
theorem HashAt.keep (h : HashAt w M g bs) (hb : KeptM M w w') (hs : w.heap.size ≤ w'.heap.size) : HashAt w' M g bs := by
 obtain ⟨A, c, hB, hO, hg, hA⟩ := h.row
 exact ⟨h.lt.up hs, h.b8, A, c, (hb g hg).trans hB, hO.keep (fun j hj => hb j (hA j hj)), hg, hA⟩
theorem HashAt.nx (h : HashAt w M g bs) (hb : Below w.heap.size w w') : HashAt w' M g bs := h.keep (kept_of hb h.lt) hb.size
theorem HashAt.keepM {X : Nat → Prop} (h : HashAt w M g bs) (hb : BelowX X w w') (hs : Sep M X) : HashAt w' M g bs := h.keep (hb.kept h.lt hs) hb.size
def zerosN (n : Nat) : Nat := (119 - n % 64) % 64
def padS (n : Nat) : List Nat := 128 :: (List.replicate (zerosN n) 0 ++ putL (rev64 (n % 18446744073709551616 * 8 % 18446744073709551616)) 8)
theorem padS_length (n : Nat) : (padS n).length = 9 + zerosN n := by unfold padS; simp only [List.length_cons, List.length_append, List.length_replicate, putL_length]; omega
def fullS (bs : List Nat) : List Nat := bs ++ padS bs.length
theorem fullS_mod (bs : List Nat) : (fullS bs).length % 64 = 0 := by unfold fullS; rw [List.length_append, padS_length]; unfold zerosN; omega
def sumO (v : List Nat) : Nat → List Nat
 | 0 => []
 | K + 1 => sumO v K ++ putL (rev32 (v.getD K 0)) 4
theorem sumO_length (v : List Nat) : ∀ K, (sumO v K).length = 4 * K
 | 0 => rfl
 | K + 1 => by rw [sumO, List.length_append, sumO_length v K, putL_length]; omega
def shaL (bs : List Nat) : List Nat := sumO (hvN (fullS bs) ((fullS bs).length / 64)) 8
theorem shaL_length (bs : List Nat) : (shaL bs).length = 32 := sumO_length _ 8
theorem begin_sha8 (w : World) : Calls Tryz.prog 137 #[] w fun e w' => e = .returned (.agg #[.int .u32 ((beginS.getD 0 0 : Nat) : Int), .int .u32 ((beginS.getD 1 0 : Nat) : Int), .int .u32 ((beginS.getD 2 0 : Nat) : Int), .int .u32 ((beginS.getD 3 0 : Nat) : Int), .int .u32 ((beginS.getD 4 0 : Nat) : Int), .int .u32 ((beginS.getD 5 0 : Nat) : Int), .int .u32 ((beginS.getD 6 0 : Nat) : Int), .int .u32 ((beginS.getD 7 0 : Nat) : Int)]) ∧ Below w.heap.size w w' := begin_sha w
theorem New_sha (w : World) :
  Calls Tryz.prog 109 #[] w fun e w' => ∃ (M : Nat → Prop) (g : Nat), e = .returned (.pointer (some ⟨g, 0, none⟩)) ∧ HashAt w' M g [] ∧ Ge w M ∧ Below w.heap.size w w' := by
 refine x_enter 4 Tryz.func109 rfl rfl (fun a hs hd ha0 => ?_)
 clear ha0
 iterate 6 refine e1 ?_
 refine q_ca (vs := #[]) Tryz.func137 (args0) (begin_sha8 _) (fun e_1 w_1 hR_1 => ?_)
 obtain ⟨rfl, hb_2⟩ := hR_1
 refine ⟨_, rfl, ?_⟩
 refine q_v _ (.agg #[.int .u32 ((beginS.getD 0 0 : Nat) : Int), .int .u32 ((beginS.getD 1 0 : Nat) : Int), .int .u32 ((beginS.getD 2 0 : Nat) : Int), .int .u32 ((beginS.getD 3 0 : Nat) : Int), .int .u32 ((beginS.getD 4 0 : Nat) : Int), .int .u32 ((beginS.getD 5 0 : Nat) : Int), .int .u32 ((beginS.getD 6 0 : Nat) : Int), .int .u32 ((beginS.getD 7 0 : Nat) : Int), .slice none (0) (0), .int .i64 ((0 : Nat) : Int)]) (o_bld rfl (bld1 ev) (fun _ => by kernel_rfl)) ?_
 refine q_x (o_boxL (cs := #[.int .u32 ((beginS.getD 0 0 : Nat) : Int), .int .u32 ((beginS.getD 1 0 : Nat) : Int), .int .u32 ((beginS.getD 2 0 : Nat) : Int), .int .u32 ((beginS.getD 3 0 : Nat) : Int), .int .u32 ((beginS.getD 4 0 : Nat) : Int), .int .u32 ((beginS.getD 5 0 : Nat) : Int), .int .u32 ((beginS.getD 6 0 : Nat) : Int), .int .u32 ((beginS.getD 7 0 : Nat) : Int), .slice none (0) (0), .int .i64 ((0 : Nat) : Int)]) rfl ev) (fun v_1 w_2 hR_2 => ?_)
 obtain ⟨g_1, rfl, hle_1, hB_1, hb_3⟩ := hR_2
 have ge_1 : w.heap.size ≤ g_1 := Nat.le_trans hb_2.size hle_1
 have HB_1 := below_from hb_2 hb_3
 iterate 4 refine e1 ?_
 exact ⟨MX w (fun _ => False) w_2, g_1, rfl, ⟨Lt.mx (fun _ h => h.elim) HB_1.size, by simp, none, 0, hB_1, Wt.nil _, .inr ⟨ge_1, hB_1.lt⟩, fun j hj => absurd hj blkA_none⟩, Ge.mx (fun _ h => h.elim) (Nat.le_refl _), HB_1⟩
theorem take_hv (K : Nat) (w : World) (h0 : Bs w A0 c0 ((tt.drop (64 * K)).take 64)) (hq : ((tt.drop (64 * K)).take 64).length = 64) :
  Calls Tryz.prog 138 #[.agg (iws .u32 (hvN tt K)).toArray, .slice A0 64 c0] w fun e w' => e = .returned (.agg (iws .u32 (hvN tt (K + 1))).toArray) ∧ Below w.heap.size w w' := by
 rw [hvN]
 exact take_sha w h0 hq (hvN_ok tt K)
theorem Wt.firstH (h : Wt w A c xs) (hn : n ≤ xs.length) : Bs w (subA A 0 c) c (xs.take n) := by
 have h1 := Bs.sub h.bs (l := 0) (q := n) (m := c) (by omega) (by have := h.le; omega) (Nat.le_refl _)
 rwa [List.drop_zero, Nat.sub_zero, Nat.sub_zero] at h1
theorem Write_sha {q : Nat} (w : World) (hH : HashAt w M g bs0) (h0 : Bs w A0 c0 bs) (hq : bs.length = q) (b1 : bs0.length + q ≤ 100000000) :
  Calls Tryz.prog 110 #[.pointer (some ⟨g, 0, none⟩), .slice A0 (q) (c0)] w fun e w' => e = .returned (.tuple #[]) ∧ (∃ M', HashAt w' M' g (bs0 ++ bs) ∧ NextM w M M') ∧ BelowX M w w' := by
 obtain ⟨hlt0, hb80, A1, c1, hB, hWt, hMg, hMA⟩ := hH
 obtain ⟨tt, htt⟩ : ∃ t, t = bs0 ++ bs := ⟨_, rfl⟩
 obtain ⟨m1, hm2⟩ : ∃ n, bs0.length + q = n := ⟨_, rfl⟩
 have hm1 : tt.length = m1 := by rw [htt, List.length_append, hq, hm2]
 have hl0 : (bs0.drop (64 * (bs0.length / 64))).length = bs0.length % 64 := by rw [List.length_drop]; omega
 have h00 := h0
 refine x_enter 51 Tryz.func110 rfl rfl (fun a hs hd ha0 => ?_)
 have t0 := tA 0 ha0
 have t1 := tA 1 ha0
 clear ha0
 have HB0 : BelowX (M) w w := BelowX.refl _ _
 iterate 4 refine e1 ?_
 refine q_v 5 (.bool (false)) (o_nil (b := false) rfl ev rfl rfl ⟨160, fun _ => by kernel_rfl⟩) ?_
 iterate 8 refine e1 ?_
 refine q_fb 9 ?_
 refine q_ld (v := .int .i64 ((bs0.length : Nat) : Int)) (pe hs rfl rfl) hB rfl ?_
 refine e1 ?_
 refine q_w (o_len rfl ev) ?_
 refine q_w (o_add64 rfl ev ev (by omega)) ?_
 refine e1 ?_
 refine q_fb 9 ?_
 refine q_d (o_store1 rfl ev ev rfl rfl hB (by simp only [List.length_cons, List.length_nil]; omega) ⟨by kernel_rfl, by kernel_rfl⟩) (fun w_1 hR_1 => ?_)
 obtain ⟨hB_1, hX_1⟩ := hR_1
 replace hWt := hWt.keepX hB (by decide) hX_1
 replace h0 := h0.keepH hB (by intro z; simp) hX_1
 have HB_1 := HB0.step hX_1 (fun k hk (hY : k = g) => (by rw [hY]; exact hMg))
 simp only [List.set_cons_zero, List.set_cons_succ] at hB_1
 iterate 6 refine e1 ?_
 refine q_fb 8 ?_
 refine q_ld (v := .slice A1 (bs0.length % 64) (c1)) (pe hs rfl rfl) hB_1 rfl ?_
 refine e1 ?_
 refine q_x (o_appW rfl ev ev hWt h0 hl0 hq (by omega)) (fun v_1 w_2 hR_2 => ?_)
 obtain ⟨A_1, c_1, rfl, hWt_1, hX_2, hA_1⟩ := hR_2
 replace hB_1 := hX_2.blk hB_1 (hWt.sepB hB_1 (by decide))
 have HB_2 := HB_1.step hX_2 (fun k hk hY => hMA k hY)
 have hAM : ∀ k, blkA A_1 k → M k ∨ w.heap.size ≤ k := fun k hk => (hA_1 k hk).imp (hMA k) (fun h => Nat.le_trans HB_1.size h)
 refine e1 ?_
 refine q_fb 8 ?_
 refine q_d (o_store1 rfl ev ev rfl rfl hB_1 (by simp only [List.length_cons, List.length_nil]; omega) ⟨by kernel_rfl, by kernel_rfl⟩) (fun w_3 hR_3 => ?_)
 obtain ⟨hB_2, hX_3⟩ := hR_3
 replace hWt_1 := hWt_1.keepX hB_1 (by decide) hX_3
 have HB_3 := HB_2.step hX_3 (fun k hk (hY : k = g) => (by rw [hY]; exact hMg))
 simp only [List.set_cons_zero, List.set_cons_succ] at hB_2
 iterate 2 refine e1 ?_
 refine x_loop (fun nn aa ww => ∃ (K : Nat) (A : Option Addr) (c : Nat), nn = m1 - 64 * K ∧ aa.tmps.size = 51 ∧ aa.defers = [] ∧ aa.eval (.tmp 0) = .pointer (some ⟨g, 0, none⟩) ∧ 64 * K ≤ m1 ∧ (∀ k, blkA A k → M k ∨ w.heap.size ≤ k) ∧ BelowX M w ww ∧ Blk ww g #[.int .u32 (((hvN tt K).getD 0 0 : Nat) : Int), .int .u32 (((hvN tt K).getD 1 0 : Nat) : Int), .int .u32 (((hvN tt K).getD 2 0 : Nat) : Int), .int .u32 (((hvN tt K).getD 3 0 : Nat) : Int), .int .u32 (((hvN tt K).getD 4 0 : Nat) : Int), .int .u32 (((hvN tt K).getD 5 0 : Nat) : Int), .int .u32 (((hvN tt K).getD 6 0 : Nat) : Int), .int .u32 (((hvN tt K).getD 7 0 : Nat) : Int), .slice A (m1 - 64 * K) (c), .int .i64 ((m1 : Nat) : Int)] 160 ∧ Wt ww A c (tt.drop (64 * K))) (m1 - 64 * (bs0.length / 64)) ?_ ?_
 ·exact ⟨bs0.length / 64, A_1, c_1, rfl, (psz hs), (pdf hd), ev, (by omega), hAM, HB_3, (by rw [htt, hvN_app bs0 bs _ (by omega), show m1 - 64 * (bs0.length / 64) = bs0.length % 64 + q from by omega, ← hm2]; exact hB_2), (by rw [htt, List.drop_append_of_le_length (by omega)]; exact hWt_1)⟩
 ·skip
  clear t0 t1 hd hWt_1 hB_2 HB_3
  rintro nna_1 a_1 w_4 ⟨K, A, c, hm_1, hs_1, hd_1, ta_1_0, hK, hAM, HBL, hBL, hWL⟩ K_6 hK_6
  subst hm_1
  have hle := hWL.le
  rw [List.length_drop, hm1] at hle
  have hlK : (tt.drop (64 * K)).length = m1 - 64 * K := by rw [List.length_drop, hm1]
  iterate 5 refine e1 ?_
  refine q_fb 8 ?_
  refine q_ld (v := .slice A (m1 - 64 * K) (c)) (pe hs_1 rfl rfl) hBL rfl ?_
  refine q_w (o_len rfl ev) ?_
  refine q_w (o_geq (n := 64) rfl ev rfl) ?_
  refine e1 ?_
  refine w2_split (pe hs_1 rfl rfl) (fun h_1 => ?_) (fun h_1 => ?_)
  ·simp only [DD9] at h_1
   have hlt : 64 ≤ m1 - 64 * K := h_1
   iterate 4 refine e1 ?_
   refine y_drawn 11 [iP g 0, iP g 0, iP g 0, iP g 0, iV (.agg (iws .u32 (hvN tt K)).toArray), iP g 0, iP g 0, iP g 8, iV (.slice A (m1 - 64 * K) (c)), iV (.slice ((subA A 0 c)) (64) (c)), iV (.agg (iws .u32 (hvN tt (K + 1))).toArray)] [30, 31, 32, 33, 34, 35, 36, 37, 38, 39, 40] hs_1 hd_1 ⟨sx, sx, sx, sx, (step_ok rfl fun a' w' hb' hO hD => oV (o_ldH8 rfl ed (hBL.nx hb') (hvN_ok tt K).1 ⟨by kernel_rfl, by kernel_rfl⟩) rfl), sx, sx, sx, sx, (step_ok rfl fun a' w' hb' hO hD => oV (o_sliceH (h := 64) rfl ed rfl (by omega)) rfl), (step_ok rfl fun a' w' hb' hO hD => oC (vs := #[.agg (iws .u32 (hvN tt K)).toArray, .slice ((subA A 0 c)) (64) (c)]) Tryz.func138 rfl (args2 ed ed) (Calls.mono (take_hv K _ ((hWL.nx hb').firstH (n := 64) (by rw [List.length_drop]; omega)) (by rw [List.length_take, List.length_drop]; omega)) (fun e w'' hR => by obtain ⟨rfl, hb_1⟩ := hR; exact ⟨_, rfl, rfl, hb_1⟩))), trivial⟩ (fun a_2 w_5 hs_2 hd_2 hb_2 hO_1 hV_1 => ?_)
   have ta_2_0 := fK 0 hO_1
   obtain ⟨hBL, hWL⟩ := nx2 hb_2 hBL hWL
   have HB_4 := HBL.then hb_2
   have ta_2_30 := fV 30 hV_1
   have ta_2_40 := fV 40 hV_1
   simp only [List.drop_succ_cons, List.drop_zero]
   refine e1 ?_
   refine q_fb 0 ?_
   refine q_d (o_stH8 rfl ev ev hBL ((hvN_ok tt (K + 1)).1) ⟨by kernel_rfl, by kernel_rfl⟩) (fun w_6 hR_4 => ?_)
   obtain ⟨hB_3, hX_4⟩ := hR_4
   replace hWL := hWL.keepX hBL (by decide) hX_4
   have HB_5 := HB_4.step hX_4 (fun k hk (hY : k = g) => (by rw [hY]; exact hMg))
   clear hBL
   iterate 5 refine e1 ?_
   refine q_fb 8 ?_
   refine q_ld (v := .slice A (m1 - 64 * K) (c)) (pe hs_2 rfl rfl) hB_3 rfl ?_
   refine q_w (o_sliceL (l := 64) rfl ev rfl (by omega)) ?_
   refine e1 ?_
   refine q_fb 8 ?_
   refine q_d (o_store1 rfl ev ev rfl rfl hB_3 (by simp only [List.length_cons, List.length_nil]; omega) ⟨by kernel_rfl, by kernel_rfl⟩) (fun w_7 hR_5 => ?_)
   obtain ⟨hB_4, hX_5⟩ := hR_5
   replace hWL := hWL.keepX hB_3 (by decide) hX_5
   have HB_6 := HB_5.step hX_5 (fun k hk (hY : k = g) => (by rw [hY]; exact hMg))
   simp only [List.set_cons_zero, List.set_cons_succ] at hB_4
   refine e1 ?_
   refine hK_6 _ _ _ ⟨K + 1, subA A 64 c, c - 64, rfl, (psz hs_2), (pdf hd_2), ev, (by omega), (fun k hk => hAM k (blkA_sub hk)), HB_6, (by rw [show m1 - 64 * (K + 1) = m1 - 64 * K - 64 from by omega]; exact hB_4), (by have h9 := hWL.drop (n := 64) (by rw [List.length_drop]; omega); rw [List.drop_drop, ← Nat.mul_succ] at h9; exact h9)⟩ ?_
   omega
  ·simp only [DD9] at h_1
   obtain rfl : K = m1 / 64 := by omega
   iterate 4 refine e1 ?_
   refine end0 rfl hd_1 ?_
   rw [show m1 - 64 * (m1 / 64) = m1 % 64 from by omega] at hBL
   subst hm1
   rw [htt] at hBL hWL
   exact ⟨rfl, ⟨MX w M w_4, ⟨hlt0.mx HBL.size, fun x hx => (List.mem_append.1 hx).elim (hb80 x) (h00.b8 x), _, _, hBL, hWL, .inl hMg, fun j hj => (hAM j hj).imp id (fun h => ⟨h, hWL.lt j hj⟩)⟩, fun j hj => hj.imp id (fun h => h.1)⟩, HBL⟩
theorem fullS_drop (bs : List Nat) : (fullS bs).drop (64 * (bs.length / 64)) = bs.drop (64 * (bs.length / 64)) ++ padS bs.length := List.drop_append_of_le_length (by omega)
theorem zeros_more (h : n = m % 64 + 1 + j) (hj : j ≤ zerosN m) (hn : ¬ n % 64 = 56) : j + 1 ≤ zerosN m := by
 have h1 : zerosN m = (119 - m % 64) % 64 := rfl
 omega
theorem zeros_all (h : n = m % 64 + 1 + j) (hj : j ≤ zerosN m) (hn : n % 64 = 56) : j = zerosN m := by
 have h1 : zerosN m = (119 - m % 64) % 64 := rfl
 omega
theorem take_hw (K : Nat) (w : World) (h : Wt w A0 c0 (tt.drop (64 * K))) (hl : 64 * K + 64 ≤ tt.length) :
  Calls Tryz.prog 138 #[.agg (iws .u32 (hvN tt K)).toArray, .slice (subA A0 0 c0) 64 c0] w fun e w' => e = .returned (.agg (iws .u32 (hvN tt (K + 1))).toArray) ∧ Below w.heap.size w w' :=
 take_hv K w (h.firstH (n := 64) (by rw [List.length_drop]; omega)) (by rw [List.length_take, List.length_drop]; omega)
theorem Sum_hash (w : World) (hH : HashAt w M g bs0) (b1 : bs0.length ≤ 100000000) :
  Calls Tryz.prog 111 #[.pointer (some ⟨g, 0, none⟩)] w fun e w' => ∃ A c, e = .returned (.slice A 32 c) ∧ Own w' w.heap.size A c (shaL bs0) ∧ Below w.heap.size w w' := by
 obtain ⟨hlt0, hb80, A1, c1, hB, hWt, hMg, hMA⟩ := hH
 obtain ⟨ff, hff⟩ : ∃ t, t = fullS bs0 := ⟨_, rfl⟩
 obtain ⟨m9, hm9⟩ : ∃ n, ff.length = n := ⟨_, rfl⟩
 have hm8 : m9 = bs0.length + 9 + zerosN bs0.length := by rw [← hm9, hff]; unfold fullS; rw [List.length_append, padS_length]; omega
 have hmd : m9 % 64 = 0 := by rw [← hm9, hff]; exact fullS_mod bs0
 have hz6 : zerosN bs0.length < 64 := Nat.mod_lt _ (by omega)
 have hl0 : (bs0.drop (64 * (bs0.length / 64))).length = bs0.length % 64 := by rw [List.length_drop]; omega
 refine x_enter 57 Tryz.func111 rfl rfl (fun a hs hd ha0 => ?_)
 have t0 := tA 0 ha0
 clear ha0
 iterate 8 refine e1 ?_
 refine q_v 9 (.bool (false)) (o_nil (b := false) rfl ev rfl rfl ⟨160, fun _ => by kernel_rfl⟩) ?_
 iterate 8 refine e1 ?_
 refine q_fb 8 ?_
 refine q_ld (v := .slice A1 (bs0.length % 64) (c1)) (pe hs rfl rfl) hB rfl ?_
 refine q_x (o_append rfl rfl (pe hs rfl rfl) (Own.nil w w.heap.size) (hWt).bs rfl hl0 (by omega) (Nat.le_refl _)) (fun v_1 w_1 hR_1 => ?_)
 obtain ⟨A_1, c_1, rfl, ho_1, hb_1, hg_1, hat_1⟩ := hR_1
 have HB_1 : Below w.heap.size w w_1 := hb_1
 refine e1 ?_
 refine x_nil ?_
 have hl3 : (([]) ++ (bs0.drop (64 * (bs0.length / 64)))).length = 0 + (bs0.length % 64) := by rw [List.nil_append, hl0, Nat.zero_add]
 iterate 4 refine e1 ?_
 refine q_x (o_build1 (m := 128) rfl rfl (by omega)) (fun v_2 w_2 hR_2 => ?_)
 obtain ⟨g_1, rfl, ho_2, hb_2⟩ := hR_2
 replace ho_2 := ho_2.mono HB_1.size
 replace ho_1 := ho_1.nx hb_2
 have HB_2 := below_from HB_1 hb_2
 refine q_x (o_append rfl ev ev ho_1 (ho_2).bs (by rw [hl3]) (by simp only [List.length_cons, List.length_nil]) (by omega) HB_2.size) (fun v_3 w_3 hR_3 => ?_)
 obtain ⟨A_2, c_2, rfl, ho_3, hb_3, hg_2, hat_2⟩ := hR_3
 have HB_3 : Below w.heap.size w w_3 := (HB_2).trans hb_3
 clear hg_2 hat_2 ho_1
 refine e1 ?_
 refine x_nil ?_
 have hl4 : ((([]) ++ (bs0.drop (64 * (bs0.length / 64)))) ++ ([128])).length = (0 + (bs0.length % 64)) + 1 := by rw [List.length_append, hl3]; rfl
 iterate 3 refine e1 ?_
 refine x_loop (fun nn aa ww => ∃ (j n : Nat) (A : Option Addr) (c : Nat), nn = zerosN bs0.length - j ∧ aa.tmps.size = 57 ∧ aa.defers = [] ∧ aa.eval (.tmp 0) = .pointer (some ⟨g, 0, none⟩) ∧ aa.eval (.tmp 3) = .slice A (n) (c) ∧ n = bs0.length % 64 + 1 + j ∧ j ≤ zerosN bs0.length ∧ Own ww w.heap.size A c (bs0.drop (64 * (bs0.length / 64)) ++ 128 :: List.replicate j 0) ∧ Below w.heap.size w ww) (zerosN bs0.length - 0) ?_ ?_
 ·exact ⟨0, (0 + (bs0.length % 64)) + 1, A_2, c_2, rfl, (psz hs), (pdf hd), ev, ev, (by omega), Nat.zero_le _, (by rw [List.nil_append] at ho_3; exact ho_3), HB_3⟩
 ·skip
  clear t0 hd ho_3 HB_3
  rintro nna_1 a_1 w_4 ⟨j, n, A, c, hm_1, hs_1, hd_1, ta_1_0, ta_1_3, hn, hj, hOE, HBL⟩ K_8 hK_8
  subst hm_1
  have hlj : (bs0.drop (64 * (bs0.length / 64)) ++ 128 :: List.replicate j 0).length = n := by rw [List.length_append, List.length_cons, List.length_replicate, hl0]; omega
  iterate 4 refine e1 ?_
  refine q_w (o_len rfl ev) ?_
  refine q_w (o_rem (n := 64) rfl ev rfl (by omega) (IntWalk.i64_in _ (by omega))) ?_
  refine q_w (o_neq (n := 56) rfl ev rfl) ?_
  refine e1 ?_
  refine w2_split (pe hs_1 rfl rfl) (fun h_1 => ?_) (fun h_1 => ?_)
  ·simp only [DD9] at h_1
   have hne : ¬ n % 64 = 56 := h_1
   iterate 5 refine e1 ?_
   refine q_x (o_build1 (m := 0) rfl rfl (by omega)) (fun v_4 w_5 hR_4 => ?_)
   obtain ⟨g_2, rfl, ho_4, hb_4⟩ := hR_4
   replace ho_4 := ho_4.mono HBL.size
   replace hOE := hOE.nx hb_4
   have HB_4 := below_from HBL hb_4
   refine q_x (o_append rfl ev ev hOE (ho_4).bs (by rw [hlj]) (by simp only [List.length_cons, List.length_nil]) (by omega) HB_4.size) (fun v_5 w_6 hR_5 => ?_)
   obtain ⟨A_3, c_3, rfl, ho_5, hb_5, hg_3, hat_3⟩ := hR_5
   have HB_5 : Below w.heap.size w w_6 := (HB_4).trans hb_5
   clear hg_3 hat_3 hOE
   iterate 2 refine e1 ?_
   refine hK_8 _ _ _ ⟨j + 1, n + 1, A_3, c_3, rfl, (psz hs_1), (pdf hd_1), ev, ev, (by omega), (zeros_more hn hj hne), (by rw [List.replicate_succ', ← List.cons_append, ← List.append_assoc]; exact ho_5), HB_5⟩ ?_
   (have h9 := zeros_more hn hj hne; omega)
  ·simp only [DD9] at h_1
   obtain rfl : j = zerosN bs0.length := zeros_all hn hj h_1
   iterate 10 refine e1 ?_
   refine q_fb 9 ?_
   refine q_ld (v := .int .i64 ((bs0.length : Nat) : Int)) (pe hs_1 rfl rfl) (hB.nx HBL) rfl ?_
   refine q_w (o_conv (r := bs0.length % 18446744073709551616) rfl ev ⟨.int .i64, fun _ => by kernel_rfl⟩ (fun _ => by kernel_rfl) (by rw [IntKind.wrap_u64]; omega)) ?_
   refine q_v 31 (.int .u64 ((bs0.length % 18446744073709551616 * 8 % 18446744073709551616 : Nat) : Int)) (o_mulU (m := bs0.length % 18446744073709551616) (n := 8) (bs0.length % 18446744073709551616 * 8 % 18446744073709551616) rfl ev rfl (by rw [IntKind.wrap_u64]; omega)) ?_
   refine e1 ?_
   refine k_c Tryz.func139 (PutHigh64_any (bs0.length % 18446744073709551616 * 8 % 18446744073709551616) _ (Nat.mod_lt _ (by omega))) ?_
   rintro e_1 w_7 ⟨A_4, c_4, rfl, ho_6, hb_6⟩
   replace ho_6 := ho_6.mono HBL.size
   replace hOE := hOE.nx hb_6
   have HB_6 := below_from HBL hb_6
   refine ⟨_, rfl, ?_⟩
   refine q_x (o_append rfl ev ev hOE (ho_6).bs (by rw [hlj]) (by simp only [putL_length]) (by omega) HB_6.size) (fun v_6 w_8 hR_7 => ?_)
   obtain ⟨A_5, c_5, rfl, ho_7, hb_7, hg_4, hat_4⟩ := hR_7
   have HB_7 : Below w.heap.size w w_8 := (HB_6).trans hb_7
   clear hg_4 hat_4 hOE
   iterate 6 refine e1 ?_
   refine q_fb 0 ?_
   refine q_v 37 (.agg (iws .u32 (hvN bs0 (bs0.length / 64))).toArray) (o_ldH8 rfl ev (hB.nx HB_7) (hvN_ok bs0 _).1 ⟨by kernel_rfl, by kernel_rfl⟩) ?_
   refine q_x (o_alloc (zs := (iws .u32 (List.replicate 8 0)).toArray) rfl (fun _ => by kernel_rfl)) (fun v_7 w_9 hR_8 => ?_)
   obtain ⟨g_3, rfl, hle_3, hB_1, hb_8⟩ := hR_8
   have ge_1 : w.heap.size ≤ g_3 := Nat.le_trans HB_7.size hle_3
   replace ho_7 := ho_7.nx hb_8
   have HB_8 := below_from HB_7 hb_8
   refine q_d (o_storeI rfl ev ev hB_1 (by rw [(hvN_ok bs0 (bs0.length / 64)).1]; exact ⟨by kernel_rfl, by kernel_rfl⟩) (by rw [(hvN_ok bs0 (bs0.length / 64)).1]; simp [iws])) (fun w_10 hR_9 => ?_)
   obtain ⟨hB_2, hX_1⟩ := hR_9
   replace ho_7 := ho_7.keepX hB_1 (by decide) hX_1
   have HB_9 := hX_1.below HB_8 HB_8.size (fun k hk => hk ▸ ge_1)
   refine x_nil ?_
   have hWE := ho_7.wt
   iterate 3 refine e1 ?_
   refine x_loop (fun nn aa ww => ∃ (J n2 : Nat) (A2 : Option Addr) (c2 : Nat), nn = m9 - 64 * J ∧ aa.tmps.size = 57 ∧ aa.defers = [] ∧ aa.eval (.tmp 3) = .slice A2 (n2) (c2) ∧ aa.eval (.tmp 4) = .pointer (some ⟨g_3, 0, none⟩) ∧ 64 * J ≤ m9 ∧ n2 = m9 - 64 * J ∧ Wt ww A2 c2 (ff.drop (64 * J)) ∧ Blk ww g_3 (iws .u32 (hvN ff J)).toArray 157 ∧ Below w.heap.size w ww) (m9 - 64 * (bs0.length / 64)) ?_ ?_
   ·exact ⟨bs0.length / 64, n + 8, A_5, c_5, rfl, (psz hs_1), (pdf hd_1), ev, ev, (by omega), (by omega), (by rw [hff, fullS_drop]; unfold padS; rw [List.append_assoc] at hWE; exact hWE), (by rw [hff]; unfold fullS; rw [hvN_app _ _ _ (by omega)]; exact hB_2), HB_9⟩
   ·skip
    clear ta_1_0 ta_1_3 hd_1 ho_7 hB_2 HB_9
    rintro nna_2 a_2 w_11 ⟨J, n2, A2, c2, hm_2, hs_2, hd_2, ta_2_3, ta_2_4, hJ, hn2, hWL, hBL, HBL⟩ K_16 hK_16
    subst hm_2
    have hle := hWL.le
    rw [List.length_drop, hm9] at hle
    have hlJ : (ff.drop (64 * J)).length = n2 := by rw [List.length_drop, hm9]; omega
    iterate 4 refine e1 ?_
    refine q_w (o_len rfl ev) ?_
    refine q_w (o_gtr (n := 0) rfl ev rfl) ?_
    refine e1 ?_
    refine w2_split (pe hs_2 rfl rfl) (fun h_2 => ?_) (fun h_2 => ?_)
    ·simp only [DD9] at h_2
     have h0n : 0 < n2 := h_2
     have h64 : 64 ≤ n2 := by omega
     iterate 4 refine e1 ?_
     refine y_drawn 3 [iV (.agg (iws .u32 (hvN ff J)).toArray), iV (.slice A2 (n2) (c2)), iV (.slice ((subA A2 0 c2)) (64) (c2))] [43, 44, 45] hs_2 hd_2 ⟨(step_ok rfl fun a' w' hb' hO hD => oV (o_loadI rfl ed (hBL.nx hb') (by rw [(hvN_ok ff J).1]; exact ⟨by kernel_rfl, by kernel_rfl⟩)) rfl), sx, (step_ok rfl fun a' w' hb' hO hD => oV (o_sliceH (h := 64) rfl ed rfl (by omega)) rfl), trivial⟩ (fun a_3 w_12 hs_3 hd_3 hb_9 hO_1 hV_1 => ?_)
     have ta_3_4 := fK 4 hO_1
     have ta_3_3 := fK 3 hO_1
     obtain ⟨hWL, hBL⟩ := nx2 hb_9 hWL hBL
     have HB_10 := below_from HBL hb_9
     have ta_3_43 := fV 43 hV_1
     have ta_3_45 := fV 45 hV_1
     simp only [List.drop_succ_cons, List.drop_zero]
     refine e1 ?_
     refine k_c Tryz.func138 (take_hw J _ hWL (by omega)) ?_
     rintro e_2 w_13 ⟨rfl, hb_11⟩
     obtain ⟨hWL, hBL⟩ := nx2 hb_11 hWL hBL
     have HB_11 := below_from HB_10 hb_11
     refine ⟨_, rfl, ?_⟩
     refine q_d (o_storeI rfl ev ev hBL (by rw [(hvN_ok ff (J + 1)).1]; exact ⟨by kernel_rfl, by kernel_rfl⟩) (by rw [iws_length, (hvN_ok ff J).1]; rw [(hvN_ok ff (J + 1)).1])) (fun w_14 hR_11 => ?_)
     obtain ⟨hB_3, hX_2⟩ := hR_11
     replace hWL := hWL.keepX hBL (by decide) hX_2
     have HB_12 := hX_2.below HB_11 HB_11.size (fun k hk => hk ▸ ge_1)
     clear hBL
     iterate 4 refine e1 ?_
     refine q_w (o_sliceL (l := 64) rfl ev rfl (by omega)) ?_
     refine e1 ?_
     refine x_nil ?_
     refine hK_16 _ _ _ ⟨J + 1, n2 - 64, (subA A2 64 c2), c2 - 64, rfl, (psz hs_3), (pdf hd_3), ev, ev, (by omega), (by omega), (by have h9 := hWL.drop (n := 64) (by rw [List.length_drop]; omega); rw [List.drop_drop, ← Nat.mul_succ] at h9; exact h9), hB_3, HB_12⟩ ?_
     omega
    ·simp only [DD9] at h_2
     obtain rfl : J = (m9/64) := by omega
     iterate 12 refine e1 ?_
     refine q_w (o_loadI rfl ev hBL (by rw [(hvN_ok ff (m9/64)).1]; exact ⟨by kernel_rfl, by kernel_rfl⟩)) ?_
     refine q_v 48 (.int .i64 ((0 : Nat) : Int)) (o_move rfl rfl) ?_
     iterate 2 refine e1 ?_
     refine x_loop (fun nn aa ww => ∃ (Q n5 : Nat) (A5 : Option Addr) (c5 : Nat), nn = 8 - Q ∧ aa.tmps.size = 57 ∧ aa.defers = [] ∧ aa.eval (.tmp 5) = .slice A5 (n5) (c5) ∧ aa.eval (.tmp 47) = .agg (iws .u32 (hvN ff (m9/64))).toArray ∧ aa.eval (.tmp 48) = .int .i64 ((Q : Nat) : Int) ∧ Q ≤ 8 ∧ n5 = 4 * Q ∧ Own ww w.heap.size A5 c5 (sumO (hvN ff (m9 / 64)) Q) ∧ Below w.heap.size w ww) (8 - 0) ?_ ?_
     ·exact ⟨0, 0, none, 0, rfl, (psz hs_2), (pdf hd_2), ev, ev, ev, Nat.zero_le _, rfl, (Own.nil _ _), HBL⟩
     ·skip
      clear ta_2_4 ta_2_3 hd_2 hWL hBL HBL
      rintro nna_4 a_4 w_15 ⟨Q, n5, A5, c5, hm_3, hs_4, hd_4, ta_4_5, ta_4_47, ta_4_48, hQ, hn5, hO5, HBM⟩ K_25 hK_25
      subst hm_3
      have hl5 : (sumO (hvN ff (m9 / 64)) Q).length = n5 := by rw [sumO_length]; omega
      iterate 2 refine e1 ?_
      refine q_w (o_lss (n := 8) rfl ev rfl) ?_
      iterate 2 refine e1 ?_
      refine w2_split (pe hs_4 rfl rfl) (fun h_3 => ?_) (fun h_3 => ?_)
      ·simp only [DD9] at h_3
       have hlt : Q < 8 := h_3
       iterate 6 refine e1 ?_
       refine q_w (o_idx (n := 8) (e := 68) rfl ev ev (by omega) (by rw [(hvN_ok ff (m9/64)).1]) rfl (fun _ => by kernel_rfl) ⟨by kernel_rfl, by kernel_rfl⟩) ?_
       iterate 6 refine e1 ?_
       refine k_c Tryz.func140 (PutHigh32_any ((hvN ff (m9/64)).getD (Q) 0) _ ((hvN_ok _ _).get _)) ?_
       rintro e_3 w_16 ⟨A_6, c_6, rfl, ho_8, hb_12⟩
       replace ho_8 := ho_8.mono HBM.size
       replace hO5 := hO5.nx hb_12
       have HB_13 := below_from HBM hb_12
       refine ⟨_, rfl, ?_⟩
       refine q_x (o_append rfl ev ev hO5 (ho_8).bs (by rw [hl5]) (by simp only [putL_length]) (by omega) HB_13.size) (fun v_8 w_17 hR_13 => ?_)
       obtain ⟨A_7, c_7, rfl, ho_9, hb_13, hg_5, hat_5⟩ := hR_13
       have HB_14 : Below w.heap.size w w_17 := (HB_13).trans hb_13
       iterate 4 refine e1 ?_
       refine q_w (o_add64 (n := 1) rfl ev rfl (by omega)) ?_
       refine e1 ?_
       refine x_nil ?_
       refine hK_25 _ _ _ ⟨Q + 1, n5 + 4, A_7, c_7, rfl, (psz hs_4), (pdf hd_4), ev, ev, ev, (by omega), (by omega), (by rw [sumO]; exact ho_9), HB_14⟩ ?_
       omega
      ·simp only [DD9] at h_3
       obtain rfl : Q = 8 := by omega
       iterate 12 refine e1 ?_
       obtain rfl : n5 = 32 := by omega
       have h9 : shaL bs0 = sumO (hvN ff (m9 / 64)) 8 := by rw [← hm9, hff]; rfl
       exact ⟨_, _, rfl, by rw [h9]; exact hO5, HBM⟩
end Go.Proofs.YtkhbihnnkflfkaaGreat
/-
 WALKS: sha.Sum, hmac.Sum, hkdf.Extract.
-/
namespace Go.Proofs.YtkhbihnnkflfkaaGreat
open Go.RowKit
set_option maxHeartbeats 8000000
set_option linter.unusedVariables false
set_option linter.unusedSimpArgs false
set_option maxRecDepth 100000
attribute [local irreducible] wpList wpListIn putsR

variable {A0 A1 : Option Addr} {c0 c1 q q1 : Nat} {bs ks : List Nat}
def xpadL (ks : List Nat) (c : Nat) : Nat → List Nat
 | 0 => []
 | K + 1 => xpadL ks c K ++ [ks.getD K 0 ^^^ c]
theorem xpadL_length (ks : List Nat) (c : Nat) : ∀ K, (xpadL ks c K).length = K
 | 0 => rfl
 | K + 1 => by rw [xpadL, List.length_append, xpadL_length ks c K]; rfl
def hmacL (ks bs : List Nat) : List Nat := shaL (xpadL ks 92 64 ++ shaL (xpadL ks 54 64 ++ bs))
theorem hmacL_length (ks bs : List Nat) : (hmacL ks bs).length = 32 := shaL_length _
theorem xor_lt8 {a b : Nat} (h : a < 256) (h2 : b < 256) : a ^^^ b < 256 := Nat.xor_lt_two_pow (n := 8) h h2
theorem Sum_sha (w : World) (h0 : Bs w A0 c0 bs) (hq : bs.length = q) (b1 : q ≤ 100000000) :
  Calls Tryz.prog 69 #[.slice A0 (q) (c0)] w fun e w' => ∃ A c, e = .returned (.slice A 32 c) ∧ Own w' w.heap.size A c (shaL bs) ∧ Below w.heap.size w w' := by
 refine x_enter 10 Tryz.func69 rfl rfl (fun a hs hd ha0 => ?_)
 have t0 := tA 0 ha0
 clear ha0
 iterate 6 refine e1 ?_
 refine q_ca (vs := #[]) Tryz.func109 (args0) (New_sha _) (fun e_1 w_1 hR_1 => ?_)
 obtain ⟨M_1, g_1, rfl, hH_1, hge_1, hb_1⟩ := hR_1
 refine ⟨_, rfl, ?_⟩
 iterate 7 refine e1 ?_
 refine k_c Tryz.func110 (Write_sha _ hH_1 (h0.below hb_1) hq (by rw [List.length_nil]; omega)) ?_
 rintro e_2 w_2 ⟨rfl, ⟨M_2, hH_2, hN_1⟩, hX_1⟩
 have HB_1 := hX_1.below hb_1 hb_1.size hge_1
 refine ⟨_, rfl, ?_⟩
 iterate 5 refine e1 ?_
 refine k_c Tryz.func111 (Sum_hash _ hH_2 (by rw [List.nil_append]; omega)) ?_
 rintro e_3 w_3 ⟨A_1, c_1, rfl, ho_1, hb_2⟩
 replace ho_1 := ho_1.mono HB_1.size
 replace hH_2 := hH_2.nx hb_2
 have HB_2 := below_from HB_1 hb_2
 refine ⟨_, rfl, ?_⟩
 iterate 4 refine e1 ?_
 have h9 := ho_1
 rw [List.nil_append] at h9
 exact ⟨_, _, rfl, h9, HB_2⟩
theorem hmac_any (w : World) (h0 : Bs w A0 c0 ks) (hq : ks.length = q) (h1 : Bs w A1 c1 bs) (hq1 : bs.length = q1) (b0 : q ≤ 64) (b1 : q1 ≤ 10000000) :
  Calls Tryz.prog 118 #[.slice A0 (q) (c0), .slice A1 (q1) (c1)] w fun e w' => ∃ A c, e = .returned (.slice A 32 c) ∧ Own w' w.heap.size A c (hmacL ks bs) ∧ Below w.heap.size w w' := by
 refine x_enter 47 Tryz.func118 rfl rfl (fun a hs hd ha0 => ?_)
 have t0 := tA 0 ha0
 have t1 := tA 1 ha0
 clear ha0
 iterate 8 refine e1 ?_
 refine q_w (o_len rfl ev) ?_
 refine q_v 11 (.bool (false)) (o_eq (o_gtr (m := q) (n := 64) rfl ev rfl) (by congr 1; exact decide_eq_false (by omega))) ?_
 iterate 6 refine e1 ?_
 refine q_ca (vs := #[]) Tryz.func109 (args0) (New_sha _) (fun e_1 w_1 hR_1 => ?_)
 obtain ⟨M_1, g_1, rfl, hH_1, hge_1, hb_1⟩ := hR_1
 refine ⟨_, rfl, ?_⟩
 refine q_ca (vs := #[]) Tryz.func109 (args0) (New_sha _) (fun e_2 w_2 hR_2 => ?_)
 obtain ⟨M_2, g_2, rfl, hH_2, hge_2, hb_2⟩ := hR_2
 have sp_1 : Sep M_1 M_2 := Sep.new hH_1.lt hge_2
 have gg_1 := hge_2.down hb_1.size
 replace hH_1 := hH_1.nx hb_2
 have HB_1 := below_from hb_1 hb_2
 refine ⟨_, rfl, ?_⟩
 iterate 6 refine e1 ?_
 refine q_v 16 (.int .i64 ((0 : Nat) : Int)) (o_move rfl rfl) ?_
 iterate 2 refine e1 ?_
 refine x_loop (fun nn aa ww => ∃ (K : Nat) (Ma Mb : Nat → Prop), nn = 64 - K ∧ aa.tmps.size = 47 ∧ aa.defers = [] ∧ aa.eval (.tmp 0) = .slice A0 (q) (c0) ∧ aa.eval (.tmp 1) = .slice A1 (q1) (c1) ∧ aa.eval (.tmp 5) = .pointer (some ⟨g_1, 0, none⟩) ∧ aa.eval (.tmp 6) = .pointer (some ⟨g_2, 0, none⟩) ∧ aa.eval (.tmp 16) = .int .i64 ((K : Nat) : Int) ∧ K ≤ 64 ∧ HashAt ww Ma g_1 (xpadL ks 54 K) ∧ HashAt ww Mb g_2 (xpadL ks 92 K) ∧ Sep Ma Mb ∧ Ge w Ma ∧ Ge w Mb ∧ Below w.heap.size w ww) (64 - 0) ?_ ?_
 ·exact ⟨0, M_1, M_2, rfl, (psz hs), (pdf hd), ev, ev, ev, ev, ev, Nat.zero_le _, hH_1, hH_2, sp_1, hge_1, gg_1, HB_1⟩
 ·skip
  rintro nna_1 a_1 w_3 ⟨K, Ma, Mb, hm_1, hs_1, hd_1, ta_1_0, ta_1_1, ta_1_5, ta_1_6, ta_1_16, hK, hHa, hHb, hse, hga, hgb, HBL⟩ K_8 hK_8
  subst hm_1
  iterate 2 refine e1 ?_
  refine q_w (o_lss (n := 64) rfl ev rfl) ?_
  iterate 2 refine e1 ?_
  refine w2_split (pe hs_1 rfl rfl) (fun h_1 => ?_) (fun h_1 => ?_)
  ·simp only [DD9] at h_1
   have hlt : K < 64 := h_1
   have hx1 := xpadL_length ks 54 K
   have hx2 := xpadL_length ks 92 K
   have hk8 : ks.getD K 0 < 256 := getD_lt h0.b8 K
   iterate 11 refine e1 ?_
   refine q_as (.int .u8 ((0 : Nat) : Int)) rfl ?_
   iterate 6 refine e1 ?_
   refine q_w (o_len rfl ev) ?_
   refine q_w (o_lss rfl ev ev) ?_
   refine e1 ?_
   refine w2_split (pe hs_1 rfl rfl) (fun h_2 => ?_) (fun h_2 => ?_)
   ·simp only [DD9] at h_2
    have hlq : K < q := h_2
    iterate 3 refine e1 ?_
    refine q_v 25 (.pointer (atA A0 (K))) (o_ix (k := K) rfl ev ev (by omega) ((h0.below HBL).some (by rw [hq]; omega))) ?_
    refine q_v 26 (.int .u8 ((ks.getD (K) 0 : Nat) : Int)) (o_ld8 rfl ev (h0.below HBL) (by rw [hq]; omega) rfl) ?_
    iterate 6 refine e1 ?_
    refine q_w (o_bits (n := 54) ((ks.getD (K) 0) ^^^ 54) rfl ev rfl (by decide) (u8_xor_nat _ _ (by omega) (by decide))) ?_
    refine q_x (o_build1 (m := (ks.getD (K) 0) ^^^ 54) rfl ev (xor_lt8 (by omega) (by decide))) (fun v_1 w_4 hR_3 => ?_)
    obtain ⟨g_3, rfl, ho_1, hb_3⟩ := hR_3
    replace ho_1 := ho_1.mono HBL.size
    obtain ⟨hHa, hHb⟩ := nx2 hb_3 hHa hHb
    have HB_2 := below_from HBL hb_3
    refine e1 ?_
    refine k_c Tryz.func110 (Write_sha _ hHa (ho_1).bs (by simp only [List.length_cons, List.length_nil]) (by omega)) ?_
    rintro e_3 w_5 ⟨rfl, ⟨M_3, hH_3, hN_1⟩, hX_1⟩
    have sp_2 : Sep Mb M_3 := hN_1.sep (hse.symm) hHb.lt
    replace hHb := hHb.keepM hX_1 (hse.symm)
    have gg_2 := hN_1.ge hga HB_2.size
    have HB_3 := hX_1.below HB_2 HB_2.size hga
    refine ⟨_, rfl, ?_⟩
    iterate 4 refine e1 ?_
    refine q_w (o_bits (n := 92) ((ks.getD (K) 0) ^^^ 92) rfl ev rfl (by decide) (u8_xor_nat _ _ (by omega) (by decide))) ?_
    refine q_x (o_build1 (m := (ks.getD (K) 0) ^^^ 92) rfl ev (xor_lt8 (by omega) (by decide))) (fun v_2 w_6 hR_5 => ?_)
    obtain ⟨g_4, rfl, ho_2, hb_4⟩ := hR_5
    replace ho_2 := ho_2.mono HB_3.size
    obtain ⟨hHb, hH_3⟩ := nx2 hb_4 hHb hH_3
    have HB_4 := below_from HB_3 hb_4
    refine e1 ?_
    refine k_c Tryz.func110 (Write_sha _ hHb (ho_2).bs (by simp only [List.length_cons, List.length_nil]) (by omega)) ?_
    rintro e_4 w_7 ⟨rfl, ⟨M_4, hH_4, hN_2⟩, hX_2⟩
    have sp_3 : Sep M_3 M_4 := hN_2.sep (sp_2.symm) hH_3.lt
    replace hH_3 := hH_3.keepM hX_2 (sp_2.symm)
    have gg_3 := hN_2.ge hgb HB_4.size
    have HB_5 := hX_2.below HB_4 HB_4.size hgb
    refine ⟨_, rfl, ?_⟩
    iterate 3 refine e1 ?_
    refine q_w (o_add64 (n := 1) rfl ev rfl (by omega)) ?_
    refine e1 ?_
    refine x_nil ?_
    refine hK_8 _ _ _ ⟨K + 1, M_3, M_4, rfl, (psz hs_1), (pdf hd_1), ev, ev, ev, ev, ev, (by omega), (by rw [xpadL]; exact hH_3), (by rw [xpadL]; exact hH_4), sp_3, gg_2, gg_3, HB_5⟩ ?_
    omega
   ·simp only [DD9] at h_2
    have hlq : q ≤ K := h_2
    have hz : ks.getD K 0 = 0 := by rw [List.getD_eq_getElem?_getD, List.getElem?_eq_none (by omega)]; rfl
    iterate 6 refine e1 ?_
    refine q_w (o_bits (n := 54) (0 ^^^ 54) rfl ev rfl (by decide) (u8_xor_nat _ _ (by omega) (by decide))) ?_
    refine q_x (o_build1 (m := 0 ^^^ 54) rfl ev (xor_lt8 (by omega) (by decide))) (fun v_3 w_8 hR_7 => ?_)
    obtain ⟨g_5, rfl, ho_3, hb_5⟩ := hR_7
    replace ho_3 := ho_3.mono HBL.size
    obtain ⟨hHa, hHb⟩ := nx2 hb_5 hHa hHb
    have HB_6 := below_from HBL hb_5
    refine e1 ?_
    refine k_c Tryz.func110 (Write_sha _ hHa (ho_3).bs (by simp only [List.length_cons, List.length_nil]) (by omega)) ?_
    rintro e_5 w_9 ⟨rfl, ⟨M_5, hH_5, hN_3⟩, hX_3⟩
    have sp_4 : Sep Mb M_5 := hN_3.sep (hse.symm) hHb.lt
    replace hHb := hHb.keepM hX_3 (hse.symm)
    have gg_4 := hN_3.ge hga HB_6.size
    have HB_7 := hX_3.below HB_6 HB_6.size hga
    refine ⟨_, rfl, ?_⟩
    iterate 4 refine e1 ?_
    refine q_w (o_bits (n := 92) (0 ^^^ 92) rfl ev rfl (by decide) (u8_xor_nat _ _ (by omega) (by decide))) ?_
    refine q_x (o_build1 (m := 0 ^^^ 92) rfl ev (xor_lt8 (by omega) (by decide))) (fun v_4 w_10 hR_9 => ?_)
    obtain ⟨g_6, rfl, ho_4, hb_6⟩ := hR_9
    replace ho_4 := ho_4.mono HB_7.size
    obtain ⟨hHb, hH_5⟩ := nx2 hb_6 hHb hH_5
    have HB_8 := below_from HB_7 hb_6
    refine e1 ?_
    refine k_c Tryz.func110 (Write_sha _ hHb (ho_4).bs (by simp only [List.length_cons, List.length_nil]) (by omega)) ?_
    rintro e_6 w_11 ⟨rfl, ⟨M_6, hH_6, hN_4⟩, hX_4⟩
    have sp_5 : Sep M_5 M_6 := hN_4.sep (sp_4.symm) hH_5.lt
    replace hH_5 := hH_5.keepM hX_4 (sp_4.symm)
    have gg_5 := hN_4.ge hgb HB_8.size
    have HB_9 := hX_4.below HB_8 HB_8.size hgb
    refine ⟨_, rfl, ?_⟩
    iterate 3 refine e1 ?_
    refine q_w (o_add64 (n := 1) rfl ev rfl (by omega)) ?_
    refine e1 ?_
    refine x_nil ?_
    refine hK_8 _ _ _ ⟨K + 1, M_5, M_6, rfl, (psz hs_1), (pdf hd_1), ev, ev, ev, ev, ev, (by omega), (by rw [xpadL, hz]; exact hH_5), (by rw [xpadL, hz]; exact hH_6), sp_5, gg_4, gg_5, HB_9⟩ ?_
    omega
  ·simp only [DD9] at h_1
   obtain rfl : K = 64 := by omega
   have hx1 := xpadL_length ks 54 64
   have hx2 := xpadL_length ks 92 64
   iterate 10 refine e1 ?_
   refine k_c Tryz.func110 (Write_sha _ hHa (h1.below HBL) hq1 (by omega)) ?_
   rintro e_7 w_12 ⟨rfl, ⟨M_7, hH_7, hN_5⟩, hX_5⟩
   have sp_6 : Sep Mb M_7 := hN_5.sep (hse.symm) hHb.lt
   replace hHb := hHb.keepM hX_5 (hse.symm)
   have HB_10 := hX_5.below HBL HBL.size hga
   refine ⟨_, rfl, ?_⟩
   iterate 6 refine e1 ?_
   refine k_c Tryz.func111 (Sum_hash _ hH_7 (by first | omega | (simp only [List.length_append, shaL_length]; omega))) ?_
   rintro e_8 w_13 ⟨A_1, c_1, rfl, ho_5, hb_7⟩
   replace ho_5 := ho_5.mono HB_10.size
   obtain ⟨hHb, hH_7⟩ := nx2 hb_7 hHb hH_7
   have HB_11 := below_from HB_10 hb_7
   refine ⟨_, rfl, ?_⟩
   refine e1 ?_
   refine k_c Tryz.func110 (Write_sha _ hHb (ho_5).bs (shaL_length _) (by first | omega | (simp only [List.length_append, shaL_length]; omega))) ?_
   rintro e_9 w_14 ⟨rfl, ⟨M_8, hH_8, hN_6⟩, hX_6⟩
   replace hH_7 := hH_7.keepM hX_6 (sp_6.symm)
   have HB_12 := hX_6.below HB_11 HB_11.size hgb
   refine ⟨_, rfl, ?_⟩
   iterate 5 refine e1 ?_
   refine k_c Tryz.func111 (Sum_hash _ hH_8 (by simp only [List.length_append, shaL_length]; omega)) ?_
   rintro e_10 w_15 ⟨A_2, c_2, rfl, ho_6, hb_8⟩
   replace ho_6 := ho_6.mono HB_12.size
   obtain ⟨hH_7, hH_8⟩ := nx2 hb_8 hH_7 hH_8
   have HB_13 := below_from HB_12 hb_8
   refine ⟨_, rfl, ?_⟩
   iterate 4 refine e1 ?_
   exact ⟨_, _, rfl, ho_6, HB_13⟩
theorem Extract_any (w : World) (h0 : Bs w A0 c0 ks) (hq : ks.length = q) (h1 : Bs w A1 c1 bs) (hq1 : bs.length = q1) (b0 : q ≤ 64) (b1 : q1 ≤ 10000000) :
  Calls Tryz.prog 87 #[.slice A0 (q) (c0), .slice A1 (q1) (c1)] w fun e w' => ∃ A c, e = .returned (.slice A 32 c) ∧ Own w' w.heap.size A c (hmacL ks bs) ∧ Below w.heap.size w w' := by
 refine x_enter 8 Tryz.func87 rfl rfl (fun a hs hd ha0 => ?_)
 have t0 := tA 0 ha0
 have t1 := tA 1 ha0
 clear ha0
 iterate 9 refine e1 ?_
 refine k_c Tryz.func118 (hmac_any _ h0 hq h1 hq1 (by omega) (by omega)) ?_
 rintro e_1 w_1 ⟨A_1, c_1, rfl, ho_1, hb_1⟩
 refine ⟨_, rfl, ?_⟩
 iterate 4 refine e1 ?_
 exact ⟨_, _, rfl, ho_1, hb_1⟩
end Go.Proofs.YtkhbihnnkflfkaaGreat
