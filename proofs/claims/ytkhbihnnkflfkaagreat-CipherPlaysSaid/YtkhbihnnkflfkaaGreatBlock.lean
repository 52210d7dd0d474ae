/-
 WALKS: chacha.block.
-/
import Derived.Test.YtkhbihnnkflfkaaGreatEz
import Derived.Test.YtkhbihnnkflfkaaGreatArr32
import Derived.Test.YtkhbihnnkflfkaaGreatCell
namespace Go.Proofs.YtkhbihnnkflfkaaGreat
open Go.RowKit
set_option maxHeartbeats 8000000
set_option linter.unusedVariables false
set_option linter.unusedSimpArgs false
set_option maxRecDepth 100000
attribute [local irreducible] wpList wpListIn putsR

variable {o : Oper} {a : Act} {w : World} {x y : Operand} {c d k m n : Nat} {s : List Nat}
theorem add_i64 (ho : o.op = .binOp .add 3 x y 3) (hx : a.eval x = .int .i64 (m : Int)) (hy : a.eval y = .int .i64 (n : Int)) (hb : m + n < 4611686018427387904) :
  (execOp a.eval o).run Tryz.prog w = .ok (.value (.int .i64 ((m + n : Nat) : Int))) w := by
 have e : IntKind.i64.wrap ((m : Int) + (n : Int)) = (m : Int) + (n : Int) := IntWalk.i64_in _ (by omega)
 generalize a.eval = ev at hx hy ⊢
 simp [execOp, ho, hx, hy, go_sem, e]
def cols (s : List Nat) : Nat → List Nat
 | 0 => s
 | K + 1 => qrAt (cols s K) K (4 + K) (8 + K) (12 + K)
def diags (s : List Nat) : Nat → List Nat
 | 0 => s
 | K + 1 => qrAt (diags s K) K (4 + (K + 1) % 4) (8 + (K + 2) % 4) (12 + (K + 3) % 4)
def dbls (s : List Nat) : Nat → List Nat
 | 0 => s
 | R + 1 => diags (cols (dbls s R) 4) 4
def W16 (s : List Nat) : Prop := s.length = 16 ∧ ∀ x ∈ s, x < 4294967296
theorem W16.get (h : W16 s) (i : Nat) : s.getD i 0 < 4294967296 := by
 rw [List.getD_eq_getElem?_getD]
 cases hx : s[i]? with
 | none => simp
 | some v => exact h.2 v (List.mem_of_getElem? hx)
theorem W16.set (h : W16 s) (i v : Nat) (hv : v < 4294967296) : W16 (s.set i v) :=
 ⟨by rw [List.length_set]; exact h.1, fun x hx => by
  rcases List.mem_or_eq_of_mem_set hx with h1 | h1
  ·exact h.2 x h1
  ·rw [h1]; exact hv⟩
theorem W16.qr (h : W16 s) (i j k l : Nat) : W16 (qrAt s i j k l) := by
 have hq := qr_lt _ _ _ _ (h.get i) (h.get j) (h.get k) (h.get l)
 unfold qrAt
 generalize Go.Proofs.YtkhbihnnkflfkaaGreat.qr (s.getD i 0) (s.getD j 0) (s.getD k 0) (s.getD l 0) = q at *
 obtain ⟨a, b, c, d⟩ := q
 exact (((h.set i a hq.1).set j b hq.2.1).set k c hq.2.2.1).set l d hq.2.2.2
theorem W16.cols {s : List Nat} (h : W16 s) : ∀ K, W16 (cols s K)
 | 0 => h
 | K + 1 => (W16.cols h K).qr _ _ _ _
theorem W16.diags {s : List Nat} (h : W16 s) : ∀ K, W16 (diags s K)
 | 0 => h
 | K + 1 => (W16.diags h K).qr _ _ _ _
theorem W16.dbls {s : List Nat} (h : W16 s) : ∀ R, W16 (dbls s R)
 | 0 => h
 | R + 1 => ((W16.dbls h R).cols 4).diags 4
theorem qrAt_eq {i j l a b : Nat} (h : qr (s.getD i 0) (s.getD j 0) (s.getD k 0) (s.getD l 0) = (a, b, c, d)) : qrAt s i j k l = (((s.set i a).set j b).set k c).set l d := by
 unfold qrAt
 rw [h]
theorem beginL_16 (ks ns : List Nat) (n : Nat) (hk : ∀ x ∈ ks, x < 256) (hn : ∀ x ∈ ns, x < 256) (h : n < 4294967296) : W16 (beginL ks ns n) := by
 refine ⟨rfl, fun x hx => ?_⟩
 have lk : ∀ i, lowN ks i 4 < 4294967296 := fun i => lowN_lt hk i 4
 have ln : ∀ i, lowN ns i 4 < 4294967296 := fun i => lowN_lt hn i 4
 unfold beginL at hx
 simp only [List.mem_cons, List.not_mem_nil, or_false] at hx
 rcases hx with rfl | rfl | rfl | rfl | rfl | rfl | rfl | rfl | rfl | rfl | rfl | rfl | rfl | rfl | rfl | rfl <;> first | omega | exact lk _ | exact ln _ | exact h

def outL (s f : List Nat) : Nat → List Nat
 | 0 => []
 | K + 1 => outL s f K ++ putL ((s.getD K 0 + f.getD K 0) % 4294967296) 4
theorem outL_length (s f : List Nat) (K : Nat) : (outL s f K).length = 4 * K := by
 induction K with
 | zero => rfl
 | succ K ih => rw [outL, List.length_append, ih, putL_length]; omega

def blockL (ks ns : List Nat) (n : Nat) : List Nat := outL (dbls (beginL ks ns n) 10) (beginL ks ns n) 16
theorem blockL_length (ks ns : List Nat) (n : Nat) : (blockL ks ns n).length = 64 := outL_length _ _ _
def colS (B : Nat) (K a0 b0 c0 d0 p0 p1 p2 p3 g_2 : Nat) : Nat → World → Value → Prop
 | 0, _, v => v = .int .i64 ((K : Nat) : Int)
 | 1, _, v => v = .int .i64 ((K : Nat) : Int)
 | 2, _, v => v = .int .i64 ((4 + K : Nat) : Int)
 | 3, _, v => v = .int .i64 ((K : Nat) : Int)
 | 4, _, v => v = .int .i64 ((8 + K : Nat) : Int)
 | 5, _, v => v = .int .i64 ((K : Nat) : Int)
 | 6, _, v => v = .int .i64 ((12 + K : Nat) : Int)
 | 7, _, v => v = .int .i64 ((K : Nat) : Int)
 | 8, _, v => v = .pointer (some ⟨g_2, K, none⟩)
 | 9, _, v => v = .int .u32 ((a0 : Nat) : Int)
 | 10, _, v => v = .int .i64 ((K : Nat) : Int)
 | 11, _, v => v = .int .i64 ((4 + K : Nat) : Int)
 | 12, _, v => v = .pointer (some ⟨g_2, 4 + K, none⟩)
 | 13, _, v => v = .int .u32 ((b0 : Nat) : Int)
 | 14, _, v => v = .int .i64 ((K : Nat) : Int)
 | 15, _, v => v = .int .i64 ((8 + K : Nat) : Int)
 | 16, _, v => v = .pointer (some ⟨g_2, 8 + K, none⟩)
 | 17, _, v => v = .int .u32 ((c0 : Nat) : Int)
 | 18, _, v => v = .int .i64 ((K : Nat) : Int)
 | 19, _, v => v = .int .i64 ((12 + K : Nat) : Int)
 | 20, _, v => v = .pointer (some ⟨g_2, 12 + K, none⟩)
 | 21, _, v => v = .int .u32 ((d0 : Nat) : Int)
 | 22, _, v => v = .tuple #[.int .u32 ((p0 : Nat) : Int), .int .u32 ((p1 : Nat) : Int), .int .u32 ((p2 : Nat) : Int), .int .u32 ((p3 : Nat) : Int)]
 | 23, _, v => v = .tuple #[.int .u32 ((p0 : Nat) : Int), .int .u32 ((p1 : Nat) : Int), .int .u32 ((p2 : Nat) : Int), .int .u32 ((p3 : Nat) : Int)]
 | 24, _, v => v = .int .u32 ((p0 : Nat) : Int)
 | 25, _, v => v = .int .u32 ((p1 : Nat) : Int)
 | 26, _, v => v = .int .u32 ((p2 : Nat) : Int)
 | 27, _, v => v = .int .u32 ((p3 : Nat) : Int)
 | 28, _, v => v = .pointer (some ⟨g_2, K, none⟩)
 | 29, _, _ => True
 | 30, _, v => v = .pointer (some ⟨g_2, 4 + K, none⟩)
 | 31, _, _ => True
 | 32, _, v => v = .pointer (some ⟨g_2, 8 + K, none⟩)
 | 33, _, _ => True
 | _, _, _ => True

def colSK : Nat → HK
 | 29 => .hot
 | 31 => .hot
 | 33 => .hot
 | _ => .val

def diaS (B : Nat) (K a0 b0 c0 d0 p0 p1 p2 p3 g_2 bb cc dd : Nat) : Nat → World → Value → Prop
 | 0, _, v => v = .int .i64 ((K : Nat) : Int)
 | 1, _, v => v = .int .i64 ((bb : Nat) : Int)
 | 2, _, v => v = .int .i64 ((cc : Nat) : Int)
 | 3, _, v => v = .int .i64 ((dd : Nat) : Int)
 | 4, _, v => v = .int .i64 ((K : Nat) : Int)
 | 5, _, v => v = .pointer (some ⟨g_2, K, none⟩)
 | 6, _, v => v = .int .u32 ((a0 : Nat) : Int)
 | 7, _, v => v = .int .i64 ((bb : Nat) : Int)
 | 8, _, v => v = .pointer (some ⟨g_2, bb, none⟩)
 | 9, _, v => v = .int .u32 ((b0 : Nat) : Int)
 | 10, _, v => v = .int .i64 ((cc : Nat) : Int)
 | 11, _, v => v = .pointer (some ⟨g_2, cc, none⟩)
 | 12, _, v => v = .int .u32 ((c0 : Nat) : Int)
 | 13, _, v => v = .int .i64 ((dd : Nat) : Int)
 | 14, _, v => v = .pointer (some ⟨g_2, dd, none⟩)
 | 15, _, v => v = .int .u32 ((d0 : Nat) : Int)
 | 16, _, v => v = .tuple #[.int .u32 ((p0 : Nat) : Int), .int .u32 ((p1 : Nat) : Int), .int .u32 ((p2 : Nat) : Int), .int .u32 ((p3 : Nat) : Int)]
 | 17, _, v => v = .tuple #[.int .u32 ((p0 : Nat) : Int), .int .u32 ((p1 : Nat) : Int), .int .u32 ((p2 : Nat) : Int), .int .u32 ((p3 : Nat) : Int)]
 | 18, _, v => v = .int .u32 ((p0 : Nat) : Int)
 | 19, _, v => v = .int .u32 ((p1 : Nat) : Int)
 | 20, _, v => v = .int .u32 ((p2 : Nat) : Int)
 | 21, _, v => v = .int .u32 ((p3 : Nat) : Int)
 | 22, _, v => v = .pointer (some ⟨g_2, K, none⟩)
 | 23, _, _ => True
 | 24, _, v => v = .pointer (some ⟨g_2, bb, none⟩)
 | 25, _, _ => True
 | 26, _, v => v = .pointer (some ⟨g_2, cc, none⟩)
 | 27, _, _ => True
 | _, _, _ => True

def diaSK : Nat → HK
 | 23 => .hot
 | 25 => .hot
 | 27 => .hot
 | _ => .val

theorem block_any {A B : Option Addr} {ks ns : List Nat} (n : Nat) (w : World) (ha : Bs w A c ks) (hb : Bs w B d ns) (hm : ks.length = m) (hk : ns.length = k) (hn : n < 4294967296) :
  Calls Tryz.prog 99 #[.slice A (m) (c), .slice B (k) (d), .int .u32 ((n : Nat) : Int)] w fun e w' => ∃ A c, e = .returned (.slice A 64 c) ∧ Own w' w.heap.size A c (blockL ks ns n) ∧ Below w.heap.size w w' := by
 have S0 : W16 (beginL ks ns n) := beginL_16 ks ns n ha.b8 hb.b8 hn
 refine x_enter 117 Tryz.func99 rfl rfl (fun a hs hd ha0 => ?_)
 have t0 := tA 0 ha0
 have t1 := tA 1 ha0
 have t2 := tA 2 ha0
 clear ha0
 iterate 10 refine e1 ?_
 refine k_c Tryz.func127 (begin_any n _ ha hb hm hk) ?_
 rintro e_1 w_1 ⟨rfl, hb_1⟩
 refine ⟨_, rfl, ?_⟩
 refine q_x (o_alloc (zs := (iws .u32 (List.replicate 16 0)).toArray) rfl (fun _ => by kernel_rfl)) (fun v_1 w_2 hR_2 => ?_)
 obtain ⟨g_1, rfl, hle_1, hB_1, hb_2⟩ := hR_2
 have ge_1 : w.heap.size ≤ g_1 := Nat.le_trans hb_1.size hle_1
 have HB_1 := below_from hb_1 hb_2
 refine q_d (o_storeI rfl ev ev hB_1 (by rw [S0.1]; exact ⟨by kernel_rfl, by kernel_rfl⟩) (by rw [S0.1]; simp [iws])) (fun w_3 hR_3 => ?_)
 obtain ⟨hB_2, hX_1⟩ := hR_3
 have HB_2 := hX_1.below HB_1 HB_1.size (fun k hk => hk ▸ ge_1)
 iterate 3 refine e1 ?_
 refine q_w (o_loadI rfl ev hB_2 (by rw [S0.1]; exact ⟨by kernel_rfl, by kernel_rfl⟩)) ?_
 refine q_x (o_alloc (zs := (iws .u32 (List.replicate 16 0)).toArray) rfl (fun _ => by kernel_rfl)) (fun v_2 w_4 hR_4 => ?_)
 obtain ⟨g_2, rfl, hle_2, hB_3, hb_3⟩ := hR_4
 have ne_1 : g_1 ≠ g_2 := Nat.ne_of_lt (Nat.lt_of_lt_of_le hB_2.lt hle_2)
 have ge_2 : w.heap.size ≤ g_2 := Nat.le_trans HB_2.size hle_2
 replace hB_2 := hB_2.nx hb_3
 have HB_3 := below_from HB_2 hb_3
 refine q_d (o_storeI rfl ev ev hB_3 (by rw [S0.1]; exact ⟨by kernel_rfl, by kernel_rfl⟩) (by rw [S0.1]; simp [iws])) (fun w_5 hR_5 => ?_)
 obtain ⟨hB_4, hX_2⟩ := hR_5
 replace hB_2 := hX_2.blk hB_2 ne_1
 have HB_4 := hX_2.below HB_3 HB_3.size (fun k hk => hk ▸ ge_2)
 iterate 4 refine e1 ?_
 refine q_v 21 (.int .i64 ((0 : Nat) : Int)) (o_move rfl rfl) ?_
 iterate 2 refine e1 ?_
 refine x_loop (fun nn aa ww => ∃ (R : Nat), nn = 10 - R ∧ aa.tmps.size = 117 ∧ aa.defers = [] ∧ aa.eval (.tmp 7) = .pointer (some ⟨g_1, 0, none⟩) ∧ aa.eval (.tmp 8) = .pointer (some ⟨g_2, 0, none⟩) ∧ aa.eval (.tmp 21) = .int .i64 ((R : Nat) : Int) ∧ R ≤ 10 ∧ Blk ww g_2 (iws .u32 (dbls (beginL ks ns n) R)).toArray 120 ∧ Blk ww g_1 (iws .u32 (beginL ks ns n)).toArray 120 ∧ Below w.heap.size w ww) (10) ?_ ?_
 ·exact ⟨0, rfl, (psz hs), (pdf hd), ev, ev, ev, by omega, hB_4, hB_2, HB_4⟩
 ·skip
  rintro nna_1 a_1 w_6 ⟨R, hm_1, hs_1, hd_1, ta_1_7, ta_1_8, ta_1_21, hR, BS, BF, HBL⟩ K_7 hK_7
  subst hm_1
  have S1 := S0.dbls R
  generalize hs1 : dbls (beginL ks ns n) R = s1 at BS S1
  iterate 2 refine e1 ?_
  refine q_w (o_lss (n := 10) rfl ev rfl) ?_
  iterate 2 refine e1 ?_
  refine w2_split (pe hs_1 rfl rfl) (fun h_1 => ?_) (fun h_1 => ?_)
  ·simp only [DD9] at h_1
   iterate 7 refine e1 ?_
   refine q_v 23 (.int .i64 ((0 : Nat) : Int)) (o_move rfl rfl) ?_
   iterate 2 refine e1 ?_
   refine x_loop (fun nn aa ww => ∃ (K : Nat), nn = 4 - K ∧ aa.tmps.size = 117 ∧ aa.defers = [] ∧ aa.eval (.tmp 7) = .pointer (some ⟨g_1, 0, none⟩) ∧ aa.eval (.tmp 8) = .pointer (some ⟨g_2, 0, none⟩) ∧ aa.eval (.tmp 21) = .int .i64 ((R : Nat) : Int) ∧ aa.eval (.tmp 23) = .int .i64 ((K : Nat) : Int) ∧ K ≤ 4 ∧ Blk ww g_2 (iws .u32 (cols s1 K)).toArray 120 ∧ Blk ww g_1 (iws .u32 (beginL ks ns n)).toArray 120 ∧ Below w.heap.size w ww) (4) ?_ ?_
   ·exact ⟨0, rfl, (psz hs_1), (pdf hd_1), ev, ev, ev, ev, by omega, BS, BF, HBL⟩
   ·skip
    rintro nna_2 a_2 w_7 ⟨K, hm_2, hs_2, hd_2, ta_2_7, ta_2_8, ta_2_21, ta_2_23, hK, BS, BF, HBL⟩ K_15 hK_15
    subst hm_2
    have HS := S1.cols K
    generalize hs : cols s1 K = s at BS HS
    have hs16 := HS.1
    iterate 2 refine e1 ?_
    refine q_w (o_lss (n := 4) rfl ev rfl) ?_
    iterate 2 refine e1 ?_
    refine w2_split (pe hs_2 rfl rfl) (fun h_2 => ?_) (fun h_2 => ?_)
    ·simp only [DD9] at h_2
     iterate 9 refine e1 ?_
     obtain ⟨a0, ha0, la0⟩ : ∃ a, s.getD (K) 0 = a ∧ a < 4294967296 := ⟨_, rfl, HS.get _⟩
     obtain ⟨b0, hb0, lb0⟩ : ∃ a, s.getD (4 + K) 0 = a ∧ a < 4294967296 := ⟨_, rfl, HS.get _⟩
     obtain ⟨c0, hc0, lc0⟩ : ∃ a, s.getD (8 + K) 0 = a ∧ a < 4294967296 := ⟨_, rfl, HS.get _⟩
     obtain ⟨d0, hd0, ld0⟩ : ∃ a, s.getD (12 + K) 0 = a ∧ a < 4294967296 := ⟨_, rfl, HS.get _⟩
     obtain ⟨p0, p1, p2, p3, hq⟩ : ∃ p0 p1 p2 p3, qr a0 b0 c0 d0 = (p0, p1, p2, p3) := ⟨_, _, _, _, rfl⟩
     refine x_hot 34 colSK (colS (w.heap.size) K a0 b0 c0 d0 p0 p1 p2 p3 g_2) (fun L w => Blk w g_2 (iws .u32 (bif L 33 then (((s).set (K) p0).set (4 + K) p1).set (8 + K) p2 else bif L 31 then ((s).set (K) p0).set (4 + K) p1 else bif L 29 then (s).set (K) p0 else s)).toArray 120) (fun k => k = g_2) hs_2 hd_2 (by kernel_rfl) (by kernel_rfl) (by kernel_rfl) (by kernel_rfl) ?_ (fun L w w' h hb => h.old hb) (fun L i w hk h => by (have e29 : (29 == i) = false := (if e : i = 29 then absurd (by rw [e]; rfl) hk else by (simp only [beq_eq_false_iff_ne]; omega)); have e31 : (31 == i) = false := (if e : i = 31 then absurd (by rw [e]; rfl) hk else by (simp only [beq_eq_false_iff_ne]; omega)); have e33 : (33 == i) = false := (if e : i = 33 then absurd (by rw [e]; rfl) hk else by (simp only [beq_eq_false_iff_ne]; omega)); simp only [e29, e31, e33, Bool.or_false]; exact h)) ?_ BS (hots_all ?_) ?_
     ·exact fun i w w' v h hb => by revert h; unfold colS; split <;> exact id
     ·exact fun i w v hk h => by unfold colSK at hk; split at hk <;> cases hk
     ·simp only [List.take_succ_cons, List.take_zero, HotFrom]
      refine ⟨?_, ?_, ?_, ?_, ?_, ?_, ?_, ?_, ?_, ?_, ?_, ?_, ?_, ?_, ?_, ?_, ?_, ?_, ?_, ?_, ?_, ?_, ?_, ?_, ?_, ?_, ?_, ?_, ?_, ?_, ?_, ?_, ?_, ?_, trivial⟩
      ·exact hx
      ·exact hx
      ·exact hot_val rfl rfl fun L a w' hat => out_of (add_i64 (m := 4) rfl rfl (dH hat 1 rfl rfl) (by omega)) rfl
      ·exact hx
      ·exact hot_val rfl rfl fun L a w' hat => out_of (add_i64 (m := 8) rfl rfl (dH hat 3 rfl rfl) (by omega)) rfl
      ·exact hx
      ·exact hot_val rfl rfl fun L a w' hat => out_of (add_i64 (m := 12) rfl rfl (dH hat 5 rfl rfl) (by omega)) rfl
      ·exact hx
      ·exact hot_val rfl rfl fun L a w' hat => out_of (zero_off (o_ixA (k := 0) (n := 16) (e := 68) rfl eh (dH hat 7 rfl rfl) (by omega) (fun _ => by kernel_rfl) (fun _ => by kernel_rfl))) rfl
      ·exact hot_val rfl rfl fun L a w' hat => out_of (o_loadW rfl (dH hat 8 rfl rfl) (by (have h := hat.hot; simp only [hat.later 29 _ rfl (by kernel_rfl), hat.later 31 _ rfl (by kernel_rfl), hat.later 33 _ rfl (by kernel_rfl), cond_false] at h; exact h)) (by rw [hs16]; omega) ha0 ⟨by kernel_rfl, by kernel_rfl⟩) rfl
      ·exact hx
      ·exact hot_val rfl rfl fun L a w' hat => out_of (add_i64 (m := 4) rfl rfl (dH hat 10 rfl rfl) (by omega)) rfl
      ·exact hot_val rfl rfl fun L a w' hat => out_of (zero_off (o_ixA (k := 0) (n := 16) (e := 68) rfl eh (dH hat 11 rfl rfl) (by omega) (fun _ => by kernel_rfl) (fun _ => by kernel_rfl))) rfl
      ·exact hot_val rfl rfl fun L a w' hat => out_of (o_loadW rfl (dH hat 12 rfl rfl) (by (have h := hat.hot; simp only [hat.later 29 _ rfl (by kernel_rfl), hat.later 31 _ rfl (by kernel_rfl), hat.later 33 _ rfl (by kernel_rfl), cond_false] at h; exact h)) (by rw [hs16]; omega) hb0 ⟨by kernel_rfl, by kernel_rfl⟩) rfl
      ·exact hx
      ·exact hot_val rfl rfl fun L a w' hat => out_of (add_i64 (m := 8) rfl rfl (dH hat 14 rfl rfl) (by omega)) rfl
      ·exact hot_val rfl rfl fun L a w' hat => out_of (zero_off (o_ixA (k := 0) (n := 16) (e := 68) rfl eh (dH hat 15 rfl rfl) (by omega) (fun _ => by kernel_rfl) (fun _ => by kernel_rfl))) rfl
      ·exact hot_val rfl rfl fun L a w' hat => out_of (o_loadW rfl (dH hat 16 rfl rfl) (by (have h := hat.hot; simp only [hat.later 29 _ rfl (by kernel_rfl), hat.later 31 _ rfl (by kernel_rfl), hat.later 33 _ rfl (by kernel_rfl), cond_false] at h; exact h)) (by rw [hs16]; omega) hc0 ⟨by kernel_rfl, by kernel_rfl⟩) rfl
      ·exact hx
      ·exact hot_val rfl rfl fun L a w' hat => out_of (add_i64 (m := 12) rfl rfl (dH hat 18 rfl rfl) (by omega)) rfl
      ·exact hot_val rfl rfl fun L a w' hat => out_of (zero_off (o_ixA (k := 0) (n := 16) (e := 68) rfl eh (dH hat 19 rfl rfl) (by omega) (fun _ => by kernel_rfl) (fun _ => by kernel_rfl))) rfl
      ·exact hot_val rfl rfl fun L a w' hat => out_of (o_loadW rfl (dH hat 20 rfl rfl) (by (have h := hat.hot; simp only [hat.later 29 _ rfl (by kernel_rfl), hat.later 31 _ rfl (by kernel_rfl), hat.later 33 _ rfl (by kernel_rfl), cond_false] at h; exact h)) (by rw [hs16]; omega) hd0 ⟨by kernel_rfl, by kernel_rfl⟩) rfl
      ·exact hot_val rfl rfl fun L a w' hat => oC (vs := #[.int .u32 ((a0 : Nat) : Int), .int .u32 ((b0 : Nat) : Int), .int .u32 ((c0 : Nat) : Int), .int .u32 ((d0 : Nat) : Int)]) Tryz.func128 rfl (args4 (dH hat 9 rfl rfl) (dH hat 13 rfl rfl) (dH hat 17 rfl rfl) (dH hat 21 rfl rfl)) ((Quarter_any a0 b0 c0 d0 _ la0 lb0 lc0 ld0).mono (fun e w'' ⟨p, q, r, s, he, hq', _, _, _, _, hw⟩ => ⟨_, he, (by rw [hq] at hq'; simp only [Prod.mk.injEq] at hq'; obtain ⟨rfl, rfl, rfl, rfl⟩ := hq'; rfl), hw ▸ Below.refl _ _⟩))
      ·exact hx
      ·exact hx
      ·exact hx
      ·exact hx
      ·exact hx
      ·exact hot_val rfl rfl fun L a w' hat => out_of (zero_off (o_ixA (k := 0) (n := 16) (e := 68) rfl eh (dH hat 0 rfl rfl) (by omega) (fun _ => by kernel_rfl) (fun _ => by kernel_rfl))) rfl
      ·refine hot_store rfl (fun L a w' hat => ?_)
       have h0 : a.eval (.tmp 54) = .pointer (some ⟨g_2, K, none⟩) := hat.deps ⟨28, .data⟩ (by simp) rfl 54 (by decide) rfl
       have h1 : a.eval (.tmp 50) = .int .u32 ((p0 : Nat) : Int) := hat.deps ⟨24, .data⟩ (by simp) rfl 50 (by decide) rfl
       have f31 := hat.later 31 _ rfl (by kernel_rfl)
       have f33 := hat.later 33 _ rfl (by kernel_rfl)
       obtain ⟨z, hz, hz2, hH⟩ : ∃ z : List Nat, z.length = 16 ∧ z.set (K) p0 = (s).set (K) p0 ∧ Blk w' g_2 (iws .u32 z).toArray 120 := by (have hH := hat.hot; cases hL : L 29 <;> simp only [hL, f31, f33, cond_true, cond_false] at hH <;> exact ⟨_, by simp only [List.length_set, hs16], by simp only [List.set_set], hH⟩)
       exact hot_ex (o_storeW rfl h0 h1 hH (by rw [hz]; omega) ⟨by kernel_rfl, by kernel_rfl⟩) (fun w'' hN => by (simp only [f31, f33, Nat.reduceBEq, beq_self_eq_true, Bool.or_true, Bool.false_or, Bool.or_false, Bool.true_or, cond_true, cond_false]; rw [hz2] at hN; exact hN))
      ·exact hot_val rfl rfl fun L a w' hat => out_of (zero_off (o_ixA (k := 0) (n := 16) (e := 68) rfl eh (dH hat 2 rfl rfl) (by omega) (fun _ => by kernel_rfl) (fun _ => by kernel_rfl))) rfl
      ·refine hot_store rfl (fun L a w' hat => ?_)
       have h0 : a.eval (.tmp 55) = .pointer (some ⟨g_2, 4 + K, none⟩) := hat.deps ⟨30, .data⟩ (by simp) rfl 55 (by decide) rfl
       have h1 : a.eval (.tmp 51) = .int .u32 ((p1 : Nat) : Int) := hat.deps ⟨25, .data⟩ (by simp) rfl 51 (by decide) rfl
       have f33 := hat.later 33 _ rfl (by kernel_rfl)
       have f29 := hat.before 29 (by kernel_rfl)
       obtain ⟨z, hz, hz2, hH⟩ : ∃ z : List Nat, z.length = 16 ∧ z.set (4 + K) p1 = ((s).set (K) p0).set (4 + K) p1 ∧ Blk w' g_2 (iws .u32 z).toArray 120 := by (have hH := hat.hot; cases hL : L 31 <;> simp only [hL, f29, f33, cond_true, cond_false] at hH <;> exact ⟨_, by simp only [List.length_set, hs16], by simp only [List.set_set], hH⟩)
       exact hot_ex (o_storeW rfl h0 h1 hH (by rw [hz]; omega) ⟨by kernel_rfl, by kernel_rfl⟩) (fun w'' hN => by (simp only [f29, f33, Nat.reduceBEq, beq_self_eq_true, Bool.or_true, Bool.false_or, Bool.or_false, Bool.true_or, cond_true, cond_false]; rw [hz2] at hN; exact hN))
      ·exact hot_val rfl rfl fun L a w' hat => out_of (zero_off (o_ixA (k := 0) (n := 16) (e := 68) rfl eh (dH hat 4 rfl rfl) (by omega) (fun _ => by kernel_rfl) (fun _ => by kernel_rfl))) rfl
      ·refine hot_store rfl (fun L a w' hat => ?_)
       have h0 : a.eval (.tmp 56) = .pointer (some ⟨g_2, 8 + K, none⟩) := hat.deps ⟨32, .data⟩ (by simp) rfl 56 (by decide) rfl
       have h1 : a.eval (.tmp 52) = .int .u32 ((p2 : Nat) : Int) := hat.deps ⟨26, .data⟩ (by simp) rfl 52 (by decide) rfl
       have f29 := hat.before 29 (by kernel_rfl)
       have f31 := hat.before 31 (by kernel_rfl)
       obtain ⟨z, hz, hz2, hH⟩ : ∃ z : List Nat, z.length = 16 ∧ z.set (8 + K) p2 = (((s).set (K) p0).set (4 + K) p1).set (8 + K) p2 ∧ Blk w' g_2 (iws .u32 z).toArray 120 := by (have hH := hat.hot; cases hL : L 33 <;> simp only [hL, f29, f31, cond_true, cond_false] at hH <;> exact ⟨_, by simp only [List.length_set, hs16], by simp only [List.set_set], hH⟩)
       exact hot_ex (o_storeW rfl h0 h1 hH (by rw [hz]; omega) ⟨by kernel_rfl, by kernel_rfl⟩) (fun w'' hN => by (simp only [f29, f31, Nat.reduceBEq, beq_self_eq_true, Bool.or_true, Bool.false_or, Bool.or_false, Bool.true_or, cond_true, cond_false]; rw [hz2] at hN; exact hN))
     intro L a_3 w_8 hs_3 hd_3 hbx_1 hO_1 hV_1 hall_1 hH_1
     have hB_5 : Blk w_8 g_2 (iws .u32 ((((s).set (K) p0).set (4 + K) p1).set (8 + K) p2)).toArray 120 := by (have h := hH_1; simp only [hall_1 33 (by omega), cond_true] at h; exact h)
     have ta_3_7 := fN 7 hO_1
     have ta_3_8 := fN 8 hO_1
     have ta_3_21 := fN 21 hO_1
     have ta_3_23 := fN 23 hO_1
     have ta_3_33 := fH2 33 hV_1
     have ta_3_53 := fH2 53 hV_1
     replace BF := hbx_1.blk BF ne_1
     have HB_5 := hbx_1.below HBL HBL.size (fun k hk => hk ▸ ge_2)
     simp only [List.drop_succ_cons, List.drop_zero]
     refine q_v _ (.pointer (some ⟨g_2, 12 + K, none⟩)) (zero_off (o_ixA (k := 0) (i := 12 + K) (n := 16) (e := 68) rfl ev ev (by omega) (fun _ => by kernel_rfl) (fun _ => by kernel_rfl))) ?_
     refine q_d (o_storeW rfl ev ev hB_5 (by simp only [List.length_set, List.length_set, List.length_set, hs16]; omega) ⟨by kernel_rfl, by kernel_rfl⟩) (fun w_9 hR_6 => ?_)
     obtain ⟨hB_6, hX_3⟩ := hR_6
     replace BF := hX_3.blk BF ne_1
     have HB_6 := hX_3.below HB_5 HB_5.size (fun k hk => hk ▸ ge_2)
     iterate 3 refine e1 ?_
     refine q_w (o_add64 (n := 1) rfl ev rfl (by omega)) ?_
     refine e1 ?_
     refine x_nil ?_
     refine hK_15 _ _ _ ⟨K + 1, rfl, (psz hs_3), (pdf hd_3), ev, ev, ev, ev, (by omega), (by rw [cols, hs, qrAt_eq (a := p0) (b := p1) (c := p2) (d := p3) (by rw [ha0, hb0, hc0, hd0]; exact hq)]; exact hB_6), BF, HB_6⟩ ?_
     omega
    ·simp only [DD9] at h_2
     obtain rfl : K = 4 := by omega
     have S2 := HS
     obtain ⟨s2, hs2⟩ : ∃ z, s = z := ⟨_, rfl⟩
     rw [hs2] at BS S2
     have hs2' := hs.trans hs2
     clear HS hs16 hs hs2
     iterate 7 refine e1 ?_
     refine q_v 59 (.int .i64 ((0 : Nat) : Int)) (o_move rfl rfl) ?_
     iterate 2 refine e1 ?_
     refine x_loop (fun nn aa ww => ∃ (K : Nat), nn = 4 - K ∧ aa.tmps.size = 117 ∧ aa.defers = [] ∧ aa.eval (.tmp 7) = .pointer (some ⟨g_1, 0, none⟩) ∧ aa.eval (.tmp 8) = .pointer (some ⟨g_2, 0, none⟩) ∧ aa.eval (.tmp 21) = .int .i64 ((R : Nat) : Int) ∧ aa.eval (.tmp 59) = .int .i64 ((K : Nat) : Int) ∧ K ≤ 4 ∧ Blk ww g_2 (iws .u32 (diags s2 K)).toArray 120 ∧ Blk ww g_1 (iws .u32 (beginL ks ns n)).toArray 120 ∧ Below w.heap.size w ww) (4) ?_ ?_
     ·exact ⟨0, rfl, (psz hs_2), (pdf hd_2), ev, ev, ev, ev, by omega, BS, BF, HBL⟩
     ·skip
      rintro nna_4 a_4 w_10 ⟨K, hm_3, hs_4, hd_4, ta_4_7, ta_4_8, ta_4_21, ta_4_59, hK, BS, BF, HBL⟩ K_23 hK_23
      subst hm_3
      have HS := S2.diags K
      generalize hs : diags s2 K = s at BS HS
      have hs16 := HS.1
      iterate 2 refine e1 ?_
      refine q_w (o_lss (n := 4) rfl ev rfl) ?_
      iterate 2 refine e1 ?_
      refine w2_split (pe hs_4 rfl rfl) (fun h_3 => ?_) (fun h_3 => ?_)
      ·simp only [DD9] at h_3
       iterate 12 refine e1 ?_
       refine q_w (o_add64 (n := 1) rfl ev rfl (by omega)) ?_
       refine q_w (o_rem (n := 4) rfl ev rfl (by omega) (IntWalk.i64_in _ (by omega))) ?_
       refine q_w (o_add64 (m := 4) rfl rfl ev (by omega)) ?_
       refine e1 ?_
       refine q_w (o_add64 (n := 2) rfl ev rfl (by omega)) ?_
       refine q_w (o_rem (n := 4) rfl ev rfl (by omega) (IntWalk.i64_in _ (by omega))) ?_
       refine q_w (o_add64 (m := 8) rfl rfl ev (by omega)) ?_
       refine e1 ?_
       refine q_w (o_add64 (n := 3) rfl ev rfl (by omega)) ?_
       refine q_w (o_rem (n := 4) rfl ev rfl (by omega) (IntWalk.i64_in _ (by omega))) ?_
       refine q_w (o_add64 (m := 12) rfl rfl ev (by omega)) ?_
       iterate 3 refine e1 ?_
       refine x_nil ?_
       generalize hbb : 4 + (K + 1) % 4 = bb
       generalize hcc : 8 + (K + 2) % 4 = cc
       generalize hdd : 12 + (K + 3) % 4 = dd
       refine e1 ?_
       obtain ⟨a0, ha0, la0⟩ : ∃ a, s.getD (K) 0 = a ∧ a < 4294967296 := ⟨_, rfl, HS.get _⟩
       obtain ⟨b0, hb0, lb0⟩ : ∃ a, s.getD (bb) 0 = a ∧ a < 4294967296 := ⟨_, rfl, HS.get _⟩
       obtain ⟨c0, hc0, lc0⟩ : ∃ a, s.getD (cc) 0 = a ∧ a < 4294967296 := ⟨_, rfl, HS.get _⟩
       obtain ⟨d0, hd0, ld0⟩ : ∃ a, s.getD (dd) 0 = a ∧ a < 4294967296 := ⟨_, rfl, HS.get _⟩
       obtain ⟨p0, p1, p2, p3, hq⟩ : ∃ p0 p1 p2 p3, qr a0 b0 c0 d0 = (p0, p1, p2, p3) := ⟨_, _, _, _, rfl⟩
       refine x_hot 28 diaSK (diaS (w.heap.size) K a0 b0 c0 d0 p0 p1 p2 p3 g_2 bb cc dd) (fun L w => Blk w g_2 (iws .u32 (bif L 27 then (((s).set (K) p0).set (bb) p1).set (cc) p2 else bif L 25 then ((s).set (K) p0).set (bb) p1 else bif L 23 then (s).set (K) p0 else s)).toArray 120) (fun k => k = g_2) hs_4 hd_4 (by kernel_rfl) (by kernel_rfl) (by kernel_rfl) (by kernel_rfl) ?_ (fun L w w' h hb => h.old hb) (fun L i w hk h => by (have e23 : (23 == i) = false := (if e : i = 23 then absurd (by rw [e]; rfl) hk else by (simp only [beq_eq_false_iff_ne]; omega)); have e25 : (25 == i) = false := (if e : i = 25 then absurd (by rw [e]; rfl) hk else by (simp only [beq_eq_false_iff_ne]; omega)); have e27 : (27 == i) = false := (if e : i = 27 then absurd (by rw [e]; rfl) hk else by (simp only [beq_eq_false_iff_ne]; omega)); simp only [e23, e25, e27, Bool.or_false]; exact h)) ?_ BS (hots_all ?_) ?_
       ·exact fun i w w' v h hb => by revert h; unfold diaS; split <;> exact id
       ·exact fun i w v hk h => by unfold diaSK at hk; split at hk <;> cases hk
       ·simp only [List.take_succ_cons, List.take_zero, HotFrom]
        refine ⟨?_, ?_, ?_, ?_, ?_, ?_, ?_, ?_, ?_, ?_, ?_, ?_, ?_, ?_, ?_, ?_, ?_, ?_, ?_, ?_, ?_, ?_, ?_, ?_, ?_, ?_, ?_, ?_, trivial⟩
        ·exact hx
        ·exact hx
        ·exact hx
        ·exact hx
        ·exact hx
        ·exact hot_val rfl rfl fun L a w' hat => out_of (zero_off (o_ixA (k := 0) (n := 16) (e := 68) rfl eh (dH hat 4 rfl rfl) (by omega) (fun _ => by kernel_rfl) (fun _ => by kernel_rfl))) rfl
        ·exact hot_val rfl rfl fun L a w' hat => out_of (o_loadW rfl (dH hat 5 rfl rfl) (by (have h := hat.hot; simp only [hat.later 23 _ rfl (by kernel_rfl), hat.later 25 _ rfl (by kernel_rfl), hat.later 27 _ rfl (by kernel_rfl), cond_false] at h; exact h)) (by rw [hs16]; omega) ha0 ⟨by kernel_rfl, by kernel_rfl⟩) rfl
        ·exact hx
        ·exact hot_val rfl rfl fun L a w' hat => out_of (zero_off (o_ixA (k := 0) (n := 16) (e := 68) rfl eh (dH hat 7 rfl rfl) (by omega) (fun _ => by kernel_rfl) (fun _ => by kernel_rfl))) rfl
        ·exact hot_val rfl rfl fun L a w' hat => out_of (o_loadW rfl (dH hat 8 rfl rfl) (by (have h := hat.hot; simp only [hat.later 23 _ rfl (by kernel_rfl), hat.later 25 _ rfl (by kernel_rfl), hat.later 27 _ rfl (by kernel_rfl), cond_false] at h; exact h)) (by rw [hs16]; omega) hb0 ⟨by kernel_rfl, by kernel_rfl⟩) rfl
        ·exact hx
        ·exact hot_val rfl rfl fun L a w' hat => out_of (zero_off (o_ixA (k := 0) (n := 16) (e := 68) rfl eh (dH hat 10 rfl rfl) (by omega) (fun _ => by kernel_rfl) (fun _ => by kernel_rfl))) rfl
        ·exact hot_val rfl rfl fun L a w' hat => out_of (o_loadW rfl (dH hat 11 rfl rfl) (by (have h := hat.hot; simp only [hat.later 23 _ rfl (by kernel_rfl), hat.later 25 _ rfl (by kernel_rfl), hat.later 27 _ rfl (by kernel_rfl), cond_false] at h; exact h)) (by rw [hs16]; omega) hc0 ⟨by kernel_rfl, by kernel_rfl⟩) rfl
        ·exact hx
        ·exact hot_val rfl rfl fun L a w' hat => out_of (zero_off (o_ixA (k := 0) (n := 16) (e := 68) rfl eh (dH hat 13 rfl rfl) (by omega) (fun _ => by kernel_rfl) (fun _ => by kernel_rfl))) rfl
        ·exact hot_val rfl rfl fun L a w' hat => out_of (o_loadW rfl (dH hat 14 rfl rfl) (by (have h := hat.hot; simp only [hat.later 23 _ rfl (by kernel_rfl), hat.later 25 _ rfl (by kernel_rfl), hat.later 27 _ rfl (by kernel_rfl), cond_false] at h; exact h)) (by rw [hs16]; omega) hd0 ⟨by kernel_rfl, by kernel_rfl⟩) rfl
        ·exact hot_val rfl rfl fun L a w' hat => oC (vs := #[.int .u32 ((a0 : Nat) : Int), .int .u32 ((b0 : Nat) : Int), .int .u32 ((c0 : Nat) : Int), .int .u32 ((d0 : Nat) : Int)]) Tryz.func128 rfl (args4 (dH hat 6 rfl rfl) (dH hat 9 rfl rfl) (dH hat 12 rfl rfl) (dH hat 15 rfl rfl)) ((Quarter_any a0 b0 c0 d0 _ la0 lb0 lc0 ld0).mono (fun e w'' ⟨p, q, r, s, he, hq', _, _, _, _, hw⟩ => ⟨_, he, (by rw [hq] at hq'; simp only [Prod.mk.injEq] at hq'; obtain ⟨rfl, rfl, rfl, rfl⟩ := hq'; rfl), hw ▸ Below.refl _ _⟩))
        ·exact hx
        ·exact hx
        ·exact hx
        ·exact hx
        ·exact hx
        ·exact hot_val rfl rfl fun L a w' hat => out_of (zero_off (o_ixA (k := 0) (n := 16) (e := 68) rfl eh (dH hat 0 rfl rfl) (by omega) (fun _ => by kernel_rfl) (fun _ => by kernel_rfl))) rfl
        ·refine hot_store rfl (fun L a w' hat => ?_)
         have h0 : a.eval (.tmp 96) = .pointer (some ⟨g_2, K, none⟩) := hat.deps ⟨22, .data⟩ (by simp) rfl 96 (by decide) rfl
         have h1 : a.eval (.tmp 92) = .int .u32 ((p0 : Nat) : Int) := hat.deps ⟨18, .data⟩ (by simp) rfl 92 (by decide) rfl
         have f25 := hat.later 25 _ rfl (by kernel_rfl)
         have f27 := hat.later 27 _ rfl (by kernel_rfl)
         obtain ⟨z, hz, hz2, hH⟩ : ∃ z : List Nat, z.length = 16 ∧ z.set (K) p0 = (s).set (K) p0 ∧ Blk w' g_2 (iws .u32 z).toArray 120 := by (have hH := hat.hot; cases hL : L 23 <;> simp only [hL, f25, f27, cond_true, cond_false] at hH <;> exact ⟨_, by simp only [List.length_set, hs16], by simp only [List.set_set], hH⟩)
         exact hot_ex (o_storeW rfl h0 h1 hH (by rw [hz]; omega) ⟨by kernel_rfl, by kernel_rfl⟩) (fun w'' hN => by (simp only [f25, f27, Nat.reduceBEq, beq_self_eq_true, Bool.or_true, Bool.false_or, Bool.or_false, Bool.true_or, cond_true, cond_false]; rw [hz2] at hN; exact hN))
        ·exact hot_val rfl rfl fun L a w' hat => out_of (zero_off (o_ixA (k := 0) (n := 16) (e := 68) rfl eh (dH hat 1 rfl rfl) (by omega) (fun _ => by kernel_rfl) (fun _ => by kernel_rfl))) rfl
        ·refine hot_store rfl (fun L a w' hat => ?_)
         have h0 : a.eval (.tmp 97) = .pointer (some ⟨g_2, bb, none⟩) := hat.deps ⟨24, .data⟩ (by simp) rfl 97 (by decide) rfl
         have h1 : a.eval (.tmp 93) = .int .u32 ((p1 : Nat) : Int) := hat.deps ⟨19, .data⟩ (by simp) rfl 93 (by decide) rfl
         have f27 := hat.later 27 _ rfl (by kernel_rfl)
         have f23 := hat.before 23 (by kernel_rfl)
         obtain ⟨z, hz, hz2, hH⟩ : ∃ z : List Nat, z.length = 16 ∧ z.set (bb) p1 = ((s).set (K) p0).set (bb) p1 ∧ Blk w' g_2 (iws .u32 z).toArray 120 := by (have hH := hat.hot; cases hL : L 25 <;> simp only [hL, f23, f27, cond_true, cond_false] at hH <;> exact ⟨_, by simp only [List.length_set, hs16], by simp only [List.set_set], hH⟩)
         exact hot_ex (o_storeW rfl h0 h1 hH (by rw [hz]; omega) ⟨by kernel_rfl, by kernel_rfl⟩) (fun w'' hN => by (simp only [f23, f27, Nat.reduceBEq, beq_self_eq_true, Bool.or_true, Bool.false_or, Bool.or_false, Bool.true_or, cond_true, cond_false]; rw [hz2] at hN; exact hN))
        ·exact hot_val rfl rfl fun L a w' hat => out_of (zero_off (o_ixA (k := 0) (n := 16) (e := 68) rfl eh (dH hat 2 rfl rfl) (by omega) (fun _ => by kernel_rfl) (fun _ => by kernel_rfl))) rfl
        ·refine hot_store rfl (fun L a w' hat => ?_)
         have h0 : a.eval (.tmp 98) = .pointer (some ⟨g_2, cc, none⟩) := hat.deps ⟨26, .data⟩ (by simp) rfl 98 (by decide) rfl
         have h1 : a.eval (.tmp 94) = .int .u32 ((p2 : Nat) : Int) := hat.deps ⟨20, .data⟩ (by simp) rfl 94 (by decide) rfl
         have f23 := hat.before 23 (by kernel_rfl)
         have f25 := hat.before 25 (by kernel_rfl)
         obtain ⟨z, hz, hz2, hH⟩ : ∃ z : List Nat, z.length = 16 ∧ z.set (cc) p2 = (((s).set (K) p0).set (bb) p1).set (cc) p2 ∧ Blk w' g_2 (iws .u32 z).toArray 120 := by (have hH := hat.hot; cases hL : L 27 <;> simp only [hL, f23, f25, cond_true, cond_false] at hH <;> exact ⟨_, by simp only [List.length_set, hs16], by simp only [List.set_set], hH⟩)
         exact hot_ex (o_storeW rfl h0 h1 hH (by rw [hz]; omega) ⟨by kernel_rfl, by kernel_rfl⟩) (fun w'' hN => by (simp only [f23, f25, Nat.reduceBEq, beq_self_eq_true, Bool.or_true, Bool.false_or, Bool.or_false, Bool.true_or, cond_true, cond_false]; rw [hz2] at hN; exact hN))
       intro L a_5 w_11 hs_5 hd_5 hbx_2 hO_2 hV_2 hall_2 hH_2
       have hB_7 : Blk w_11 g_2 (iws .u32 ((((s).set (K) p0).set (bb) p1).set (cc) p2)).toArray 120 := by (have h := hH_2; simp only [hall_2 27 (by omega), cond_true] at h; exact h)
       have ta_5_7 := fN 7 hO_2
       have ta_5_8 := fN 8 hO_2
       have ta_5_21 := fN 21 hO_2
       have ta_5_59 := fN 59 hO_2
       have ta_5_78 := fH2 78 hV_2
       have ta_5_95 := fH2 95 hV_2
       replace BF := hbx_2.blk BF ne_1
       have HB_7 := hbx_2.below HBL HBL.size (fun k hk => hk ▸ ge_2)
       simp only [List.drop_succ_cons, List.drop_zero]
       refine q_v _ (.pointer (some ⟨g_2, dd, none⟩)) (zero_off (o_ixA (k := 0) (i := dd) (n := 16) (e := 68) rfl ev ev (by omega) (fun _ => by kernel_rfl) (fun _ => by kernel_rfl))) ?_
       refine q_d (o_storeW rfl ev ev hB_7 (by simp only [List.length_set, List.length_set, List.length_set, hs16]; omega) ⟨by kernel_rfl, by kernel_rfl⟩) (fun w_12 hR_7 => ?_)
       obtain ⟨hB_8, hX_4⟩ := hR_7
       replace BF := hX_4.blk BF ne_1
       have HB_8 := hX_4.below HB_7 HB_7.size (fun k hk => hk ▸ ge_2)
       iterate 3 refine e1 ?_
       refine q_w (o_add64 (n := 1) rfl ev rfl (by omega)) ?_
       refine e1 ?_
       refine x_nil ?_
       refine hK_23 _ _ _ ⟨K + 1, rfl, (psz hs_5), (pdf hd_5), ev, ev, ev, ev, (by omega), (by rw [diags, hs, hbb, hcc, hdd, qrAt_eq (a := p0) (b := p1) (c := p2) (d := p3) (by rw [ha0, hb0, hc0, hd0]; exact hq)]; exact hB_8), BF, HB_8⟩ ?_
       omega
      ·simp only [DD9] at h_3
       obtain rfl : K = 4 := by omega
       iterate 7 refine e1 ?_
       refine q_w (o_add64 (n := 1) rfl ev rfl (by omega)) ?_
       refine e1 ?_
       refine x_nil ?_
       refine hK_7 _ _ _ ⟨R + 1, rfl, (psz hs_4), (pdf hd_4), ev, ev, ev, (by omega), (by rw [dbls, hs1, hs2', hs]; exact BS), BF, HBL⟩ ?_
       omega
  ·simp only [DD9] at h_1
   obtain rfl : R = 10 := by omega
   iterate 11 refine e1 ?_
   have s16 := S1.1
   refine e1 ?_
   refine q_v 102 (.int .i64 ((0 : Nat) : Int)) (o_move rfl rfl) ?_
   iterate 2 refine e1 ?_
   refine x_loop (fun nn aa ww => ∃ (K : Nat) (A1 : Option Addr) (c1 : Nat), nn = 16 - K ∧ aa.tmps.size = 117 ∧ aa.defers = [] ∧ aa.eval (.tmp 7) = .pointer (some ⟨g_1, 0, none⟩) ∧ aa.eval (.tmp 8) = .pointer (some ⟨g_2, 0, none⟩) ∧ aa.eval (.tmp 14) = .slice A1 (4 * K) (c1) ∧ aa.eval (.tmp 102) = .int .i64 ((K : Nat) : Int) ∧ K ≤ 16 ∧ Own ww w.heap.size A1 c1 (outL s1 (beginL ks ns n) K) ∧ Blk ww g_2 (iws .u32 s1).toArray 120 ∧ Blk ww g_1 (iws .u32 (beginL ks ns n)).toArray 120 ∧ Below w.heap.size w ww) (16) ?_ ?_
   ·exact ⟨0, none, 0, rfl, (psz hs_1), (pdf hd_1), ev, ev, ev, ev, by omega, Own.nil _ _, BS, BF, HBL⟩
   ·skip
    rintro nna_6 a_6 w_13 ⟨K, A1, c1, hm_4, hs_6, hd_6, ta_6_7, ta_6_8, ta_6_14, ta_6_102, hK, hO, BS, BF, HBL⟩ K_34 hK_34
    subst hm_4
    iterate 2 refine e1 ?_
    refine q_w (o_lss (n := 16) rfl ev rfl) ?_
    iterate 2 refine e1 ?_
    refine w2_split (pe hs_6 rfl rfl) (fun h_4 => ?_) (fun h_4 => ?_)
    ·simp only [DD9] at h_4
     iterate 9 refine e1 ?_
     refine y_drawn 9 [iV (.slice A1 (4 * K) (c1)), iI .i64 K, iP g_2 K, iV (.int .u32 ((s1.getD (K) 0 : Nat) : Int)), iI .i64 K, iP g_1 K, iV (.int .u32 (((beginL ks ns n).getD (K) 0 : Nat) : Int)), iV (.int .u32 ((((s1.getD (K) 0) + ((beginL ks ns n).getD (K) 0)) % 4294967296 : Nat) : Int)), fun w v => OwnN w_13.heap.size 4 (putL (((s1.getD (K) 0) + ((beginL ks ns n).getD (K) 0)) % 4294967296) 4) w v] [105, 106, 107, 108, 109, 110, 111, 112, 113] hs_6 hd_6 ⟨sx, sx, (step_ok rfl fun a' w' hb' hO hD => oV (zero_off (o_ixA (k := 0) (i := K) (n := 16) (e := 68) rfl ed ed (by omega) (fun _ => by kernel_rfl) (fun _ => by kernel_rfl))) rfl), (step_ok rfl fun a' w' hb' hO hD => oV (o_loadW rfl ed (BS.nx hb') (by rw [s16]; omega) rfl ⟨by kernel_rfl, by kernel_rfl⟩) rfl), sx, (step_ok rfl fun a' w' hb' hO hD => oV (zero_off (o_ixA (k := 0) (i := K) (n := 16) (e := 68) rfl ed ed (by omega) (fun _ => by kernel_rfl) (fun _ => by kernel_rfl))) rfl), (step_ok rfl fun a' w' hb' hO hD => oV (o_loadW rfl ed (BF.nx hb') (by rw [S0.1]; omega) rfl ⟨by kernel_rfl, by kernel_rfl⟩) rfl), (step_ok rfl fun a' w' hb' hO hD => oV (o_addU (m := (s1.getD (K) 0)) (n := ((beginL ks ns n).getD (K) 0)) (((s1.getD (K) 0) + ((beginL ks ns n).getD (K) 0)) % 4294967296) rfl ed ed (by rw [IntKind.wrap_u32]; omega)) rfl), (step_ok rfl fun a' w' hb' hO hD => oC (vs := #[.int .u32 ((((s1.getD (K) 0) + ((beginL ks ns n).getD (K) 0)) % 4294967296 : Nat) : Int)]) Tryz.func129 rfl (args1 ed) (Calls.mono (PutLow32_any (((s1.getD (K) 0) + ((beginL ks ns n).getD (K) 0)) % 4294967296) _ (Nat.mod_lt _ (by omega))) (fun e w'' hR => by obtain ⟨A_1, c_1, rfl, ho_1, hb_4⟩ := hR; exact ⟨_, rfl, ⟨_, _, rfl, ho_1.mono hb'.size⟩, hb_4⟩))), trivial⟩ (fun a_7 w_14 hs_7 hd_7 hb_5 hO_3 hV_3 => ?_)
     have ta_7_7 := fK 7 hO_3
     have ta_7_8 := fK 8 hO_3
     have ta_7_102 := fK 102 hO_3
     obtain ⟨hO, BS, BF⟩ := nx3 hb_5 hO BS BF
     have HB_9 := below_from HBL hb_5
     have ta_7_105 := fV 105 hV_3
     have x_1 := hV_3 8 113 rfl rfl
     obtain ⟨A_2, c_2, hv_1, hO_4⟩ := x_1
     replace hO_4 := hO_4.mono HBL.size
     simp only [List.drop_succ_cons, List.drop_zero]
     refine q_x (o_append rfl ev ((pm rfl).trans hv_1) hO (hO_4).bs (by rw [outL_length]) (by simp only [putL_length]) (by omega) HB_9.size) (fun v_3 w_15 hR_8 => ?_)
     obtain ⟨A_3, c_3, rfl, ho_2, hb_6, hg_1, hat_1⟩ := hR_8
     replace BS := BS.grown hO hg_1 (by decide)
     replace BF := BF.grown hO hg_1 (by decide)
     have HB_10 : Below w.heap.size w w_15 := (HB_9).trans hb_6
     iterate 4 refine e1 ?_
     refine q_w (o_add64 (n := 1) rfl ev rfl (by omega)) ?_
     refine e1 ?_
     refine x_nil ?_
     refine hK_34 _ _ _ ⟨K + 1, A_3, c_3, rfl, (psz hs_7), (pdf hd_7), ev, ev, ev, ev, (by omega), ho_2, BS, BF, HB_10⟩ ?_
     omega
    ·simp only [DD9] at h_4
     obtain rfl : K = 16 := by omega
     iterate 12 refine e1 ?_
     exact ⟨A1, c1, rfl, (by unfold blockL; rw [hs1]; exact hO), HBL⟩
end Go.Proofs.YtkhbihnnkflfkaaGreat
