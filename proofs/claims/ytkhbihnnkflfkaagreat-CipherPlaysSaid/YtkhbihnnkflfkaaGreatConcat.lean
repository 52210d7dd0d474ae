/-
 WALKS: slices.Grow of nil, slices.Concat of bytes.
-/
import Derived.Test.YtkhbihnnkflfkaaGreatEz
import Derived.Test.YtkhbihnnkflfkaaGreatOps4
namespace Go.Proofs.YtkhbihnnkflfkaaGreat
open Go.RowKit
set_option maxHeartbeats 8000000
set_option linter.unusedVariables false
set_option linter.unusedSimpArgs false
set_option maxRecDepth 100000
attribute [local irreducible] wpList wpListIn putsR

variable {c1 c2 c3 gs n1 n2 n3 : Nat} {A1 A2 A3 : Option Addr} {x1 x2 x3 : List Nat}
theorem Grow_nil (n : Nat) (w : World) (hl : n ≤ 140737488355328) :
  Calls Tryz.prog 83 #[.slice none (0) (0), .int .i64 ((n : Nat) : Int)] w fun e w' => ∃ A c, e = .returned (.slice A 0 c) ∧ Own w' w.heap.size A c [] ∧ Below w.heap.size w w' := by
 refine x_enter 27 Tryz.func83 rfl rfl (fun a hs hd ha0 => ?_)
 have t0 := tA 0 ha0
 have t1 := tA 1 ha0
 clear ha0
 iterate 8 refine e1 ?_
 refine q_w (o_lss (n := 0) rfl ev rfl) ?_
 refine e1 ?_
 refine w2_split (pe hs rfl rfl) (fun h_1 => ?_) (fun h_1 => ?_)
 ·simp only [DD9] at h_1
  exact absurd h_1 (by omega)
 ·simp only [DD9] at h_1
  iterate 7 refine e1 ?_
  refine q_v 10 (.int .i64 ((0 : Nat) : Int)) (o_cap rfl ev) ?_
  refine e1 ?_
  refine q_w (o_len rfl ev) ?_
  refine q_w (o_sub64 rfl ev ev (by omega) (by omega)) ?_
  refine q_v 14 (.int .i64 ((n : Nat) : Int)) (o_eq (o_sub64 (m := n) (n := (0 - 0)) rfl ev ev (by omega) (by omega)) (by simp)) ?_
  iterate 5 refine e1 ?_
  refine q_w (o_gtr (n := 0) rfl ev rfl) ?_
  refine e1 ?_
  refine w2_split (pe hs rfl rfl) (fun h_2 => ?_) (fun h_2 => ?_)
  ·simp only [DD9] at h_2
   iterate 3 refine e1 ?_
   refine q_v 19 (.int .i64 ((0 : Nat) : Int)) (o_cap rfl ev) ?_
   refine q_v 20 (.slice none (0) (0)) (o_eq (o_sliceH rfl ev ev (by omega)) rfl) ?_
   refine e1 ?_
   refine q_x (o_appendZ (m := n) rfl (pe hs rfl rfl) (pe hs rfl rfl) (Own.nil w w.heap.size) rfl (by omega) (Nat.le_refl _)) (fun v_1 w_1 hR_1 => ?_)
   obtain ⟨A_1, c_1, rfl, ho_1, hb_1, hg_1, hat_1⟩ := hR_1
   have HB_1 : Below w.heap.size w w_1 := hb_1
   refine e1 ?_
   refine q_w (o_len rfl ev) ?_
   refine q_v 25 (.slice A_1 (0) (c_1)) (o_eq (o_sliceH rfl ev ev (by omega)) (by rw [subA_zero])) ?_
   refine e1 ?_
   refine x_nil ?_
   have hO_1 := ho_1.trunc
   iterate 8 refine e1 ?_
   exact ⟨_, _, rfl, hO_1, HB_1⟩
  ·simp only [DD9] at h_2
   iterate 9 refine e1 ?_
   exact ⟨_, _, rfl, (Own.nil w w.heap.size), Below.refl _ _⟩
theorem Part.mem {ps : List Part} {k : Nat} (h : k < ps.length) : Part.at ps k ∈ ps := by
 unfold Part.at
 rw [List.getD_eq_getElem?_getD, List.getElem?_eq_getElem h]
 exact List.getElem_mem h
theorem Grow_sz (n : Nat) (w : World) (hl : n ≤ 140737488355328) : Calls Tryz.prog 83 #[.slice none 0 0, .int .i64 (n : Int)] w fun e w' => ∃ A c, e = .returned (.slice A 0 c) ∧ Own w' w.heap.size A c [] ∧ Below w.heap.size w w' := Grow_nil n w hl
theorem Concat_any {ps : List Part} (w : World) (hB : Blk w gs (ps.map Part.val).toArray 22) (hP : ∀ p ∈ ps, Bs w p.A p.c p.xs) (hl : (joinP ps ps.length).length ≤ 70368744177664) (hl2 : ps.length ≤ 4611686018427387904) :
  Calls Tryz.prog 50 #[.slice ((some ⟨gs, 0, none⟩)) (ps.length) (ps.length)] w fun e w' => ∃ A c, e = .returned (.slice A (joinP ps ps.length).length c) ∧ Own w' w.heap.size A c (joinP ps ps.length) ∧ Below w.heap.size w w' := by
 refine x_enter 36 Tryz.func50 rfl rfl (fun a hs hd ha0 => ?_)
 have t0 := tA 0 ha0
 clear ha0
 iterate 6 refine e1 ?_
 refine q_as (.int .i64 ((0 : Nat) : Int)) rfl ?_
 iterate 5 refine e1 ?_
 refine q_w (o_lenS rfl ev) ?_
 refine q_v 11 (.int .i64 ((0 : Nat) : Int)) (o_move rfl rfl) ?_
 iterate 2 refine e1 ?_
 refine x_loop (fun nn aa ww => ∃ (K : Nat), nn = ps.length - K ∧ aa.tmps.size = 36 ∧ aa.defers = [] ∧ aa.eval (.tmp 0) = .slice ((some ⟨gs, 0, none⟩)) (ps.length) (ps.length) ∧ aa.eval (.tmp 3) = .int .i64 (((joinP ps K).length : Nat) : Int) ∧ aa.eval (.tmp 9) = .slice ((some ⟨gs, 0, none⟩)) (ps.length) (ps.length) ∧ aa.eval (.tmp 10) = .int .i64 ((ps.length : Nat) : Int) ∧ aa.eval (.tmp 11) = .int .i64 ((K : Nat) : Int) ∧ K ≤ ps.length ∧ Below w.heap.size w ww) (ps.length) ?_ ?_
 ·exact ⟨0, rfl, (psz hs), (pdf hd), ev, ev, ev, ev, ev, Nat.zero_le _, Below.refl _ _⟩
 ·skip
  rintro nna_1 a_1 w_1 ⟨K, hm_1, hs_1, hd_1, ta_1_0, ta_1_3, ta_1_9, ta_1_10, ta_1_11, hK, HBL⟩ K_6 hK_6
  subst hm_1
  iterate 2 refine e1 ?_
  refine q_w (o_lss rfl ev ev) ?_
  iterate 2 refine e1 ?_
  refine w2_split (pe hs_1 rfl rfl) (fun h_1 => ?_) (fun h_1 => ?_)
  ·simp only [DD9] at h_1
   have hlt : K < ps.length := h_1
   have hPK := hP _ (Part.mem hlt)
   have hjl := joinP_le ps _ hl (K + 1) hlt
   rw [joinP, List.length_append] at hjl
   iterate 6 refine e1 ?_
   refine q_v _ (.pointer (some ⟨gs, K, none⟩)) (zero_off (o_ixS (off := 0) (i := K) rfl ev ev (by omega))) ?_
   refine q_v 14 (.slice ((Part.at ps K).A) ((Part.at ps K).xs.length) ((Part.at ps K).c)) (o_eq (o_load1 rfl ev (hB.nx HBL) (Part.get hlt) ⟨by kernel_rfl, by kernel_rfl⟩) rfl) ?_
   iterate 6 refine e1 ?_
   refine q_w (o_len rfl ev) ?_
   refine q_v 18 (.int .i64 (((joinP ps (K + 1)).length : Nat) : Int)) (o_eq (o_add64 (m := ((joinP ps K).length)) (n := ((Part.at ps K).xs.length)) rfl ev ev (by omega)) (by rw [joinP, List.length_append])) ?_
   iterate 5 refine e1 ?_
   refine q_w (o_lss (n := 0) rfl ev rfl) ?_
   refine e1 ?_
   refine w2_split (pe hs_1 rfl rfl) (fun h_2 => ?_) (fun h_2 => ?_)
   ·simp only [DD9] at h_2
    exact absurd h_2 (by omega)
   ·simp only [DD9] at h_2
    iterate 4 refine e1 ?_
    refine q_w (o_add64 (n := 1) rfl ev rfl (by omega)) ?_
    refine e1 ?_
    refine x_nil ?_
    refine hK_6 _ _ _ ⟨K + 1, rfl, (psz hs_1), (pdf hd_1), ev, ev, ev, ev, ev, (by omega), HBL⟩ ?_
    omega
  ·simp only [DD9] at h_1
   obtain rfl : K = ps.length := by omega
   iterate 9 refine e1 ?_
   refine k_c Tryz.func83 (Grow_sz ((joinP ps ps.length).length) _ (by omega)) ?_
   rintro e_1 w_2 ⟨A_1, c_1, rfl, ho_1, hb_1⟩
   replace ho_1 := ho_1.mono HBL.size
   have HB_1 := below_from HBL hb_1
   refine ⟨_, rfl, ?_⟩
   iterate 6 refine e1 ?_
   refine q_w (o_lenS rfl ev) ?_
   refine q_v 27 (.int .i64 ((0 : Nat) : Int)) (o_move rfl rfl) ?_
   iterate 2 refine e1 ?_
   refine x_loop (fun nn aa ww => ∃ (K n1 c1 : Nat) (A1 : Option Addr), nn = ps.length - K ∧ aa.tmps.size = 36 ∧ aa.defers = [] ∧ aa.eval (.tmp 6) = .slice A1 (n1) (c1) ∧ aa.eval (.tmp 25) = .slice ((some ⟨gs, 0, none⟩)) (ps.length) (ps.length) ∧ aa.eval (.tmp 26) = .int .i64 ((ps.length : Nat) : Int) ∧ aa.eval (.tmp 27) = .int .i64 ((K : Nat) : Int) ∧ K ≤ ps.length ∧ n1 = (joinP ps K).length ∧ Own ww w.heap.size A1 c1 (joinP ps K) ∧ Below w.heap.size w ww) (ps.length) ?_ ?_
   ·exact ⟨0, 0, c_1, A_1, rfl, (psz hs_1), (pdf hd_1), ev, ev, ev, ev, Nat.zero_le _, rfl, ho_1, HB_1⟩
   ·skip
    clear ta_1_0 ta_1_9 ta_1_10 ta_1_3 ta_1_11 hd_1 ho_1 HB_1
    rintro nna_2 a_2 w_3 ⟨K, n1, c1, A1, hm_2, hs_2, hd_2, ta_2_6, ta_2_25, ta_2_26, ta_2_27, hK, hn1, hO, HBL⟩ K_18 hK_18
    subst hm_2
    iterate 2 refine e1 ?_
    refine q_w (o_lss rfl ev ev) ?_
    iterate 2 refine e1 ?_
    refine w2_split (pe hs_2 rfl rfl) (fun h_3 => ?_) (fun h_3 => ?_)
    ·simp only [DD9] at h_3
     have hlt : K < ps.length := h_3
     have hPK := hP _ (Part.mem hlt)
     have hjl := joinP_le ps _ hl (K + 1) hlt
     rw [joinP, List.length_append] at hjl
     iterate 6 refine e1 ?_
     refine q_v _ (.pointer (some ⟨gs, K, none⟩)) (zero_off (o_ixS (off := 0) (i := K) rfl ev ev (by omega))) ?_
     refine q_v 30 (.slice ((Part.at ps K).A) ((Part.at ps K).xs.length) ((Part.at ps K).c)) (o_eq (o_load1 rfl ev (hB.nx HBL) (Part.get hlt) ⟨by kernel_rfl, by kernel_rfl⟩) rfl) ?_
     iterate 5 refine e1 ?_
     refine q_x (o_append rfl ev ev hO (hPK.below HBL) (by rw [hn1]) rfl (by omega) HBL.size) (fun v_1 w_4 hR_2 => ?_)
     obtain ⟨A_2, c_2, rfl, ho_2, hb_2, hg_1, hat_1⟩ := hR_2
     have HB_2 : Below w.heap.size w w_4 := (HBL).trans hb_2
     iterate 4 refine e1 ?_
     refine q_w (o_add64 (n := 1) rfl ev rfl (by omega)) ?_
     refine e1 ?_
     refine x_nil ?_
     refine hK_18 _ _ _ ⟨K + 1, _, c_2, A_2, rfl, (psz hs_2), (pdf hd_2), ev, ev, ev, ev, (by omega), (by rw [joinP, List.length_append, hn1]), ho_2, HB_2⟩ ?_
     omega
    ·simp only [DD9] at h_3
     obtain rfl : K = ps.length := by omega
     iterate 12 refine e1 ?_
     exact ⟨_, _, by rw [hn1], hO, HBL⟩
theorem Concat2 (w : World) (hB : Blk w gs #[.slice A1 n1 c1, .slice A2 n2 c2] 22) (h1 : Bs w A1 c1 x1) (e1 : x1.length = n1) (h2 : Bs w A2 c2 x2) (e2 : x2.length = n2) (hl : n1 + n2 ≤ 70368744177664) :
  Calls Tryz.prog 50 #[.slice (some ⟨gs, 0, none⟩) 2 2] w fun e w' => ∃ A c, e = .returned (.slice A (n1 + n2) c) ∧ Own w' w.heap.size A c (x1 ++ x2) ∧ Below w.heap.size w w' := by
 subst e1 e2
 have hj : joinP [⟨A1, c1, x1⟩, ⟨A2, c2, x2⟩] 2 = x1 ++ x2 := by simp [joinP, Part.at]
 have h := Concat_any (ps := [⟨A1, c1, x1⟩, ⟨A2, c2, x2⟩]) (gs := gs) w hB (by intro p hp; simp only [List.mem_cons, List.not_mem_nil, or_false] at hp; rcases hp with rfl | rfl <;> assumption) (by show (joinP _ 2).length ≤ _; rw [hj]; simp only [List.length_append]; omega) (by simp)
 have hlen : (joinP [⟨A1, c1, x1⟩, ⟨A2, c2, x2⟩] 2).length = x1.length + x2.length := by rw [hj]; simp only [List.length_append]
 simp only [List.length_cons, List.length_nil, Nat.zero_add, Nat.reduceAdd] at h
 rw [hlen, hj] at h
 exact h
theorem Concat3 (w : World) (hB : Blk w gs #[.slice A1 n1 c1, .slice A2 n2 c2, .slice A3 n3 c3] 22) (h1 : Bs w A1 c1 x1) (e1 : x1.length = n1) (h2 : Bs w A2 c2 x2) (e2 : x2.length = n2) (h3 : Bs w A3 c3 x3) (e3 : x3.length = n3) (hl : n1 + n2 + n3 ≤ 70368744177664) :
  Calls Tryz.prog 50 #[.slice (some ⟨gs, 0, none⟩) 3 3] w fun e w' => ∃ A c, e = .returned (.slice A (n1 + n2 + n3) c) ∧ Own w' w.heap.size A c (x1 ++ x2 ++ x3) ∧ Below w.heap.size w w' := by
 subst e1 e2 e3
 have hj : joinP [⟨A1, c1, x1⟩, ⟨A2, c2, x2⟩, ⟨A3, c3, x3⟩] 3 = x1 ++ x2 ++ x3 := by simp [joinP, Part.at]
 have h := Concat_any (ps := [⟨A1, c1, x1⟩, ⟨A2, c2, x2⟩, ⟨A3, c3, x3⟩]) (gs := gs) w hB (by intro p hp; simp only [List.mem_cons, List.not_mem_nil, or_false] at hp; rcases hp with rfl | rfl | rfl <;> assumption) (by show (joinP _ 3).length ≤ _; rw [hj]; simp only [List.length_append]; omega) (by simp)
 have hlen : (joinP [⟨A1, c1, x1⟩, ⟨A2, c2, x2⟩, ⟨A3, c3, x3⟩] 3).length = x1.length + x2.length + x3.length := by rw [hj]; simp only [List.length_append]
 simp only [List.length_cons, List.length_nil, Nat.zero_add, Nat.reduceAdd] at h
 rw [hlen, hj] at h
 exact h
theorem Concat4 {A4 : Option Addr} {c4 n4 : Nat} {x4 : List Nat} (w : World) (hB : Blk w gs #[.slice A1 n1 c1, .slice A2 n2 c2, .slice A3 n3 c3, .slice A4 n4 c4] 22) (h1 : Bs w A1 c1 x1) (e1 : x1.length = n1) (h2 : Bs w A2 c2 x2) (e2 : x2.length = n2) (h3 : Bs w A3 c3 x3) (e3 : x3.length = n3) (h4 : Bs w A4 c4 x4) (e4 : x4.length = n4) (hl : n1 + n2 + n3 + n4 ≤ 70368744177664) :
  Calls Tryz.prog 50 #[.slice (some ⟨gs, 0, none⟩) 4 4] w fun e w' => ∃ A c, e = .returned (.slice A (n1 + n2 + n3 + n4) c) ∧ Own w' w.heap.size A c (x1 ++ x2 ++ x3 ++ x4) ∧ Below w.heap.size w w' := by
 subst e1 e2 e3 e4
 have hj : joinP [⟨A1, c1, x1⟩, ⟨A2, c2, x2⟩, ⟨A3, c3, x3⟩, ⟨A4, c4, x4⟩] 4 = x1 ++ x2 ++ x3 ++ x4 := by simp [joinP, Part.at]
 have h := Concat_any (ps := [⟨A1, c1, x1⟩, ⟨A2, c2, x2⟩, ⟨A3, c3, x3⟩, ⟨A4, c4, x4⟩]) (gs := gs) w hB (by intro p hp; simp only [List.mem_cons, List.not_mem_nil, or_false] at hp; rcases hp with rfl | rfl | rfl | rfl <;> assumption) (by show (joinP _ 4).length ≤ _; rw [hj]; simp only [List.length_append]; omega) (by simp)
 have hlen : (joinP [⟨A1, c1, x1⟩, ⟨A2, c2, x2⟩, ⟨A3, c3, x3⟩, ⟨A4, c4, x4⟩] 4).length = x1.length + x2.length + x3.length + x4.length := by rw [hj]; simp only [List.length_append]
 simp only [List.length_cons, List.length_nil, Nat.zero_add, Nat.reduceAdd] at h
 rw [hlen, hj] at h
 exact h
end Go.Proofs.YtkhbihnnkflfkaaGreat
