/-
 WALKS: sapperlaw9: bytes, changed.
-/
import Derived.Test.YtggalcdkfielkaaNoKey
import Derived.Test.YtggalcdkfielkaaRow
namespace Go.Proofs.Ytggalcdkfielkaa
open Go.RowKit
set_option linter.unusedVariables false
set_option linter.unusedSimpArgs false
set_option maxRecDepth 100000
attribute [local irreducible] wpList wpListIn putsR

theorem lbytes32 {A : Option Addr} {c m : Nat} {xs : List Nat} (w : World) (ha : Bs w A c xs) (hm : xs.length = m) :
  Calls Try.prog 6 #[.slice A (m) (c), .int .i64 ((32 : Nat) : Int)] w fun e w' => ∃ A c, e = .returned (.slice A 32 c) ∧ Own w' w.heap.size A c (padTo 32 xs) ∧ Below w.heap.size w w' := by
 refine x_enter 12 Try.func6 rfl rfl (fun a hs hd ha0 => ?_)
 have t0 : a.eval (.tmp 0) = .slice A (m) (c) := ha0 0 _ rfl
 have t1 : a.eval (.tmp 1) = .int .i64 ((32 : Nat) : Int) := ha0 1 _ rfl
 clear ha0
 refine w2_sr (fun K_1 hK_1 => ?_)
 refine q_as (.slice none (0) (0)) rfl ?_
 refine x_nil (hK_1 _ _ ?_)
 refine w2_sr (fun K_2 hK_2 => ?_)
 refine q_mv (v := .int .i64 ((32 : Nat) : Int)) ((pm rfl).trans t1) ?_
 refine op_ex (d := 7) rfl rfl (o_make (n := 32) rfl (pe hs rfl rfl) (pe hs rfl rfl) (fun _ => by kernel_rfl) (by omega)) (fun v_1 w_1 hR_1 => ?_)
 obtain ⟨g_1, rfl, ho_1, hb_1⟩ := hR_1
 refine q_at (pe hs rfl rfl) ?_
 refine x_nil (hK_2 _ _ ?_)
 refine w2_sr (fun K_3 hK_3 => ?_)
 refine q_mv (pe hs rfl rfl) ?_
 refine q_mv ((pm rfl).trans t0) ?_
 refine op_ex (d := 10) rfl rfl (o_copy rfl (pe hs rfl rfl) (pe hs rfl rfl) ho_1 (ha.below hb_1) hm (by omega) (by omega)) (fun v_2 w_2 hR_2 => ?_)
 obtain ⟨r_1, rfl, ho_2, hb_2⟩ := hR_2
 have HB_1 := hb_1.trans hb_2
 refine x_nil (hK_3 _ _ ?_)
 refine w2_sr (fun K_4 hK_4 => ?_)
 refine q_mv (pe hs rfl rfl) ?_
 refine q_at (pe hs rfl rfl) ?_
 refine x_nil (hK_4 _ _ ?_)
 refine w2_ret ?_
 refine ret1 rfl hd (pe hs rfl rfl) ?_
 exact ⟨_, _, rfl, ho_2, HB_1⟩
theorem lbytes12 {A : Option Addr} {c m : Nat} {xs : List Nat} (w : World) (ha : Bs w A c xs) (hm : xs.length = m) :
  Calls Try.prog 6 #[.slice A (m) (c), .int .i64 ((12 : Nat) : Int)] w fun e w' => ∃ A c, e = .returned (.slice A 12 c) ∧ Own w' w.heap.size A c (padTo 12 xs) ∧ Below w.heap.size w w' := by
 refine x_enter 12 Try.func6 rfl rfl (fun a hs hd ha0 => ?_)
 have t0 : a.eval (.tmp 0) = .slice A (m) (c) := ha0 0 _ rfl
 have t1 : a.eval (.tmp 1) = .int .i64 ((12 : Nat) : Int) := ha0 1 _ rfl
 clear ha0
 refine w2_sr (fun K_1 hK_1 => ?_)
 refine q_as (.slice none (0) (0)) rfl ?_
 refine x_nil (hK_1 _ _ ?_)
 refine w2_sr (fun K_2 hK_2 => ?_)
 refine q_mv (v := .int .i64 ((12 : Nat) : Int)) ((pm rfl).trans t1) ?_
 refine op_ex (d := 7) rfl rfl (o_make (n := 12) rfl (pe hs rfl rfl) (pe hs rfl rfl) (fun _ => by kernel_rfl) (by omega)) (fun v_1 w_1 hR_1 => ?_)
 obtain ⟨g_1, rfl, ho_1, hb_1⟩ := hR_1
 refine q_at (pe hs rfl rfl) ?_
 refine x_nil (hK_2 _ _ ?_)
 refine w2_sr (fun K_3 hK_3 => ?_)
 refine q_mv (pe hs rfl rfl) ?_
 refine q_mv ((pm rfl).trans t0) ?_
 refine op_ex (d := 10) rfl rfl (o_copy rfl (pe hs rfl rfl) (pe hs rfl rfl) ho_1 (ha.below hb_1) hm (by omega) (by omega)) (fun v_2 w_2 hR_2 => ?_)
 obtain ⟨r_1, rfl, ho_2, hb_2⟩ := hR_2
 have HB_1 := hb_1.trans hb_2
 refine x_nil (hK_3 _ _ ?_)
 refine w2_sr (fun K_4 hK_4 => ?_)
 refine q_mv (pe hs rfl rfl) ?_
 refine q_at (pe hs rfl rfl) ?_
 refine x_nil (hK_4 _ _ ?_)
 refine w2_ret ?_
 refine ret1 rfl hd (pe hs rfl rfl) ?_
 exact ⟨_, _, rfl, ho_2, HB_1⟩
theorem getD8 {xs : List Nat} (h : ∀ x ∈ xs, x < 256) (i : Nat) : xs.getD i 0 < 256 := by
 rw [List.getD_eq_getElem?_getD]
 by_cases hi : i < xs.length
 ·rw [List.getElem?_eq_getElem hi]; exact h _ (List.getElem_mem hi)
 ·rw [List.getElem?_eq_none (by omega)]; decide
/-- Bytes, of which one is changed. -/
def chgL (bs : List Nat) (i x : Nat) : List Nat := if bs.length = 0 then bs else bs.set (i % bs.length) (bs.getD (i % bs.length) 0 ^^^ x)
theorem chgL_length (bs : List Nat) (i x : Nat) : (chgL bs i x).length = bs.length := by
 unfold chgL
 split
 ·rfl
 ·rw [List.length_set]
theorem changed0 {A : Option Addr} {c q : Nat} {bs : List Nat} (z : Int) (x : Nat) (hx : x < 256) (w : World) (ha : Bs w A c bs) (hq : bs.length = q) (hl : q ≤ 70368744177664) (h0 : q = 0) :
  Calls Try.prog 11 #[.slice A (q) (c), .int .i64 (z), .int .u8 ((x : Nat) : Int)] w fun e w' => ∃ A c, e = .returned (.slice A q c) ∧ Own w' w.heap.size A c (chgL bs (at64 z) x) ∧ Below w.heap.size w w' := by
 refine x_enter 28 Try.func11 rfl rfl (fun a hs hd ha0 => ?_)
 have t0 : a.eval (.tmp 0) = .slice A (q) (c) := ha0 0 _ rfl
 clear ha0
 refine w2_sr (fun K_1 hK_1 => ?_)
 refine q_as (.slice none (0) (0)) rfl ?_
 refine x_nil (hK_1 _ _ ?_)
 refine w2_sr (fun K_2 hK_2 => ?_)
 refine op_ex (d := 8) rfl rfl (o_build0  rfl  ) (fun v_1 w_1 hR_1 => ?_)
 obtain ⟨g_1, rfl, ho_1, hb_1⟩ := hR_1
 refine q_mv ((pm rfl).trans t0) ?_
 refine op_ex (d := 10) rfl rfl (o_append rfl (pe hs rfl rfl) (pe hs rfl rfl) ho_1 (ha.below hb_1) (by rw [List.length_nil]) hq (by omega) hb_1.size) (fun v_2 w_2 hR_2 => ?_)
 obtain ⟨A_1, c_1, rfl, ho_2, hb_2, hg_1, hat_1⟩ := hR_2
 have HB_1 : Below w.heap.size w w_2 := (hb_1).trans hb_2
 clear hg_1 hat_1 ho_1
 refine q_at (pe hs rfl rfl) ?_
 refine x_nil (hK_2 _ _ ?_)
 refine w2_seq (fun K_3 hK_3 => ?_)
 refine w2_sr (fun K_4 hK_4 => ?_)
 refine q_mv (pe hs rfl rfl) ?_
 refine q_v 12 (.int .i64 ((0 + q : Nat) : Int)) (o_len rfl (pe hs rfl rfl)) ?_
 refine q_v 13 (.bool (false)) (o_eq (o_gtr (m := (0 + q)) (n := 0) rfl (pe hs rfl rfl) rfl) (by rw [decide_eq_false (by omega)])) ?_
 refine x_nil (hK_4 _ _ ?_)
 refine w2_condF (pe hs rfl rfl) ?_
 refine w2_skip ?_
 refine hK_3 _ _ ?_
 refine w2_sr (fun K_5 hK_5 => ?_)
 refine q_mv (pe hs rfl rfl) ?_
 refine q_at (pe hs rfl rfl) ?_
 refine x_nil (hK_5 _ _ ?_)
 refine w2_ret ?_
 refine ret1 rfl hd (pe hs rfl rfl) ?_
 exact ⟨_, _, by rw [Nat.zero_add], by (have h9 := ho_2; rw [List.nil_append] at h9; unfold chgL; rw [if_pos (by omega)]; exact h9), HB_1⟩
theorem changed1 {A : Option Addr} {c q : Nat} {bs : List Nat} (z : Int) (x : Nat) (hx : x < 256) (w : World) (ha : Bs w A c bs) (hq : bs.length = q) (hl : q ≤ 70368744177664) (h0 : 0 < q) :
  Calls Try.prog 11 #[.slice A (q) (c), .int .i64 (z), .int .u8 ((x : Nat) : Int)] w fun e w' => ∃ A c, e = .returned (.slice A q c) ∧ Own w' w.heap.size A c (chgL bs (at64 z) x) ∧ Below w.heap.size w w' := by
 refine x_enter 28 Try.func11 rfl rfl (fun a hs hd ha0 => ?_)
 have t0 : a.eval (.tmp 0) = .slice A (q) (c) := ha0 0 _ rfl
 have t1 : a.eval (.tmp 1) = .int .i64 (z) := ha0 1 _ rfl
 have t2 : a.eval (.tmp 2) = .int .u8 ((x : Nat) : Int) := ha0 2 _ rfl
 clear ha0
 refine w2_sr (fun K_1 hK_1 => ?_)
 refine q_as (.slice none (0) (0)) rfl ?_
 refine x_nil (hK_1 _ _ ?_)
 refine w2_sr (fun K_2 hK_2 => ?_)
 refine op_ex (d := 8) rfl rfl (o_build0  rfl  ) (fun v_1 w_1 hR_1 => ?_)
 obtain ⟨g_1, rfl, ho_1, hb_1⟩ := hR_1
 refine q_mv ((pm rfl).trans t0) ?_
 refine op_ex (d := 10) rfl rfl (o_append rfl (pe hs rfl rfl) (pe hs rfl rfl) ho_1 (ha.below hb_1) (by rw [List.length_nil]) hq (by omega) hb_1.size) (fun v_2 w_2 hR_2 => ?_)
 obtain ⟨A_1, c_1, rfl, ho_2, hb_2, hg_1, hat_1⟩ := hR_2
 have HB_1 : Below w.heap.size w w_2 := (hb_1).trans hb_2
 clear hg_1 hat_1 ho_1
 refine q_at (pe hs rfl rfl) ?_
 refine x_nil (hK_2 _ _ ?_)
 refine w2_seq (fun K_3 hK_3 => ?_)
 refine w2_sr (fun K_4 hK_4 => ?_)
 refine q_mv (pe hs rfl rfl) ?_
 refine q_v 12 (.int .i64 ((0 + q : Nat) : Int)) (o_len rfl (pe hs rfl rfl)) ?_
 refine q_v 13 (.bool (true)) (o_eq (o_gtr (m := (0 + q)) (n := 0) rfl (pe hs rfl rfl) rfl) (by rw [decide_eq_true (by omega)])) ?_
 refine x_nil (hK_4 _ _ ?_)
 refine w2_condT (pe hs rfl rfl) ?_
 have b1 := getD8 ha.b8 (at64 z % q)
 have hz := at64_lt z
 have hml : at64 z % q < q := Nat.mod_lt _ h0
 have hO_1 : Own w_2 w.heap.size A_1 c_1 bs := by (have h9 := ho_2; rw [List.nil_append] at h9; exact h9)
 refine x_region (by kernel_rfl) ?_
 refine q_mv (pe hs rfl rfl) ?_
 refine q_mv ((pm rfl).trans t1) ?_
 refine q_v 16 (.int .u64 ((at64 z : Nat) : Int)) (o_convZ rfl (pe hs rfl rfl) ⟨.int .i64, fun _ => by kernel_rfl⟩ (fun _ => by kernel_rfl)) ?_
 refine q_mv (pe hs rfl rfl) ?_
 refine q_v 18 (.int .i64 ((0 + q : Nat) : Int)) (o_len rfl (pe hs rfl rfl)) ?_
 refine q_v 19 (.int .u64 ((q : Nat) : Int)) (o_eq (o_conv (m := (0 + q)) (r := (0 + q) % 18446744073709551616) rfl (pe hs rfl rfl) ⟨.int .i64, fun _ => by kernel_rfl⟩ (fun _ => by kernel_rfl) (by rw [IntKind.wrap_u64]; omega)) (congrArg (fun n : Nat => Value.int .u64 ((n : Nat) : Int)) (by omega))) ?_
 refine q_v 20 (.int .u64 ((at64 z % q : Nat) : Int)) (o_eq (o_rem (m := (at64 z)) (n := q) rfl (pe hs rfl rfl) (pe hs rfl rfl) (by omega) (by rw [IntKind.wrap_u64]; omega)) rfl) ?_
 refine q_v 21 (.int .i64 ((at64 z % q : Nat) : Int)) (o_conv (m := (at64 z % q)) (r := at64 z % q) rfl (pe hs rfl rfl) ⟨.int .u64, fun _ => by kernel_rfl⟩ (fun _ => by kernel_rfl) (IntWalk.i64_in _ (by omega))) ?_
 refine q_v 22 (.pointer (atA A_1 (at64 z % q))) (o_ix (k := at64 z % q) rfl (pe hs rfl rfl) (pe hs rfl rfl) (by omega) ((hO_1).bs.some (by rw [hq]; exact h0))) ?_
 refine q_v 23 (.int .u8 (((bs).getD (at64 z % q) 0 : Nat) : Int)) (o_ld8 rfl (pe hs rfl rfl) (hO_1).bs (by rw [hq]; exact hml) rfl) ?_
 refine q_mv ((pm rfl).trans t2) ?_
 refine q_v 25 (.int .u8 ((((bs).getD (at64 z % q) 0) ^^^ x : Nat) : Int)) (o_bits (m := ((bs).getD (at64 z % q) 0)) (n := x) (((bs).getD (at64 z % q) 0) ^^^ x) rfl (pe hs rfl rfl) (pe hs rfl rfl) (by decide) (u8_xor_nat _ _ (by omega) (by omega))) ?_
 refine q_v 26 (.pointer (atA A_1 (at64 z % q))) (o_ix (k := at64 z % q) rfl (pe hs rfl rfl) (pe hs rfl rfl) (by omega) ((hO_1).bs.some (by rw [hq]; exact h0))) ?_
 refine op_do rfl rfl (o_st8 rfl (pe hs rfl rfl) (pe hs rfl rfl) hO_1 (by rw [hq]; exact hml) (Nat.xor_lt_two_pow (n := 8) b1 hx) ⟨by kernel_rfl, by kernel_rfl⟩) (fun w_3 hR_3 => ?_)
 obtain ⟨ho_3, hb_3⟩ := hR_3
 have HB_2 := HB_1.trans hb_3
 refine x_nil (hK_3 _ _ ?_)
 refine w2_sr (fun K_5 hK_5 => ?_)
 refine q_mv (pe hs rfl rfl) ?_
 refine q_at (pe hs rfl rfl) ?_
 refine x_nil (hK_5 _ _ ?_)
 refine w2_ret ?_
 refine ret1 rfl hd (pe hs rfl rfl) ?_
 exact ⟨_, _, by rw [Nat.zero_add], by (unfold chgL; rw [if_neg (by omega), hq]; exact ho_3), HB_2⟩
theorem changed_any {A : Option Addr} {c q : Nat} {bs : List Nat} (z : Int) (x : Nat) (hx : x < 256) (w : World) (ha : Bs w A c bs) (hq : bs.length = q) (hl : q ≤ 70368744177664) :
  Calls Try.prog 11 #[.slice A (q) (c), .int .i64 (z), .int .u8 ((x : Nat) : Int)] w fun e w' => ∃ A c, e = .returned (.slice A q c) ∧ Own w' w.heap.size A c (chgL bs (at64 z) x) ∧ Below w.heap.size w w' := by
 by_cases h0 : q = 0
 ·exact changed0 z x hx w ha hq hl h0
 ·exact changed1 z x hx w ha hq hl (by omega)
end Go.Proofs.Ytggalcdkfielkaa
