/-
 Pad · Rec · Wrap, IN ONE TEXT.
-/
import Derived.Test.YtggalcdkfielkaaOpsM
import Derived.Test.YtggalcdkfielkaaAeadMath
import Derived.Test.YtggalcdkfielkaaMem9
/-
 WALKS: package pad.
-/
namespace Go.Proofs.Ytggalcdkfielkaa
open Go.RowKit
set_option linter.unusedVariables false
set_option linter.unusedSimpArgs false
set_option maxRecDepth 100000
attribute [local irreducible] wpList wpListIn putsR

/-- The size that a body of so many bytes is filled up to: how often 64 is doubled. -/
def padK (n : Nat) : Nat := if n + 2 ≤ 64 then 0 else if n + 2 ≤ 128 then 1 else if n + 2 ≤ 256 then 2 else if n + 2 ≤ 512 then 3 else if n + 2 ≤ 1024 then 4 else if n + 2 ≤ 2048 then 5 else if n + 2 ≤ 4096 then 6 else 7
theorem padK_fit (n : Nat) (hn : n ≤ 4096) : n + 2 ≤ 64 * 2 ^ padK n := by
 unfold padK
 repeat' split
 all_goals omega
theorem padK_le (n : Nat) : padK n ≤ 7 := by
 unfold padK
 repeat' split
 all_goals omega
theorem padK_min (n K : Nat) (h : K < padK n) : 64 * 2 ^ K < n + 2 := by
 have h7 := padK_le n
 have hK : K = 0 ∨ K = 1 ∨ K = 2 ∨ K = 3 ∨ K = 4 ∨ K = 5 ∨ K = 6 := by omega
 unfold padK at h
 rcases hK with rfl | rfl | rfl | rfl | rfl | rfl | rfl <;> (repeat' split at h) <;> omega
theorem padK_lt (n K : Nat) (hn : n ≤ 4096) (hK : K ≤ padK n) (h : 64 * 2 ^ K < n + 2) : K < padK n ∧ 64 * 2 ^ K ≤ 8192 := by
 have h1 := padK_fit n hn
 refine ⟨?_, by omega⟩
 rcases Nat.lt_or_ge K (padK n) with h2 | h2
 ·exact h2
 ·obtain rfl : K = padK n := by omega
  omega
def sizeN (n : Nat) : Nat := if 4096 < n then 0 else 64 * 2 ^ padK n
theorem Size_le (n : Nat) (w : World) (hn : n ≤ 4096) :
  Calls Try.prog 64 #[.int .i64 ((n : Nat) : Int)] w fun e w' => e = .returned (.int .i64 ((sizeN n : Nat) : Int)) ∧ w = w' := by
 refine x_enter 17 Try.func64 rfl rfl (fun a hs hd ha0 => ?_)
 have t0 : a.eval (.tmp 0) = .int .i64 ((n : Nat) : Int) := ha0 0 _ rfl
 clear ha0
 refine w2_sr (fun K_1 hK_1 => ?_)
 refine q_as (.int .i64 ((0 : Nat) : Int)) rfl ?_
 refine x_nil (hK_1 _ _ ?_)
 refine w2_seq (fun K_2 hK_2 => ?_)
 refine w2_sr (fun K_3 hK_3 => ?_)
 refine q_mv ((pm rfl).trans t0) ?_
 refine q_v 5 (.bool (false)) (o_eq (o_lss (m := n) (n := 0) rfl (pe hs rfl rfl) rfl) (by rw [decide_eq_false (by omega)])) ?_
 refine q_mv (pe hs rfl rfl) ?_
 refine op_valG (e := 6) (d := 7) (v := .int .i64 ((n : Nat) : Int)) rfl rfl (by kernel_rfl) (pe hs rfl rfl) (o_move rfl ((pm rfl).trans t0)) ?_
 refine op_valG (e := 6) (d := 8) (v := .bool (false)) rfl rfl (by kernel_rfl) (pe hs rfl rfl) (o_eq (o_gtr (m := n) (n := 4096) rfl (pe hs rfl rfl) rfl) (by rw [decide_eq_false (by omega)])) ?_
 refine q_v 9 (.bool (false)) (o_pickF rfl (pe hs rfl rfl) (pe hs rfl rfl)) ?_
 refine x_nil (hK_3 _ _ ?_)
 refine w2_condF (pe hs rfl rfl) ?_
 refine w2_skip ?_
 refine hK_2 _ _ ?_
 refine w2_sr (fun K_4 hK_4 => ?_)
 refine q_as (.int .i64 ((64 : Nat) : Int)) rfl ?_
 refine x_nil (hK_4 _ _ ?_)
 refine w2_seq (fun K_5 hK_5 => ?_)
 refine w2_block (fun K_6 hK_6 => ?_)
 refine x_loop (fun nn aa ww => ∃ (K : Nat), nn = padK n - K ∧ aa.tmps.size = 17 ∧ aa.defers = [] ∧ aa.eval (.tmp 0) = .int .i64 ((n : Nat) : Int) ∧ aa.eval (.tmp 2) = .int .i64 ((0 : Nat) : Int) ∧ aa.eval (.tmp 3) = .int .i64 ((64 * 2 ^ K : Nat) : Int) ∧ aa.eval (.tmp 4) = .int .i64 ((n : Nat) : Int) ∧ aa.eval (.tmp 5) = .bool (false) ∧ aa.eval (.tmp 6) = .bool (false) ∧ aa.eval (.tmp 7) = .int .i64 ((n : Nat) : Int) ∧ aa.eval (.tmp 8) = .bool (false) ∧ aa.eval (.tmp 9) = .bool (false) ∧ K ≤ padK n ∧ w = ww) (padK n - 0) ?_ ?_
 ·exact ⟨0, rfl, (by rw [putsR_size]; exact hs), (by rw [putsR_defers]; exact hd), ((pm rfl).trans t0), (pe hs rfl rfl), (pe hs rfl rfl), (pe hs rfl rfl), (pe hs rfl rfl), (pe hs rfl rfl), (pe hs rfl rfl), (pe hs rfl rfl), (pe hs rfl rfl), Nat.zero_le _, rfl⟩
 ·skip
  clear t0 hd
  rintro nna_1 a_1 w_1 ⟨K, hm_1, hs_1, hd_1, ta_1_0, ta_1_2, ta_1_3, ta_1_4, ta_1_5, ta_1_6, ta_1_7, ta_1_8, ta_1_9, hK, hW⟩ K_7 hK_7
  subst hm_1
  refine w2_seq (fun K_8 hK_8 => ?_)
  refine w2_sr (fun K_9 hK_9 => ?_)
  refine q_mv ((pm rfl).trans ta_1_3) ?_
  refine q_mv ((pm rfl).trans ta_1_0) ?_
  refine q_v 12 (.int .i64 ((n + 2 : Nat) : Int)) (o_add64 (m := n) (n := 2) rfl (pe hs_1 rfl rfl) rfl (by omega)) ?_
  refine q_v 13 (.bool (decide ((64 * 2 ^ K) < (n + 2)))) (o_lss (m := (64 * 2 ^ K)) (n := (n + 2)) rfl (pe hs_1 rfl rfl) (pe hs_1 rfl rfl)) ?_
  refine x_nil (hK_9 _ _ ?_)
  refine w2_split (pe hs_1 rfl rfl) (fun h_1 => ?_) (fun h_1 => ?_)
  ·simp only [DD9] at h_1
   have hlt : 64 * 2 ^ K < n + 2 := h_1
   obtain ⟨hk, hk2⟩ := padK_lt n K hn hK hlt
   refine w2_skip ?_
   refine hK_8 _ _ ?_
   refine w2_block (fun K_10 hK_10 => ?_)
   refine x_region (by kernel_rfl) ?_
   refine q_mv ((pm rfl).trans ta_1_3) ?_
   refine q_v 15 (.int .i64 ((64 * 2 ^ (K + 1) : Nat) : Int)) (o_eq (o_mul64 (m := (64 * 2 ^ K)) (n := 2) rfl (pe hs_1 rfl rfl) rfl (by omega)) (by rw [Nat.pow_succ, Nat.mul_assoc])) ?_
   refine q_at (pe hs_1 rfl rfl) ?_
   refine x_nil (hK_10 _ _ ?_)
   refine hK_7 _ _ _ ⟨K + 1, rfl, (by rw [putsR_size]; exact hs_1), (by rw [putsR_defers]; exact hd_1), ((pm rfl).trans ta_1_0), ((pm rfl).trans ta_1_2), (pe hs_1 rfl rfl), ((pm rfl).trans ta_1_4), ((pm rfl).trans ta_1_5), ((pm rfl).trans ta_1_6), ((pm rfl).trans ta_1_7), ((pm rfl).trans ta_1_8), ((pm rfl).trans ta_1_9), (by omega), hW⟩ ?_
   omega
  ·simp only [DD9] at h_1
   have hge : n + 2 ≤ 64 * 2 ^ K := h_1
   have hKe : K = padK n := by rcases Nat.lt_or_ge K (padK n) with h9 | h9; (have := padK_min n K h9; omega); omega
   refine w2_exit ?_
   refine thn_exit ?_
   refine thn_exit ?_
   refine exb_hit ?_
   refine hK_6 _ _ ?_
   refine hK_5 _ _ ?_
   refine w2_sr (fun K_11 hK_11 => ?_)
   refine q_mv ((pm rfl).trans ta_1_3) ?_
   refine q_at (pe hs_1 rfl rfl) ?_
   refine x_nil (hK_11 _ _ ?_)
   refine w2_ret ?_
   refine ret1 rfl hd_1 (pe hs_1 rfl rfl) ?_
   exact ⟨by unfold sizeN; rw [if_neg (by omega), hKe], hW⟩
theorem Size_gt (n : Nat) (w : World) (hn : 4096 < n) :
  Calls Try.prog 64 #[.int .i64 ((n : Nat) : Int)] w fun e w' => e = .returned (.int .i64 0) ∧ w = w' := by
 refine x_enter 17 Try.func64 rfl rfl (fun a hs hd ha0 => ?_)
 have t0 : a.eval (.tmp 0) = .int .i64 ((n : Nat) : Int) := ha0 0 _ rfl
 clear ha0
 refine w2_sr (fun K_1 hK_1 => ?_)
 refine q_as (.int .i64 ((0 : Nat) : Int)) rfl ?_
 refine x_nil (hK_1 _ _ ?_)
 refine w2_seq (fun K_2 hK_2 => ?_)
 refine w2_sr (fun K_3 hK_3 => ?_)
 refine q_mv ((pm rfl).trans t0) ?_
 refine q_v 5 (.bool (false)) (o_eq (o_lss (m := n) (n := 0) rfl (pe hs rfl rfl) rfl) (by rw [decide_eq_false (by omega)])) ?_
 refine q_mv (pe hs rfl rfl) ?_
 refine op_valG (e := 6) (d := 7) (v := .int .i64 ((n : Nat) : Int)) rfl rfl (by kernel_rfl) (pe hs rfl rfl) (o_move rfl ((pm rfl).trans t0)) ?_
 refine op_valG (e := 6) (d := 8) (v := .bool (true)) rfl rfl (by kernel_rfl) (pe hs rfl rfl) (o_eq (o_gtr (m := n) (n := 4096) rfl (pe hs rfl rfl) rfl) (by rw [decide_eq_true hn])) ?_
 refine q_v 9 (.bool (true)) (o_pickF rfl (pe hs rfl rfl) (pe hs rfl rfl)) ?_
 refine x_nil (hK_3 _ _ ?_)
 refine w2_condT (pe hs rfl rfl) ?_
 refine w2_sr (fun K_4 hK_4 => ?_)
 refine q_as (.int .i64 ((0 : Nat) : Int)) rfl ?_
 refine x_nil (hK_4 _ _ ?_)
 refine w2_ret ?_
 refine thn_ret ?_
 refine ret1 rfl hd (pe hs rfl rfl) ?_
 exact ⟨rfl, rfl⟩
theorem Size_any (n : Nat) (w : World) : Calls Try.prog 64 #[.int .i64 (n : Int)] w fun e w' => e = .returned (.int .i64 ((sizeN n : Nat) : Int)) ∧ w = w' := by
 by_cases h : 4096 < n
 ·have h1 := Size_gt n w h
  unfold sizeN
  rw [if_pos h]
  exact h1
 ·exact Size_le n w (by omega)
end Go.Proofs.Ytggalcdkfielkaa
/-
 RECORDS, PLAINLY: what a writer writes, what a reader reads of it; no program in sight.
-/
namespace Go.Proofs.Ytggalcdkfielkaa
open Go.RowKit
set_option linter.unusedVariables false
set_option linter.unusedSimpArgs false
set_option maxRecDepth 100000

/-! Padding. -/
def lenL (n : Nat) : List Nat := [n / 256 % 256, n % 256]
def wrapL (b : List Nat) : List Nat := lenL b.length ++ b ++ List.replicate (sizeN b.length - 2 - b.length) 0
/-- The number that the first two bytes are. -/
def lenOf (x : List Nat) : Nat := x.getD 0 0 * 256 + x.getD 1 0
def unwrapL (x : List Nat) : Option (List Nat) :=
 if x.length < 2 then none else if x.length ≠ sizeN (lenOf x) then none else if (x.drop (2 + lenOf x)).all (fun v => v == 0) = true then some ((x.drop 2).take (lenOf x)) else none
theorem lenL_length (n : Nat) : (lenL n).length = 2 := rfl
theorem lenOf_lenL (n : Nat) (h : n < 65536) (ys : List Nat) : lenOf (lenL n ++ ys) = n := by
 unfold lenOf lenL
 simp
 omega
theorem sizeN_le {n : Nat} (h : n ≤ 4096) : sizeN n = 64 * 2 ^ padK n := by unfold sizeN; rw [if_neg (by omega)]
theorem sizeN_fit {n : Nat} (h : n ≤ 4096) : n + 2 ≤ sizeN n := by rw [sizeN_le h]; exact padK_fit n h
theorem sizeN_top (n : Nat) : sizeN n ≤ 8192 := by
 unfold sizeN
 split
 ·omega
 ·have h := padK_le n
  have h2 : 2 ^ padK n ≤ 2 ^ 7 := Nat.pow_le_pow_right (by omega) h
  omega
theorem sizeN_pos {n : Nat} (h : n ≤ 4096) : 64 ≤ sizeN n := by
 rw [sizeN_le h]
 have : 0 < 2 ^ padK n := Nat.two_pow_pos _
 omega
theorem sizeN_fix {n : Nat} (h : n ≤ 4096) : sizeN (sizeN n / 2 - 1) = sizeN n := by
 rw [sizeN_le h]
 have h7 := padK_le n
 generalize padK n = K at h7
 have hK : K = 0 ∨ K = 1 ∨ K = 2 ∨ K = 3 ∨ K = 4 ∨ K = 5 ∨ K = 6 ∨ K = 7 := by omega
 rcases hK with rfl | rfl | rfl | rfl | rfl | rfl | rfl | rfl <;> rfl
theorem wrapL_length {b : List Nat} (h : b.length ≤ 4096) : (wrapL b).length = sizeN b.length := by
 have := sizeN_fit h
 unfold wrapL
 simp only [List.length_append, List.length_replicate, lenL_length]
 omega
theorem unwrapL_wrapL {b : List Nat} (h : b.length ≤ 4096) : unwrapL (wrapL b) = some b := by
 have h1 := sizeN_fit h
 have h2 : lenOf (wrapL b) = b.length := by unfold wrapL; rw [List.append_assoc]; exact lenOf_lenL _ (by omega) _
 unfold unwrapL
 rw [if_neg (by rw [wrapL_length h]; omega), h2, if_neg (by rw [wrapL_length h]; simp), if_pos]
 ·unfold wrapL
  rw [List.append_assoc, List.drop_left' (lenL_length _), List.take_left]
 ·unfold wrapL
  rw [List.drop_left' (by simp [lenL_length])]
  simp

/-! A cipher that counts. -/
structure Co where
 k : List Nat
 n : Nat
 every : Nat
 cnt : Nat
def Co.up (c : Co) (j : Nat) : Co := { c with n := c.n + j }
def Co.count (c : Co) : Co := { c with k := if (c.cnt + 1) % c.every = 0 then rekeyL c.k else c.k, cnt := c.cnt + 1 }
def Co.put (c : Co) : Co := (c.up 2).count
def headL (c : Co) (b : List Nat) : List Nat := sealL c.k (nonceL c.n) [] (lenL (sizeN b.length))
def bodyL (c : Co) (b : List Nat) : List Nat := sealL c.k (nonceL (c.n + 1)) [] (wrapL b)
def recL (c : Co) (b : List Nat) : List Nat := headL c b ++ bodyL c b
theorem headL_length (c : Co) (b : List Nat) : (headL c b).length = 18 := by unfold headL; rw [sealL_length]; rfl
theorem bodyL_length (c : Co) {b : List Nat} (h : b.length ≤ 4096) : (bodyL c b).length = sizeN b.length + 16 := by unfold bodyL; rw [sealL_length, wrapL_length h]
theorem recL_length (c : Co) {b : List Nat} (h : b.length ≤ 4096) : (recL c b).length = sizeN b.length + 34 := by unfold recL; rw [List.length_append, headL_length, bodyL_length c h]; omega
/-! A reader. -/
structure Rd where
 co : Co
 wait : List Nat
 body : Nat
 dead : Bool
/-- One step of a reader: what it is then, what went wrong, what it tells. -/
def stepR (r : Rd) : Option (Rd × Nat × List (List Nat)) :=
 if r.body = 0 then
  if r.wait.length < 18 then none
  else
   let o := openL r.co.k (nonceL r.co.n) [] (r.wait.take 18)
   if o.2 ≠ 0 then some ({ r with wait := r.wait.drop 18 }, o.2, [])
   else if lenOf o.1 ≠ sizeN (lenOf o.1 / 2 - 1) then some ({ r with wait := r.wait.drop 18, co := r.co.up 1 }, 3, [])
   else some ({ r with wait := r.wait.drop 18, co := r.co.up 1, body := lenOf o.1 + 16 }, 0, [])
 else
  if r.wait.length < r.body then none
  else
   let o := openL r.co.k (nonceL r.co.n) [] (r.wait.take r.body)
   if o.2 ≠ 0 then some ({ r with wait := r.wait.drop r.body }, o.2, [])
   else match unwrapL o.1 with
    | none => some ({ r with wait := r.wait.drop r.body, co := r.co.up 1 }, 3, [])
    | some b => some ({ r with wait := r.wait.drop r.body, co := (r.co.up 1).count, body := 0 }, 0, [b])
def Rd.die (r : Rd) : Rd := { r with dead := true, wait := [] }
def runR : Nat → Rd → List (List Nat) → Rd × Nat × List (List Nat)
 | 0, r, out => (r, 0, out)
 | f + 1, r, out => match stepR r with
  | none => (r, 0, out)
  | some x => if x.2.1 ≠ 0 then (x.1.die, x.2.1, out) else runR f x.1 (out ++ x.2.2)
def Rd.more (r : Rd) (b : List Nat) : Rd := { r with wait := r.wait ++ b }
def feedR (r : Rd) (b : List Nat) : Rd × Nat × List (List Nat) := runR ((r.more b).wait.length + 1) (r.more b) []

theorem stepR_lt {r : Rd} {x : Rd × Nat × List (List Nat)} (h : stepR r = some x) : x.1.wait.length < r.wait.length := by
 unfold stepR at h
 split at h
 ·split at h
  ·cases h
  ·rename_i h18
   dsimp only at h
   split at h
   ·cases h; simp only [List.length_drop]; omega
   ·split at h <;> (cases h; simp only [List.length_drop]; omega)
 ·rename_i hb
  split at h
  ·cases h
  ·dsimp only at h
   split at h
   ·cases h; simp only [List.length_drop]; omega
   ·split at h <;> (cases h; simp only [List.length_drop]; omega)
theorem runR_fuel : ∀ (f g : Nat) (r : Rd) (out : List (List Nat)), r.wait.length < f → r.wait.length < g → runR f r out = runR g r out
 | 0, _, _, _, h, _ => absurd h (by omega)
 | _ + 1, 0, _, _, _, h => absurd h (by omega)
 | f + 1, g + 1, r, out, h, h2 => by
  unfold runR
  cases hs : stepR r with
  | none => rfl
  | some x =>
   have := stepR_lt hs
   dsimp only
   split
   ·rfl
   ·exact runR_fuel f g _ _ (by omega) (by omega)
theorem runR_out : ∀ (f : Nat) (r : Rd) (out : List (List Nat)), runR f r out = ((runR f r []).1, (runR f r []).2.1, out ++ (runR f r []).2.2)
 | 0, r, out => by simp [runR]
 | f + 1, r, out => by
  unfold runR
  cases hs : stepR r with
  | none => simp
  | some x =>
   dsimp only
   split
   ·simp
   ·rw [runR_out f x.1 (out ++ x.2.2), runR_out f x.1 ([] ++ x.2.2)]
    simp [List.append_assoc]
/-! What a writer writes is read. -/
def Rd.at0 (c : Co) (s : List Nat) : Rd := ⟨c, s, 0, false⟩
theorem step_head (c : Co) {b : List Nat} (hb : b.length ≤ 4096) (s : List Nat) : stepR (Rd.at0 c (headL c b ++ s)) = some (⟨c.up 1, s, sizeN b.length + 16, false⟩, 0, []) := by
 have h18 := headL_length c b
 unfold stepR Rd.at0
 rw [if_pos rfl, if_neg (by show ¬ (headL c b ++ s).length < 18; rw [List.length_append]; omega)]
 have e1 : (headL c b ++ s).take 18 = headL c b := List.take_left' h18
 have e2 : (headL c b ++ s).drop 18 = s := List.drop_left' h18
 have e3 : openL c.k (nonceL c.n) [] (headL c b) = (lenL (sizeN b.length), 0) := openL_sealL _ _ _ _
 have e4 : lenOf (lenL (sizeN b.length)) = sizeN b.length := by
  have h := lenOf_lenL (sizeN b.length) (Nat.lt_of_le_of_lt (sizeN_top _) (by omega)) []
  rwa [List.append_nil] at h
 dsimp only
 rw [e1, e2, e3]
 dsimp only
 rw [if_neg (by simp), e4, if_neg (by rw [sizeN_fix hb]; simp)]
theorem step_body (c : Co) {b : List Nat} (hb : b.length ≤ 4096) (s : List Nat) : stepR ⟨c.up 1, bodyL c b ++ s, sizeN b.length + 16, false⟩ = some (Rd.at0 c.put s, 0, [b]) := by
 have h18 := bodyL_length c hb
 unfold stepR
 dsimp only
 rw [if_neg (by omega), if_neg (by rw [List.length_append]; omega)]
 have e1 : (bodyL c b ++ s).take (sizeN b.length + 16) = bodyL c b := List.take_left' h18
 have e2 : (bodyL c b ++ s).drop (sizeN b.length + 16) = s := List.drop_left' h18
 have e3 : openL (c.up 1).k (nonceL (c.up 1).n) [] (bodyL c b) = (wrapL b, 0) := openL_sealL _ _ _ _
 rw [e1, e2, e3]
 dsimp only
 rw [if_neg (by simp), unwrapL_wrapL hb]
 rfl
theorem run_rec (c : Co) {b : List Nat} (hb : b.length ≤ 4096) (s : List Nat) (f : Nat) (out : List (List Nat)) : runR (f + 2) (Rd.at0 c (recL c b ++ s)) out = runR f (Rd.at0 c.put s) (out ++ [b]) := by
 unfold recL
 rw [List.append_assoc, runR, step_head c hb]
 dsimp only
 rw [if_neg (by simp), runR, step_body c hb]
 dsimp only
 rw [if_neg (by simp), List.append_nil]
theorem feed_rec (c : Co) {b : List Nat} (hb : b.length ≤ 4096) (s : List Nat) : feedR (Rd.at0 c []) (recL c b ++ s) = ((feedR (Rd.at0 c.put []) s).1, (feedR (Rd.at0 c.put []) s).2.1, [b] ++ (feedR (Rd.at0 c.put []) s).2.2) := by
 have h1 := run_rec c hb s ((Rd.at0 c (recL c b ++ s)).wait.length) []
 have hl : (Rd.at0 c (recL c b ++ s)).wait.length = sizeN b.length + 34 + s.length := by show (recL c b ++ s).length = _; rw [List.length_append, recL_length c hb]
 have e1 : feedR (Rd.at0 c []) (recL c b ++ s) = runR ((Rd.at0 c (recL c b ++ s)).wait.length + 2) (Rd.at0 c (recL c b ++ s)) [] := by
  unfold feedR Rd.more
  show runR (([] ++ (recL c b ++ s)).length + 1) ⟨c, [] ++ (recL c b ++ s), 0, false⟩ [] = _
  rw [List.nil_append]
  exact runR_fuel _ _ _ _ (Nat.lt_succ_self _) (by show (recL c b ++ s).length < (recL c b ++ s).length + 2; omega)
 rw [e1, h1, runR_out]
 have e2 : runR (Rd.at0 c (recL c b ++ s)).wait.length (Rd.at0 c.put s) [] = feedR (Rd.at0 c.put []) s := by
  unfold feedR Rd.more
  show _ = runR (([] ++ s).length + 1) ⟨c.put, [] ++ s, 0, false⟩ []
  rw [List.nil_append]
  exact runR_fuel _ _ _ _ (by rw [hl]; show s.length < _; omega) (Nat.lt_succ_self _)
 rw [e2]
 rfl
theorem feed_none (c : Co) : feedR (Rd.at0 c []) [] = (Rd.at0 c [], 0, []) := by
 unfold feedR
 show runR 1 (Rd.at0 c []) [] = _
 have h : stepR (Rd.at0 c []) = none := by
  unfold stepR Rd.at0
  rw [if_pos rfl, if_pos (by simp)]
 rw [runR, h]
theorem feed_one (c : Co) {b : List Nat} (hb : b.length ≤ 4096) : feedR (Rd.at0 c []) (recL c b) = (Rd.at0 c.put [], 0, [b]) := by
 have h := feed_rec c hb []
 rw [List.append_nil] at h
 rw [h, feed_none]
 rfl
end Go.Proofs.Ytggalcdkfielkaa
/-
 WALKS: pad.Wrap, pad.Unwrap.
-/
namespace Go.Proofs.Ytggalcdkfielkaa
open Go.RowKit
set_option linter.unusedVariables false
set_option linter.unusedSimpArgs false
set_option maxRecDepth 100000
attribute [local irreducible] wpList wpListIn putsR

theorem subA_two {g k n : Nat} (h : n ≠ k) : subA (some ⟨g, 0, none⟩) k n = some ⟨g, k, none⟩ := by
 unfold subA
 rw [if_neg h]
 simp [atA, Addr.add_lit]
theorem wrap_eq {bs : List Nat} {q : Nat} (hq : bs.length = q) (hl : q ≤ 4096) : (((List.replicate (sizeN q) 0).set (0) (q / 2 ^ 8 % 256)).set (1) (q % 256)).take 2 ++ bs ++ (((List.replicate (sizeN q) 0).set (0) (q / 2 ^ 8 % 256)).set (1) (q % 256)).drop (2 + q) = wrapL bs := by
 have h64 := sizeN_pos hl
 have hfit := sizeN_fit hl
 unfold wrapL lenL
 rw [hq]
 obtain ⟨N, hN⟩ : ∃ N, sizeN q = N + 2 := ⟨sizeN q - 2, by omega⟩
 rw [hN, List.replicate_succ, List.replicate_succ]
 simp only [List.set_cons_zero, List.set_cons_succ, List.take_succ_cons, List.take_zero, Nat.add_sub_cancel]
 rw [show 2 + q = q + 1 + 1 by omega, List.drop_succ_cons, List.drop_succ_cons, List.drop_replicate]
theorem unwrap_short {bs : List Nat} (h : bs.length < 2) : unwrapL bs = none := by unfold unwrapL; rw [if_pos h]
theorem unwrap_size {bs : List Nat} (h : bs.length ≠ sizeN (lenOf bs)) : unwrapL bs = none := by
 unfold unwrapL
 by_cases h2 : bs.length < 2
 ·rw [if_pos h2]
 ·rw [if_neg h2, if_pos h]
theorem unwrap_fit {bs : List Nat} (h2 : 2 ≤ bs.length) (h : bs.length = sizeN (lenOf bs)) : lenOf bs ≤ 4096 ∧ lenOf bs + 2 ≤ bs.length := by
 have h4 : lenOf bs ≤ 4096 := by
  rcases Nat.lt_or_ge 4096 (lenOf bs) with h9 | h9
  ·unfold sizeN at h; rw [if_pos h9] at h; omega
  ·exact h9
 have := sizeN_fit h4
 exact ⟨h4, by omega⟩
theorem unwrap_bad {bs : List Nat} {K : Nat} (h2 : 2 ≤ bs.length) (h : bs.length = sizeN (lenOf bs)) (hK : K < (bs.drop (2 + lenOf bs)).length) (hb : (bs.drop (2 + lenOf bs)).getD K 0 ≠ 0) : unwrapL bs = none := by
 unfold unwrapL
 rw [if_neg (by omega), if_neg (by omega), if_neg]
 intro hall
 rw [List.all_eq_true] at hall
 have h9 := hall _ (List.getElem_mem hK)
 rw [List.getD_eq_getElem?_getD, List.getElem?_eq_getElem hK] at hb
 simp at h9 hb
 exact hb h9
theorem unwrap_good {bs : List Nat} (h2 : 2 ≤ bs.length) (h : bs.length = sizeN (lenOf bs)) (hb : ∀ j, j < (bs.drop (2 + lenOf bs)).length → (bs.drop (2 + lenOf bs)).getD j 0 = 0) : unwrapL bs = some ((bs.drop 2).take (lenOf bs)) := by
 unfold unwrapL
 rw [if_neg (by omega), if_neg (by omega), if_pos]
 rw [List.all_eq_true]
 intro x hx
 obtain ⟨j, hj, rfl⟩ := List.mem_iff_getElem.1 hx
 have h9 := hb j hj
 rw [List.getD_eq_getElem?_getD, List.getElem?_eq_getElem hj] at h9
 simpa using h9
theorem Wrap_any {A0 : Option Addr} {c0 q : Nat} {bs : List Nat} (w : World) (h0 : Bs w A0 c0 bs) (hq : bs.length = q) (hl : q ≤ 4096) :
  Calls Try.prog 39 #[.slice A0 (q) (c0)] w fun e w' => ∃ A c, e = .returned (.tuple #[.slice A (sizeN q) c, .int .i64 0]) ∧ Own w' w.heap.size A c (wrapL bs) ∧ Below w.heap.size w w' := by
 have hs := sizeN_pos hl
 have hs2 := sizeN_top q
 have hs3 := sizeN_fit hl
 refine x_enter 29 Try.func39 rfl rfl (fun a hs hd ha0 => ?_)
 have t0 : a.eval (.tmp 0) = .slice A0 (q) (c0) := ha0 0 _ rfl
 clear ha0
 refine w2_sr (fun K_1 hK_1 => ?_)
 refine q_as (.slice none (0) (0)) rfl ?_
 refine q_as (.int .i64 ((0 : Nat) : Int)) rfl ?_
 refine x_nil (hK_1 _ _ ?_)
 refine w2_sr (fun K_2 hK_2 => ?_)
 refine q_mv ((pm rfl).trans t0) ?_
 refine q_v 7 (.int .i64 ((q : Nat) : Int)) (o_len rfl (pe hs rfl rfl)) ?_
 refine q_ca (vs := #[.int .i64 ((q : Nat) : Int)]) Try.func64 (args1 (pe hs rfl rfl)) (Size_any _ _) (fun e_1 w_1 hR_1 => ?_)
 obtain ⟨rfl, rfl⟩ := hR_1
 refine ⟨_, rfl, ?_⟩
 refine q_at (pe hs rfl rfl) ?_
 refine x_nil (hK_2 _ _ ?_)
 refine w2_seq (fun K_3 hK_3 => ?_)
 refine w2_sr (fun K_4 hK_4 => ?_)
 refine q_mv (pe hs rfl rfl) ?_
 refine q_v 10 (.bool (false)) (o_eq (o_eql (m := (sizeN q)) (n := 0) rfl (pe hs rfl rfl) rfl) (by rw [decide_eq_false (by omega)])) ?_
 refine x_nil (hK_4 _ _ ?_)
 refine w2_condF (pe hs rfl rfl) ?_
 refine w2_skip ?_
 refine hK_3 _ _ ?_
 refine w2_sr (fun K_5 hK_5 => ?_)
 refine q_mv (pe hs rfl rfl) ?_
 refine op_ex (d := 12) rfl rfl (o_makeN (n := sizeN q) rfl (pe hs rfl rfl) (pe hs rfl rfl) (by omega)) (fun v_1 w_2 hR_2 => ?_)
 obtain ⟨g_1, rfl, ho_1, hb_2⟩ := hR_2
 refine q_at (pe hs rfl rfl) ?_
 refine x_nil (hK_5 _ _ ?_)
 refine w2_sr (fun K_6 hK_6 => ?_)
 refine q_mv (pe hs rfl rfl) ?_
 refine q_mv (pe hs rfl rfl) ?_
 refine q_mv ((pm rfl).trans t0) ?_
 refine q_v 16 (.int .i64 ((q : Nat) : Int)) (o_len rfl (pe hs rfl rfl)) ?_
 refine q_v 17 (.int .i64 ((q / 2 ^ 8 : Nat) : Int)) (o_shr (m := q) (n := 8) rfl (pe hs rfl rfl) rfl (by decide)) ?_
 refine q_v 18 (.int .u8 (((q / 2 ^ 8) % 256 : Nat) : Int)) (o_conv (m := (q / 2 ^ 8)) (r := (q / 2 ^ 8) % 256) rfl (pe hs rfl rfl) ⟨.int .i64, fun _ => by kernel_rfl⟩ (fun _ => by kernel_rfl) (by rw [IntKind.wrap_u8]; omega)) ?_
 refine q_mv ((pm rfl).trans t0) ?_
 refine q_v 20 (.int .i64 ((q : Nat) : Int)) (o_len rfl (pe hs rfl rfl)) ?_
 refine q_v 21 (.int .u8 ((q % 256 : Nat) : Int)) (o_conv (m := q) (r := q % 256) rfl (pe hs rfl rfl) ⟨.int .i64, fun _ => by kernel_rfl⟩ (fun _ => by kernel_rfl) (by rw [IntKind.wrap_u8]; omega)) ?_
 refine q_v 22 (.pointer (atA ((some ⟨g_1, 0, none⟩)) (0))) (o_ix (k := 0) rfl (pe hs rfl rfl) rfl (by omega) ((ho_1).bs.some (by rw [List.length_replicate]; omega))) ?_
 refine op_do rfl rfl (o_st8 rfl (pe hs rfl rfl) (pe hs rfl rfl) ho_1 (by have h9 : (List.replicate (sizeN q) 0).length = sizeN q := (by simp only [List.length_replicate]); omega) (by omega) ⟨by kernel_rfl, by kernel_rfl⟩) (fun w_3 hR_3 => ?_)
 obtain ⟨ho_2, hb_3⟩ := hR_3
 have HB_1 := hb_2.trans hb_3
 refine q_v 23 (.pointer (atA ((some ⟨g_1, 0, none⟩)) (1))) (o_ix (k := 1) rfl (pe hs rfl rfl) rfl (by omega) ((ho_2).bs.some (by have h9 : ((List.replicate (sizeN q) 0).set (0) ((q / 2 ^ 8) % 256)).length = sizeN q := (by simp only [List.length_set, List.length_replicate]); omega))) ?_
 refine op_do rfl rfl (o_st8 rfl (pe hs rfl rfl) (pe hs rfl rfl) ho_2 (by have h9 : ((List.replicate (sizeN q) 0).set (0) ((q / 2 ^ 8) % 256)).length = sizeN q := (by simp only [List.length_set, List.length_replicate]); omega) (by omega) ⟨by kernel_rfl, by kernel_rfl⟩) (fun w_4 hR_4 => ?_)
 obtain ⟨ho_3, hb_4⟩ := hR_4
 have HB_2 := HB_1.trans hb_4
 refine x_nil (hK_6 _ _ ?_)
 refine w2_sr (fun K_7 hK_7 => ?_)
 refine q_mv (pe hs rfl rfl) ?_
 refine q_v 25 (.slice ((some ⟨g_1, 2, none⟩)) (sizeN q - 2) (sizeN q - 2)) (o_eq (o_sliceL (l := 2) rfl (pe hs rfl rfl) rfl (by omega)) (by rw [subA_two (by omega)])) ?_
 refine q_mv ((pm rfl).trans t0) ?_
 refine op_ex (d := 27) rfl rfl (o_copyK (k := 2) (n := sizeN q) (q := sizeN q - 2) rfl (pe hs rfl rfl) (pe hs rfl rfl) ho_3 (h0.below HB_2) hq (by rw [List.length_set]; exact (by simp only [List.length_set, List.length_replicate])) (by omega) (by omega) (by omega)) (fun v_2 w_5 hR_5 => ?_)
 obtain ⟨r_1, rfl, ho_4, hb_5⟩ := hR_5
 have HB_3 := HB_2.trans hb_5
 refine x_nil (hK_7 _ _ ?_)
 refine w2_sr (fun K_8 hK_8 => ?_)
 refine q_mv (pe hs rfl rfl) ?_
 refine q_at (pe hs rfl rfl) ?_
 refine q_as (.int .i64 ((0 : Nat) : Int)) rfl ?_
 refine x_nil (hK_8 _ _ ?_)
 refine w2_ret ?_
 refine ret2 rfl hd (pe hs rfl rfl) (pe hs rfl rfl) ?_
 exact ⟨_, _, rfl, by have h9 := ho_4; rwa [wrap_eq hq hl] at h9, HB_3⟩
theorem Wrap_gt {A0 : Option Addr} {c0 q : Nat} {bs : List Nat} (w : World) (h0 : Bs w A0 c0 bs) (hq : bs.length = q) (hl : 4096 < q) :
  Calls Try.prog 39 #[.slice A0 (q) (c0)] w fun e w' => e = .returned (.tuple #[.slice none 0 0, .int .i64 7]) ∧ w = w' := by
 refine x_enter 29 Try.func39 rfl rfl (fun a hs hd ha0 => ?_)
 have t0 : a.eval (.tmp 0) = .slice A0 (q) (c0) := ha0 0 _ rfl
 clear ha0
 refine w2_sr (fun K_1 hK_1 => ?_)
 refine q_as (.slice none (0) (0)) rfl ?_
 refine q_as (.int .i64 ((0 : Nat) : Int)) rfl ?_
 refine x_nil (hK_1 _ _ ?_)
 refine w2_sr (fun K_2 hK_2 => ?_)
 refine q_mv ((pm rfl).trans t0) ?_
 refine q_v 7 (.int .i64 ((q : Nat) : Int)) (o_len rfl (pe hs rfl rfl)) ?_
 refine q_ca (vs := #[.int .i64 ((q : Nat) : Int)]) Try.func64 (args1 (pe hs rfl rfl)) (Size_any _ _) (fun e_1 w_1 hR_1 => ?_)
 obtain ⟨rfl, rfl⟩ := hR_1
 refine ⟨_, rfl, ?_⟩
 refine q_at (pe hs rfl rfl) ?_
 refine x_nil (hK_2 _ _ ?_)
 refine w2_seq (fun K_3 hK_3 => ?_)
 refine w2_sr (fun K_4 hK_4 => ?_)
 refine q_mv (pe hs rfl rfl) ?_
 refine q_v 10 (.bool (true)) (o_eq (o_eql (m := (sizeN q)) (n := 0) rfl (pe hs rfl rfl) rfl) (by rw [decide_eq_true (by unfold sizeN; rw [if_pos hl])])) ?_
 refine x_nil (hK_4 _ _ ?_)
 refine w2_condT (pe hs rfl rfl) ?_
 refine w2_sr (fun K_5 hK_5 => ?_)
 refine q_as (.slice none (0) (0)) rfl ?_
 refine q_as (.int .i64 ((7 : Nat) : Int)) rfl ?_
 refine x_nil (hK_5 _ _ ?_)
 refine w2_ret ?_
 refine thn_ret ?_
 refine ret2 rfl hd (pe hs rfl rfl) (pe hs rfl rfl) ?_
 exact ⟨rfl, rfl⟩
theorem Unwrap_any {A0 : Option Addr} {c0 q : Nat} {bs : List Nat} (w : World) (h0 : Bs w A0 c0 bs) (hq : bs.length = q) (hl : q ≤ 100000) :
  Calls Try.prog 71 #[.slice A0 (q) (c0)] w fun e w' => (∃ r : Nat, r ≠ 0 ∧ unwrapL bs = none ∧ e = .returned (.tuple #[.slice none 0 0, .int .i64 (r : Int)]) ∧ Below w.heap.size w w') ∨ (∃ (b : List Nat) (A : Option Addr) (c : Nat), unwrapL bs = some b ∧ e = .returned (.tuple #[.slice A b.length c, .int .i64 0]) ∧ Own w' w.heap.size A c b ∧ Below w.heap.size w w') := by
 have b0 := getD_lt h0.b8 0
 have b1 := getD_lt h0.b8 1
 have hlo : lenOf bs < 65536 := by unfold lenOf; omega
 refine x_enter 42 Try.func71 rfl rfl (fun a hs hd ha0 => ?_)
 have t0 : a.eval (.tmp 0) = .slice A0 (q) (c0) := ha0 0 _ rfl
 clear ha0
 refine w2_sr (fun K_1 hK_1 => ?_)
 refine q_as (.slice none (0) (0)) rfl ?_
 refine q_as (.int .i64 ((0 : Nat) : Int)) rfl ?_
 refine x_nil (hK_1 _ _ ?_)
 refine w2_seq (fun K_2 hK_2 => ?_)
 refine w2_sr (fun K_3 hK_3 => ?_)
 refine q_mv ((pm rfl).trans t0) ?_
 refine q_v 8 (.int .i64 ((q : Nat) : Int)) (o_len rfl (pe hs rfl rfl)) ?_
 refine q_v 9 (.bool (decide (q < 2))) (o_lss (m := q) (n := 2) rfl (pe hs rfl rfl) rfl) ?_
 refine x_nil (hK_3 _ _ ?_)
 refine w2_split (pe hs rfl rfl) (fun h_1 => ?_) (fun h_1 => ?_)
 ·simp only [DD9] at h_1
  have hsh := h_1
  refine w2_sr (fun K_4 hK_4 => ?_)
  refine q_as (.slice none (0) (0)) rfl ?_
  refine q_as (.int .i64 ((2 : Nat) : Int)) rfl ?_
  refine x_nil (hK_4 _ _ ?_)
  refine w2_ret ?_
  refine thn_ret ?_
  refine ret2 rfl hd (pe hs rfl rfl) (pe hs rfl rfl) ?_
  exact .inl ⟨2, by decide, unwrap_short (by rw [hq]; exact hsh), rfl, Below.refl _ _⟩
 ·simp only [DD9] at h_1
  have hsh : 2 ≤ q := h_1
  refine w2_skip ?_
  refine hK_2 _ _ ?_
  refine w2_seq (fun K_5 hK_5 => ?_)
  refine x_drawn 9 [fun _ v => v = .slice A0 (q) (c0), fun _ v => v = .pointer (atA A0 (0)), fun _ v => v = .int .u8 ((bs.getD (0) 0 : Nat) : Int), fun _ v => v = .int .i64 ((bs.getD (0) 0 : Nat) : Int), fun _ v => v = .int .i64 (((bs.getD (0) 0) * 256 : Nat) : Int), fun _ v => v = .slice A0 (q) (c0), fun _ v => v = .pointer (atA A0 (1)), fun _ v => v = .int .u8 ((bs.getD (1) 0 : Nat) : Int), fun _ v => v = .int .i64 ((bs.getD (1) 0 : Nat) : Int)] [10, 11, 12, 13, 14, 15, 16, 17, 18] hs hd (by kernel_rfl) (by kernel_rfl) (by kernel_rfl) (by kernel_rfl) (by kernel_rfl) ⟨stLit, stLit, stLit, stLit, stLit, stLit, stLit, stLit, stLit, trivial⟩ ⟨(step_ok rfl (fun a' w' hb' hO hD => by
    have d_1 := (hO 0 (by decide)).trans ((pm rfl).trans t0)
    exact .inl ⟨_, _, (o_move rfl d_1), rfl, Below.refl _ _⟩)),
(step_ok rfl (fun a' w' hb' hO hD => by
    have d_2 : a'.eval (.tmp 10) = .slice A0 (q) (c0) := hD 0 10 (by kernel_rfl) rfl
    exact .inl ⟨_, _, (o_ix (k := 0) rfl d_2 rfl (by omega) ((h0.below hb').some (by rw [hq]; omega))), rfl, Below.refl _ _⟩)),
(step_ok rfl (fun a' w' hb' hO hD => by
    have d_3 : a'.eval (.tmp 11) = .pointer (atA A0 (0)) := hD 1 11 (by kernel_rfl) rfl
    exact .inl ⟨_, _, (o_ld8 rfl d_3 (h0.below hb') (by rw [hq]; omega) rfl), rfl, Below.refl _ _⟩)),
(step_ok rfl (fun a' w' hb' hO hD => by
    have d_4 : a'.eval (.tmp 12) = .int .u8 ((bs.getD (0) 0 : Nat) : Int) := hD 2 12 (by kernel_rfl) rfl
    exact .inl ⟨_, _, (o_conv (m := (bs.getD (0) 0)) (r := bs.getD (0) 0) rfl d_4 ⟨.int .u8, fun _ => by kernel_rfl⟩ (fun _ => by kernel_rfl) (IntWalk.i64_in _ (by omega))), rfl, Below.refl _ _⟩)),
(step_ok rfl (fun a' w' hb' hO hD => by
    have d_5 : a'.eval (.tmp 13) = .int .i64 ((bs.getD (0) 0 : Nat) : Int) := hD 3 13 (by kernel_rfl) rfl
    exact .inl ⟨_, _, (o_shl8 (m := (bs.getD (0) 0)) rfl d_5 rfl (by omega)), rfl, Below.refl _ _⟩)),
(step_ok rfl (fun a' w' hb' hO hD => by
    have d_6 := (hO 0 (by decide)).trans ((pm rfl).trans t0)
    exact .inl ⟨_, _, (o_move rfl d_6), rfl, Below.refl _ _⟩)),
(step_ok rfl (fun a' w' hb' hO hD => by
    have d_7 : a'.eval (.tmp 15) = .slice A0 (q) (c0) := hD 5 15 (by kernel_rfl) rfl
    exact .inl ⟨_, _, (o_ix (k := 1) rfl d_7 rfl (by omega) ((h0.below hb').some (by rw [hq]; omega))), rfl, Below.refl _ _⟩)),
(step_ok rfl (fun a' w' hb' hO hD => by
    have d_8 : a'.eval (.tmp 16) = .pointer (atA A0 (1)) := hD 6 16 (by kernel_rfl) rfl
    exact .inl ⟨_, _, (o_ld8 rfl d_8 (h0.below hb') (by rw [hq]; omega) rfl), rfl, Below.refl _ _⟩)),
(step_ok rfl (fun a' w' hb' hO hD => by
    have d_9 : a'.eval (.tmp 17) = .int .u8 ((bs.getD (1) 0 : Nat) : Int) := hD 7 17 (by kernel_rfl) rfl
    exact .inl ⟨_, _, (o_conv (m := (bs.getD (1) 0)) (r := bs.getD (1) 0) rfl d_9 ⟨.int .u8, fun _ => by kernel_rfl⟩ (fun _ => by kernel_rfl) (IntWalk.i64_in _ (by omega))), rfl, Below.refl _ _⟩)), trivial⟩ (fun a_1 w_1 hs_1 hd_1 hb_1 hO_1 hV_1 => ?_)
  have ta_1_0 := (hO_1 0 (by decide)).trans ((pm rfl).trans t0)
  have ta_1_2 : a_1.eval (.tmp 2) = .slice none (0) (0) := (hO_1 2 (by decide)).trans (pe hs rfl rfl)
  have ta_1_3 : a_1.eval (.tmp 3) = .int .i64 ((0 : Nat) : Int) := (hO_1 3 (by decide)).trans (pe hs rfl rfl)
  have ta_1_7 : a_1.eval (.tmp 7) = .slice A0 (q) (c0) := (hO_1 7 (by decide)).trans (pe hs rfl rfl)
  have ta_1_8 : a_1.eval (.tmp 8) = .int .i64 ((q : Nat) : Int) := (hO_1 8 (by decide)).trans (pe hs rfl rfl)
  have ta_1_9 : a_1.eval (.tmp 9) = .bool (decide (q < 2)) := (hO_1 9 (by decide)).trans (pe hs rfl rfl)
  clear t0 hd
  have ta_1_10 : a_1.eval (.tmp 10) = .slice A0 (q) (c0) := hV_1 0 10 rfl rfl
  have ta_1_11 : a_1.eval (.tmp 11) = .pointer (atA A0 (0)) := hV_1 1 11 rfl rfl
  have ta_1_12 : a_1.eval (.tmp 12) = .int .u8 ((bs.getD (0) 0 : Nat) : Int) := hV_1 2 12 rfl rfl
  have ta_1_13 : a_1.eval (.tmp 13) = .int .i64 ((bs.getD (0) 0 : Nat) : Int) := hV_1 3 13 rfl rfl
  have ta_1_14 : a_1.eval (.tmp 14) = .int .i64 (((bs.getD (0) 0) * 256 : Nat) : Int) := hV_1 4 14 rfl rfl
  have ta_1_15 : a_1.eval (.tmp 15) = .slice A0 (q) (c0) := hV_1 5 15 rfl rfl
  have ta_1_16 : a_1.eval (.tmp 16) = .pointer (atA A0 (1)) := hV_1 6 16 rfl rfl
  have ta_1_17 : a_1.eval (.tmp 17) = .int .u8 ((bs.getD (1) 0 : Nat) : Int) := hV_1 7 17 rfl rfl
  have ta_1_18 : a_1.eval (.tmp 18) = .int .i64 ((bs.getD (1) 0 : Nat) : Int) := hV_1 8 18 rfl rfl
  clear hV_1 hO_1
  simp only [List.drop_succ_cons, List.drop_zero]
  refine q_v 19 (.int .i64 (((bs.getD (0) 0) * 256 + (bs.getD (1) 0) : Nat) : Int)) (o_or8 (m := (bs.getD (0) 0)) (n := (bs.getD (1) 0)) rfl ((pm rfl).trans ta_1_14) ((pm rfl).trans ta_1_18) (by omega) (by omega)) ?_
  refine q_v 4 (.int .i64 ((lenOf bs : Nat) : Int)) (o_eq (o_assign rfl (pe hs_1 rfl rfl)) rfl) ?_
  refine x_nil (hK_5 _ _ ?_)
  refine w2_seq (fun K_6 hK_6 => ?_)
  refine w2_sr (fun K_7 hK_7 => ?_)
  refine q_mv ((pm rfl).trans ta_1_0) ?_
  refine q_v 21 (.int .i64 ((q : Nat) : Int)) (o_len rfl (pe hs_1 rfl rfl)) ?_
  refine q_mv (pe hs_1 rfl rfl) ?_
  refine q_ca (vs := #[.int .i64 ((lenOf bs : Nat) : Int)]) Try.func64 (args1 (pe hs_1 rfl rfl)) (Size_any _ _) (fun e_1 w_2 hR_1 => ?_)
  obtain ⟨rfl, rfl⟩ := hR_1
  refine ⟨_, rfl, ?_⟩
  refine q_v 24 (.bool (!decide (q = (sizeN (lenOf bs))))) (o_neq (m := q) (n := (sizeN (lenOf bs))) rfl (pe hs_1 rfl rfl) (pe hs_1 rfl rfl)) ?_
  refine x_nil (hK_7 _ _ ?_)
  refine w2_split (pe hs_1 rfl rfl) (fun h_2 => ?_) (fun h_2 => ?_)
  ·simp only [DD9] at h_2
   have hsz := h_2
   refine w2_sr (fun K_8 hK_8 => ?_)
   refine q_as (.slice none (0) (0)) rfl ?_
   refine q_as (.int .i64 ((3 : Nat) : Int)) rfl ?_
   refine x_nil (hK_8 _ _ ?_)
   refine w2_ret ?_
   refine thn_ret ?_
   refine ret2 rfl hd_1 (pe hs_1 rfl rfl) (pe hs_1 rfl rfl) ?_
   exact .inl ⟨3, by decide, unwrap_size (by rw [hq]; exact hsz), rfl, hb_1⟩
  ·simp only [DD9] at h_2
   have hsz : q = sizeN (lenOf bs) := by have h9 := h_2; omega
   obtain ⟨hn4, hfit⟩ := unwrap_fit (by rw [hq]; exact hsh) (by rw [hq]; exact hsz)
   rw [hq] at hfit
   refine w2_skip ?_
   refine hK_6 _ _ ?_
   refine w2_seq (fun K_9 hK_9 => ?_)
   refine w2_sr (fun K_10 hK_10 => ?_)
   refine q_mv ((pm rfl).trans ta_1_0) ?_
   refine q_mv (pe hs_1 rfl rfl) ?_
   refine q_v 27 (.int .i64 ((2 + (lenOf bs) : Nat) : Int)) (o_add64 (m := 2) (n := (lenOf bs)) rfl rfl (pe hs_1 rfl rfl) (by omega)) ?_
   refine q_v 28 (.slice ((subA A0 (2 + (lenOf bs)) c0)) (q - (2 + (lenOf bs))) (c0 - (2 + (lenOf bs)))) (o_sliceL rfl (pe hs_1 rfl rfl) (pe hs_1 rfl rfl) (by omega)) ?_
   refine q_v 29 (.int .i64 ((q - (2 + (lenOf bs)) : Nat) : Int)) (o_len rfl (pe hs_1 rfl rfl)) ?_
   refine q_v 30 (.int .i64 ((0 : Nat) : Int)) (o_move rfl rfl) ?_
   refine x_nil ?_
   have hS : Bs w (subA A0 (2 + lenOf bs) c0) (c0 - (2 + lenOf bs)) (bs.drop (2 + lenOf bs)) := by
    have h := Bs.sub h0 (l := 2 + lenOf bs) (q := q) (m := c0) (by omega) (by rw [← hq]; exact h0.le) (Nat.le_refl _)
    rwa [List.take_of_length_le (by rw [List.length_drop]; omega)] at h
   have hSl : (bs.drop (2 + lenOf bs)).length = q - (2 + lenOf bs) := by rw [List.length_drop, hq]
   refine hK_10 _ _ ?_
   refine w2_block (fun K_11 hK_11 => ?_)
   refine x_loop (fun nn aa ww => ∃ (K : Nat), nn = q - (2 + lenOf bs) - K ∧ aa.tmps.size = 42 ∧ aa.defers = [] ∧ aa.eval (.tmp 0) = .slice A0 (q) (c0) ∧ aa.eval (.tmp 4) = .int .i64 ((lenOf bs : Nat) : Int) ∧ aa.eval (.tmp 7) = .slice A0 (q) (c0) ∧ aa.eval (.tmp 8) = .int .i64 ((q : Nat) : Int) ∧ aa.eval (.tmp 9) = .bool (decide (q < 2)) ∧ aa.eval (.tmp 10) = .slice A0 (q) (c0) ∧ aa.eval (.tmp 11) = .pointer (atA A0 (0)) ∧ aa.eval (.tmp 12) = .int .u8 ((bs.getD (0) 0 : Nat) : Int) ∧ aa.eval (.tmp 13) = .int .i64 ((bs.getD (0) 0 : Nat) : Int) ∧ aa.eval (.tmp 14) = .int .i64 (((bs.getD (0) 0) * 256 : Nat) : Int) ∧ aa.eval (.tmp 15) = .slice A0 (q) (c0) ∧ aa.eval (.tmp 16) = .pointer (atA A0 (1)) ∧ aa.eval (.tmp 17) = .int .u8 ((bs.getD (1) 0 : Nat) : Int) ∧ aa.eval (.tmp 18) = .int .i64 ((bs.getD (1) 0 : Nat) : Int) ∧ aa.eval (.tmp 19) = .int .i64 (((bs.getD (0) 0) * 256 + (bs.getD (1) 0) : Nat) : Int) ∧ aa.eval (.tmp 20) = .slice A0 (q) (c0) ∧ aa.eval (.tmp 21) = .int .i64 ((q : Nat) : Int) ∧ aa.eval (.tmp 22) = .int .i64 ((lenOf bs : Nat) : Int) ∧ aa.eval (.tmp 23) = .int .i64 ((sizeN (lenOf bs) : Nat) : Int) ∧ aa.eval (.tmp 24) = .bool (!decide (q = (sizeN (lenOf bs)))) ∧ aa.eval (.tmp 25) = .slice A0 (q) (c0) ∧ aa.eval (.tmp 26) = .int .i64 ((lenOf bs : Nat) : Int) ∧ aa.eval (.tmp 27) = .int .i64 ((2 + (lenOf bs) : Nat) : Int) ∧ aa.eval (.tmp 28) = .slice ((subA A0 (2 + (lenOf bs)) c0)) (q - (2 + (lenOf bs))) (c0 - (2 + (lenOf bs))) ∧ aa.eval (.tmp 29) = .int .i64 ((q - (2 + (lenOf bs)) : Nat) : Int) ∧ aa.eval (.tmp 30) = .int .i64 ((K : Nat) : Int) ∧ K ≤ q - (2 + lenOf bs) ∧ (∀ j, j < K → (bs.drop (2 + lenOf bs)).getD j 0 = 0) ∧ Below w.heap.size w ww) (q - (2 + lenOf bs)) ?_ ?_
   ·exact ⟨0, rfl, (by rw [putsR_size]; exact hs_1), (by rw [putsR_defers]; exact hd_1), ((pm rfl).trans ta_1_0), (pe hs_1 rfl rfl), ((pm rfl).trans ta_1_7), ((pm rfl).trans ta_1_8), ((pm rfl).trans ta_1_9), ((pm rfl).trans ta_1_10), ((pm rfl).trans ta_1_11), ((pm rfl).trans ta_1_12), ((pm rfl).trans ta_1_13), ((pm rfl).trans ta_1_14), ((pm rfl).trans ta_1_15), ((pm rfl).trans ta_1_16), ((pm rfl).trans ta_1_17), ((pm rfl).trans ta_1_18), (pe hs_1 rfl rfl), (pe hs_1 rfl rfl), (pe hs_1 rfl rfl), (pe hs_1 rfl rfl), (pe hs_1 rfl rfl), (pe hs_1 rfl rfl), (pe hs_1 rfl rfl), (pe hs_1 rfl rfl), (pe hs_1 rfl rfl), (pe hs_1 rfl rfl), (pe hs_1 rfl rfl), (pe hs_1 rfl rfl), Nat.zero_le _, (fun j hj => absurd hj (by omega)), hb_1⟩
   ·skip
    clear ta_1_0 ta_1_2 ta_1_3 ta_1_7 ta_1_8 ta_1_9 ta_1_10 ta_1_11 ta_1_12 ta_1_13 ta_1_14 ta_1_15 ta_1_16 ta_1_17 ta_1_18 hd_1 hb_1
    rintro nna_2 a_2 w_3 ⟨K, hm_1, hs_2, hd_2, ta_2_0, ta_2_4, ta_2_7, ta_2_8, ta_2_9, ta_2_10, ta_2_11, ta_2_12, ta_2_13, ta_2_14, ta_2_15, ta_2_16, ta_2_17, ta_2_18, ta_2_19, ta_2_20, ta_2_21, ta_2_22, ta_2_23, ta_2_24, ta_2_25, ta_2_26, ta_2_27, ta_2_28, ta_2_29, ta_2_30, hK, hz, HBL⟩ K_12 hK_12
    subst hm_1
    refine w2_sr (fun K_13 hK_13 => ?_)
    refine q_v 31 (.bool (decide (K < (q - (2 + (lenOf bs)))))) (o_lss (m := K) (n := (q - (2 + (lenOf bs)))) rfl ((pm rfl).trans ta_2_30) ((pm rfl).trans ta_2_29)) ?_
    refine x_nil (hK_13 _ _ ?_)
    refine w2_seq (fun K_14 hK_14 => ?_)
    refine w2_split (pe hs_2 rfl rfl) (fun h_3 => ?_) (fun h_3 => ?_)
    ·simp only [DD9] at h_3
     have hlt : K < q - (2 + lenOf bs) := h_3
     refine w2_skip ?_
     refine hK_14 _ _ ?_
     refine w2_seq (fun K_15 hK_15 => ?_)
     refine w2_block (fun K_16 hK_16 => ?_)
     refine w2_sr (fun K_17 hK_17 => ?_)
     refine q_v 32 (.pointer (atA ((subA A0 (2 + (lenOf bs)) c0)) (K))) (o_ix (k := K) rfl ((pm rfl).trans ta_2_28) ((pm rfl).trans ta_2_30) (by omega) ((hS.below HBL).some (by rw [hSl]; omega))) ?_
     refine q_v 33 (.int .u8 (((bs.drop (2 + lenOf bs)).getD (K) 0 : Nat) : Int)) (o_ld8 rfl (pe hs_2 rfl rfl) (hS.below HBL) (by rw [hSl]; omega) rfl) ?_
     refine q_at (pe hs_2 rfl rfl) ?_
     refine x_nil (hK_17 _ _ ?_)
     refine w2_sr (fun K_18 hK_18 => ?_)
     refine q_mv (pe hs_2 rfl rfl) ?_
     refine q_v 35 (.bool (!decide (((bs.drop (2 + lenOf bs)).getD (K) 0) = 0))) (o_neq (m := ((bs.drop (2 + lenOf bs)).getD (K) 0)) (n := 0) rfl (pe hs_2 rfl rfl) rfl) ?_
     refine x_nil (hK_18 _ _ ?_)
     refine w2_split (pe hs_2 rfl rfl) (fun h_4 => ?_) (fun h_4 => ?_)
     ·simp only [DD9] at h_4
      have hb0 : ¬ (bs.drop (2 + lenOf bs)).getD K 0 = 0 := h_4
      refine w2_sr (fun K_19 hK_19 => ?_)
      refine q_as (.slice none (0) (0)) rfl ?_
      refine q_as (.int .i64 ((3 : Nat) : Int)) rfl ?_
      refine x_nil (hK_19 _ _ ?_)
      refine w2_ret ?_
      refine exb_ret ?_
      refine thn_ret ?_
      refine thn_ret ?_
      refine exb_ret ?_
      refine thn_ret ?_
      refine ret2 rfl hd_2 (pe hs_2 rfl rfl) (pe hs_2 rfl rfl) ?_
      exact .inl ⟨3, by decide, unwrap_bad (by rw [hq]; exact hsh) (by rw [hq]; exact hsz) (by rw [hSl]; exact hlt) hb0, rfl, HBL⟩
     ·simp only [DD9] at h_4
      have hb0 : (bs.drop (2 + lenOf bs)).getD K 0 = 0 := by have h9 := h_4; omega
      refine w2_skip ?_
      refine hK_16 _ _ ?_
      refine hK_15 _ _ ?_
      refine x_region (by kernel_rfl) ?_
      refine q_v 36 (.int .i64 ((K + 1 : Nat) : Int)) (o_add64 (m := K) (n := 1) rfl ((pm rfl).trans ta_2_30) rfl (by omega)) ?_
      refine q_mv (pe hs_2 rfl rfl) ?_
      refine x_nil ?_
      refine hK_12 _ _ _ ⟨K + 1, rfl, (by rw [putsR_size]; exact hs_2), (by rw [putsR_defers]; exact hd_2), ((pm rfl).trans ta_2_0), ((pm rfl).trans ta_2_4), ((pm rfl).trans ta_2_7), ((pm rfl).trans ta_2_8), ((pm rfl).trans ta_2_9), ((pm rfl).trans ta_2_10), ((pm rfl).trans ta_2_11), ((pm rfl).trans ta_2_12), ((pm rfl).trans ta_2_13), ((pm rfl).trans ta_2_14), ((pm rfl).trans ta_2_15), ((pm rfl).trans ta_2_16), ((pm rfl).trans ta_2_17), ((pm rfl).trans ta_2_18), ((pm rfl).trans ta_2_19), ((pm rfl).trans ta_2_20), ((pm rfl).trans ta_2_21), ((pm rfl).trans ta_2_22), ((pm rfl).trans ta_2_23), ((pm rfl).trans ta_2_24), ((pm rfl).trans ta_2_25), ((pm rfl).trans ta_2_26), ((pm rfl).trans ta_2_27), ((pm rfl).trans ta_2_28), ((pm rfl).trans ta_2_29), (pe hs_2 rfl rfl), (by omega), (fun j hj => by rcases Nat.lt_or_ge j K with h9 | h9; (exact hz j h9); (obtain rfl : j = K := by omega); exact hb0), HBL⟩ ?_
      omega
    ·simp only [DD9] at h_3
     obtain rfl : K = q - (2 + lenOf bs) := by omega
     refine w2_exit ?_
     refine thn_exit ?_
     refine thn_exit ?_
     refine exb_hit ?_
     refine hK_11 _ _ ?_
     refine hK_9 _ _ ?_
     refine w2_seq (fun K_20 hK_20 => ?_)
     have hT : Bs w (subA A0 2 c0) (c0 - 2) ((bs.drop 2).take (2 + lenOf bs - 2)) := Bs.sub h0 (by omega) (by have := h0.le; omega) (Nat.le_refl _)
     have hTl : ((bs.drop 2).take (2 + lenOf bs - 2)).length = 2 + lenOf bs - 2 := by rw [List.length_take, List.length_drop, hq]; omega
     refine x_region (by kernel_rfl) ?_
     refine q_mv ((pm rfl).trans ta_2_0) ?_
     refine q_mv ((pm rfl).trans ta_2_4) ?_
     refine q_v 39 (.int .i64 ((2 + (lenOf bs) : Nat) : Int)) (o_add64 (m := 2) (n := (lenOf bs)) rfl rfl (pe hs_2 rfl rfl) (by omega)) ?_
     refine q_v 40 (.slice ((subA A0 2 c0)) ((2 + (lenOf bs)) - 2) (c0 - 2)) (o_slice2 rfl (pe hs_2 rfl rfl) rfl (pe hs_2 rfl rfl) (by omega) (by have := h0.le; omega)) ?_
     refine op_ex (d := 41) rfl rfl (o_append rfl rfl (pe hs_2 rfl rfl) (Own.nil w_3 w.heap.size) (hT.below HBL) rfl hTl (by omega) HBL.size) (fun v_1 w_4 hR_2 => ?_)
     obtain ⟨A_1, c_1, rfl, ho_1, hb_3, hg_1, hat_1⟩ := hR_2
     have HB_1 : Below w.heap.size w w_4 := (HBL).trans hb_3
     clear hg_1 hat_1 
     refine q_at (pe hs_2 rfl rfl) ?_
     refine q_as (.int .i64 ((0 : Nat) : Int)) rfl ?_
     refine x_nil (hK_20 _ _ ?_)
     refine w2_ret ?_
     refine ret2 rfl hd_2 (pe hs_2 rfl rfl) (pe hs_2 rfl rfl) ?_
     refine .inr ⟨_, A_1, c_1, unwrap_good (by rw [hq]; exact hsh) (by rw [hq]; exact hsz) (fun j hj => hz j (by rw [hSl] at hj; exact hj)), ?_, ?_, HB_1⟩
     ·rw [List.length_take, List.length_drop, hq, Nat.min_eq_left (by omega), show 0 + (2 + lenOf bs - 2) = lenOf bs by omega]
      rfl
     ·have h9 := ho_1
      rwa [List.nil_append, show 2 + lenOf bs - 2 = lenOf bs by omega] at h9
end Go.Proofs.Ytggalcdkfielkaa
