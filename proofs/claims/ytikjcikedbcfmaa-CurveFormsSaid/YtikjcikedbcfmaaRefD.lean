/-
 WALKS: the reference's curve: Clamp, Mult.
-/
import Derived.Test.YtikjcikedbcfmaaFForms
import Derived.Test.YtikjcikedbcfmaaMulM
import Derived.Test.YtikjcikedbcfmaaDrawnR
namespace Go.Proofs.Ytikjcikedbcfmaa
open Go.RowKit
set_option linter.unusedVariables false
set_option linter.unusedSimpArgs false
set_option maxRecDepth 100000
attribute [local irreducible] wpList wpListIn putsR

section
variable {o : Oper} {ev : Operand → Value} {w : World} {x y z : Operand} {T U t : TypeId} {g k : Nat}
theorem o_st8 {A : Option Addr} {base c i v : Nat} {xs : List Nat} (ho : o.op = .store t x y) (hx : ev x = .pointer (atA A i)) (hy : ev y = .int .u8 (v : Int)) (hO : Own w base A c xs) (hi : i < xs.length) (hv : v < 256) (ht : IsOne t) :
  ∃ w', (execOp ev o).run Try.prog w = .ok .skip w' ∧ (Own w' base A c (xs.set i v) ∧ Below base w w') := by
 obtain ⟨g, rfl, hg, hlt, hcell, hfz, hset⟩ := hO.at (by omega)
 obtain ⟨cur, hB, hcur⟩ := hO.blk (by omega)
 have hk : i < cur.size := (Array.getElem?_eq_some_iff.1 (hcur i hi)).1
 have ea : atA (some ⟨g, 0, none⟩) i = some ⟨g, i, none⟩ := by simp [atA, Addr.add_lit]
 rw [ea] at hx
 obtain ⟨_, h2⟩ := one_runs ht w
 have hst := run_storeCells_at (P := Try.prog) g i 5 [Value.int .u8 (v : Int)] 0 cur w hB (by simp; omega) (by simp [Value.oneCell'])
 have hs : (Instr.sureAddr (ev x)).run Try.prog w = .ok ⟨g, i, none⟩ w := by rw [hx]; rfl
 simp only [Nat.add_zero] at hst
 have e : cur.toList.take i ++ [Value.int .u8 (v : Int)] ++ cur.toList.drop (i + [Value.int .u8 (v : Int)].length) = cur.toList.set i (.int .u8 (v : Int)) := by
  rw [List.set_eq_take_append_cons_drop, if_pos (by simpa using hk)]; simp
 rw [e, ← Array.toList_setIfInBounds, Array.toArray_toList, ← setCell_eq_setRow w g i cur 5 (0, 0) _ hB] at hst
 refine ⟨_, ?_, hset i v hi hv, (Below.refl _ _).setCell hg _⟩
 have hvc : (Value.int .u8 (v : Int)).cells = #[.int .u8 (v : Int)] := rfl
 simp only [execOp, ho, Instr.storeAt, storeVar, Sem.run_bind, hs, Result.andThen_ok, h2, hy, hvc, List.size_toArray, List.length_cons, List.length_nil, Nat.zero_add, ne_eq, not_true, if_false, Sem.run_pure, hst]
end
theorem and_1 (x : Nat) : x &&& 1 = x % 2 := Nat.and_two_pow_sub_one_eq_mod x 1
theorem NumOf_1 (w : World) : Calls Try.prog 10 #[.int .u64 ((1 : Nat) : Int)] w fun e w' => e = .returned (.agg (iws .u64 (dg (1 : F))).toArray) ∧ Below w.heap.size w w' := by
 have h := NumOfR_any 1 w (by decide)
 rw [one_dg] at h
 exact h
/-- The reference's ladder: what lies where behind K rounds, and behind the change of places in round K. -/
def lastb (ks : List Nat) : Nat → Nat
 | 0 => 0
 | K + 1 => kbit ks (254 - K)
def sw (b : Nat) (s : F × F × F × F) : F × F × F × F := if b = 0 then s else (s.2.2.1, s.2.2.2, s.1, s.2.1)
def rS (ks : List Nat) (u : F) (K : Nat) : F × F × F × F := sw (lastb ks K) (lad ks u K)
def mS (ks : List Nat) (u : F) (K : Nat) : F × F × F × F := sw (kbit ks (254 - K)) (lad ks u K)
theorem lastb_lt (ks : List Nat) (K : Nat) : lastb ks K = 0 ∨ lastb ks K = 1 := by
 cases K with
 | zero => exact .inl rfl
 | succ K => exact kbit_lt ks _
theorem rS0 (ks : List Nat) (u : F) : rS ks u 0 = (1, 0, u, 1) := rfl
theorem mS_eq {ks : List Nat} {u : F} {K : Nat} (h : kbit ks (254 - K) = lastb ks K) : mS ks u K = rS ks u K := by unfold mS rS; rw [h]
theorem mS_ne {ks : List Nat} {u : F} {K : Nat} (h : ¬ kbit ks (254 - K) = lastb ks K) : mS ks u K = ((rS ks u K).2.2.1, (rS ks u K).2.2.2, (rS ks u K).1, (rS ks u K).2.1) := by
 unfold mS rS sw
 rcases kbit_lt ks (254 - K) with h1 | h1 <;> rcases lastb_lt ks K with h2 | h2
 ·exact absurd (h1.trans h2.symm) h
 ·rw [h1, h2]; rfl
 ·rw [h1, h2]; rfl
 ·exact absurd (h1.trans h2.symm) h
theorem rS_step (ks : List Nat) (u : F) (K : Nat) : rS ks u (K + 1) = (twiceX (mS ks u K).1 (mS ks u K).2.1, twiceZ (mS ks u K).1 (mS ks u K).2.1, bothX (mS ks u K).1 (mS ks u K).2.1 (mS ks u K).2.2.1 (mS ks u K).2.2.2, bothZ (mS ks u K).1 (mS ks u K).2.1 (mS ks u K).2.2.1 (mS ks u K).2.2.2 u) := by
 unfold rS mS
 rw [lastb, lad]
 rcases kbit_lt ks (254 - K) with h1 | h1
 ·rw [h1]; rfl
 ·rw [h1]; rfl
theorem rS_0 {ks : List Nat} {u : F} {K : Nat} (h : ¬ lastb ks K = 1) : rS ks u K = lad ks u K := by
 rcases lastb_lt ks K with h2 | h2
 ·unfold rS sw; rw [if_pos h2]
 ·exact absurd h2 h
theorem rS_1 {ks : List Nat} {u : F} {K : Nat} (h : lastb ks K = 1) : ((rS ks u K).2.2.1 = (lad ks u K).1) ∧ ((rS ks u K).2.2.2 = (lad ks u K).2.1) := by
 unfold rS sw
 rw [h]
 exact ⟨rfl, rfl⟩
theorem xmul_lad (ks us : List Nat) : (lad (clampL ks) (numL us) 255).1 * finv (lad (clampL ks) (numL us) 255).2.1 = xmul ks us := by rw [finv_eq]; rfl
theorem nb_zero {x : F} (h : x.val = 0) (j : Nat) : (nbL x).getD j 0 = 0 := by
 rw [nbL_eq, h]
 simp only [List.getD_eq_getElem?_getD, List.getElem?_map]
 cases hj : (List.range 32)[j]? with
 | none => rfl
 | some v => simp
theorem nb_all {x : F} (h : ∀ j, j < 32 → (nbL x).getD j 0 = 0) : x.val = 0 := by
 have e : nbL x = nbL 0 := by
  refine List.ext_getElem (by rw [nbL_length, nbL_length]) (fun j h1 h2 => ?_)
  have h3 := h j (by rw [nbL_length] at h1; exact h1)
  have h4 := nb_zero (x := 0) (by decide) j
  rw [List.getD_eq_getElem?_getD, List.getElem?_eq_getElem h1] at h3
  rw [List.getD_eq_getElem?_getD, List.getElem?_eq_getElem h2] at h4
  exact h3.trans h4.symm
 rw [nbL_byte, nbL_byte] at e
 rw [byteL_F] at e
 rw [e]
 decide
set_option maxHeartbeats 2000000 in
theorem ClampR_ok {A : Option Addr} {c q : Nat} {ks : List Nat} (w : World) (h0 : Bs w A c ks) (hq : ks.length = q) (h32 : q = 32) :
  Calls Try.prog 24 #[.slice A (q) (c)] w fun e w' => ∃ A c, e = .returned (.tuple #[.slice A 32 c, .int .i64 0]) ∧ Own w' w.heap.size A c (clampL ks) ∧ Below w.heap.size w w' := by
 refine x_enter 22 Try.func24 rfl rfl (fun a hs hd ha0 => ?_)
 have t0 : a.eval (.tmp 0) = .slice A (q) (c) := ha0 0 _ rfl
 clear ha0
 refine w2_sr (fun K_1 hK_1 => ?_)
 refine q_as (.slice none (0) (0)) rfl ?_
 refine q_as (.int .i64 ((0 : Nat) : Int)) rfl ?_
 refine x_nil (hK_1 _ _ ?_)
 refine w2_seq (fun K_2 hK_2 => ?_)
 refine w2_sr (fun K_3 hK_3 => ?_)
 refine q_mv ((pm rfl).trans t0) ?_
 refine q_v 5 (.int .i64 ((q : Nat) : Int)) (o_len rfl (pe hs rfl rfl)) ?_
 refine q_v 6 (.bool (false)) (o_eq (o_neq (m := q) (n := 32) rfl (pe hs rfl rfl) rfl) (by rw [decide_eq_true h32]; rfl)) ?_
 refine x_nil (hK_3 _ _ ?_)
 refine w2_condF (pe hs rfl rfl) ?_
 refine w2_skip ?_
 refine hK_2 _ _ ?_
 refine w2_sr (fun K_4 hK_4 => ?_)
 refine q_mv ((pm rfl).trans t0) ?_
 refine op_ex (d := 8) rfl rfl (o_append rfl rfl (pe hs rfl rfl) (Own.nil w w.heap.size) h0 rfl hq (by omega) (Nat.le_refl _)) (fun v_1 w_1 hR_1 => ?_)
 obtain ⟨A_1, c_1, rfl, ho_1, hb_1, hg_1, hat_1⟩ := hR_1
 have HB_1 : Below w.heap.size w w_1 := hb_1
 clear hg_1 hat_1 
 refine q_at (pe hs rfl rfl) ?_
 refine x_nil (hK_4 _ _ ?_)
 refine w2_seq (fun K_5 hK_5 => ?_)
 have b0 := getD_lt ho_1.b8 0
 have hl4 : (([]) ++ ks).length = 32 := by rw [List.nil_append, hq, h32]
 refine x_region (by kernel_rfl) ?_
 refine q_mv (pe hs rfl rfl) ?_
 refine q_v 10 (.pointer (atA A_1 (0))) (o_ix (k := 0) rfl (pe hs rfl rfl) rfl (by omega) ((ho_1).bs.some (by rw [hl4]; omega))) ?_
 refine q_v 11 (.int .u8 (((([]) ++ ks).getD (0) 0 : Nat) : Int)) (o_ld8 rfl (pe hs rfl rfl) (ho_1).bs (by rw [hl4]; omega) rfl) ?_
 refine q_v 12 (.int .u8 ((((([]) ++ ks).getD (0) 0) &&& 248 : Nat) : Int)) (o_bits (m := ((([]) ++ ks).getD (0) 0)) (n := 248) (((([]) ++ ks).getD (0) 0) &&& 248) rfl (pe hs rfl rfl) rfl (by decide) (u8_and_nat _ _ b0 (by decide))) ?_
 refine q_v 13 (.pointer (atA A_1 (0))) (o_ix (k := 0) rfl (pe hs rfl rfl) rfl (by omega) ((ho_1).bs.some (by rw [hl4]; omega))) ?_
 refine op_do rfl rfl (o_st8 rfl (pe hs rfl rfl) (pe hs rfl rfl) ho_1 (by have h9 : (([]) ++ ks).length = 32 := hl4; omega) (Nat.lt_of_le_of_lt Nat.and_le_left b0) ⟨by kernel_rfl, by kernel_rfl⟩) (fun w_2 hR_2 => ?_)
 obtain ⟨ho_2, hb_2⟩ := hR_2
 have HB_2 := HB_1.trans hb_2
 refine x_nil (hK_5 _ _ ?_)
 refine w2_seq (fun K_6 hK_6 => ?_)
 have b31 := getD_lt ho_2.b8 31
 have hl5 : ((([]) ++ ks).set (0) (((([]) ++ ks).getD (0) 0) &&& 248)).length = 32 := by rw [List.length_set]; exact hl4
 refine x_region (by kernel_rfl) ?_
 refine q_mv (pe hs rfl rfl) ?_
 refine q_mv (pe hs rfl rfl) ?_
 refine q_v 16 (.pointer (atA A_1 (31))) (o_ix (k := 31) rfl (pe hs rfl rfl) rfl (by omega) ((ho_2).bs.some (by rw [hl5]; omega))) ?_
 refine q_v 17 (.int .u8 ((((([]) ++ ks).set (0) (((([]) ++ ks).getD (0) 0) &&& 248)).getD (31) 0 : Nat) : Int)) (o_ld8 rfl (pe hs rfl rfl) (ho_2).bs (by rw [hl5]; omega) rfl) ?_
 refine q_v 18 (.int .u8 (((((([]) ++ ks).set (0) (((([]) ++ ks).getD (0) 0) &&& 248)).getD (31) 0) &&& 127 : Nat) : Int)) (o_bits (m := (((([]) ++ ks).set (0) (((([]) ++ ks).getD (0) 0) &&& 248)).getD (31) 0)) (n := 127) ((((([]) ++ ks).set (0) (((([]) ++ ks).getD (0) 0) &&& 248)).getD (31) 0) &&& 127) rfl (pe hs rfl rfl) rfl (by decide) (u8_and_nat _ _ b31 (by decide))) ?_
 refine q_v 19 (.int .u8 ((((((([]) ++ ks).set (0) (((([]) ++ ks).getD (0) 0) &&& 248)).getD (31) 0) &&& 127) ||| 64 : Nat) : Int)) (o_bits (m := ((((([]) ++ ks).set (0) (((([]) ++ ks).getD (0) 0) &&& 248)).getD (31) 0) &&& 127)) (n := 64) (((((([]) ++ ks).set (0) (((([]) ++ ks).getD (0) 0) &&& 248)).getD (31) 0) &&& 127) ||| 64) rfl (pe hs rfl rfl) rfl (by decide) (u8_or_nat _ _ (Nat.lt_of_le_of_lt Nat.and_le_left b31) (by decide))) ?_
 refine q_v 20 (.pointer (atA A_1 (31))) (o_ix (k := 31) rfl (pe hs rfl rfl) rfl (by omega) ((ho_2).bs.some (by rw [hl5]; omega))) ?_
 refine op_do rfl rfl (o_st8 rfl (pe hs rfl rfl) (pe hs rfl rfl) ho_2 (by have h9 : ((([]) ++ ks).set (0) (((([]) ++ ks).getD (0) 0) &&& 248)).length = 32 := hl5; omega) (top_lt _ b31) ⟨by kernel_rfl, by kernel_rfl⟩) (fun w_3 hR_3 => ?_)
 obtain ⟨ho_3, hb_3⟩ := hR_3
 have HB_3 := HB_2.trans hb_3
 refine x_nil (hK_6 _ _ ?_)
 refine w2_sr (fun K_7 hK_7 => ?_)
 refine q_mv (pe hs rfl rfl) ?_
 refine q_at (pe hs rfl rfl) ?_
 refine q_as (.int .i64 ((0 : Nat) : Int)) rfl ?_
 refine x_nil (hK_7 _ _ ?_)
 refine w2_ret ?_
 refine ret2 rfl hd (pe hs rfl rfl) (pe hs rfl rfl) ?_
 have ec : ((([]) ++ ks).set (0) (((([]) ++ ks).getD (0) 0) &&& 248)).set (31) (((((([]) ++ ks).set (0) (((([]) ++ ks).getD (0) 0) &&& 248)).getD (31) 0) &&& 127) ||| 64) = clampL ks := by unfold clampL; rw [List.nil_append, getD_set_ne (by decide)]
 rw [ec] at ho_3
 exact ⟨_, _, by rw [show 0 + q = 32 by omega]; rfl, ho_3, HB_3⟩
theorem ClampR_no {A : Option Addr} {c q : Nat} (w : World) (h32 : ¬ q = 32) :
  Calls Try.prog 24 #[.slice A (q) (c)] w fun e w' => e = .returned (.tuple #[.slice none 0 0, .int .i64 1]) ∧ w = w' := by
 refine x_enter 22 Try.func24 rfl rfl (fun a hs hd ha0 => ?_)
 have t0 : a.eval (.tmp 0) = .slice A (q) (c) := ha0 0 _ rfl
 clear ha0
 refine w2_sr (fun K_1 hK_1 => ?_)
 refine q_as (.slice none (0) (0)) rfl ?_
 refine q_as (.int .i64 ((0 : Nat) : Int)) rfl ?_
 refine x_nil (hK_1 _ _ ?_)
 refine w2_seq (fun K_2 hK_2 => ?_)
 refine w2_sr (fun K_3 hK_3 => ?_)
 refine q_mv ((pm rfl).trans t0) ?_
 refine q_v 5 (.int .i64 ((q : Nat) : Int)) (o_len rfl (pe hs rfl rfl)) ?_
 refine q_v 6 (.bool (true)) (o_eq (o_neq (m := q) (n := 32) rfl (pe hs rfl rfl) rfl) (by rw [decide_eq_false h32]; rfl)) ?_
 refine x_nil (hK_3 _ _ ?_)
 refine w2_condT (pe hs rfl rfl) ?_
 refine w2_sr (fun K_4 hK_4 => ?_)
 refine q_as (.slice none (0) (0)) rfl ?_
 refine q_as (.int .i64 ((1 : Nat) : Int)) rfl ?_
 refine x_nil (hK_4 _ _ ?_)
 refine w2_ret ?_
 refine thn_ret ?_
 refine ret2 rfl hd (pe hs rfl rfl) (pe hs rfl rfl) ?_
 exact ⟨rfl, rfl⟩
theorem clampL_len {ks : List Nat} {q : Nat} (h : ks.length = q) (h2 : q = 32) : (clampL ks).length = 32 := by unfold clampL; rw [List.length_set, List.length_set, h, h2]
theorem MultR_no0 {A B : Option Addr} {c d q m : Nat} {ks us : List Nat} (w : World) (h0 : Bs w A c ks) (hk : ks.length = q) (h1 : Bs w B d us) (hm : us.length = m) (hk32 : ¬ q = 32) (hm32 : m = 32) :
  Calls Try.prog 26 #[.slice A (q) (c), .slice B (m) (d)] w fun e w' => e = .returned (.tuple #[.slice none 0 0, .int .i64 1]) ∧ Below w.heap.size w w' := by
 refine x_enter 143 Try.func26 rfl rfl (fun a hs hd ha0 => ?_)
 have t0 : a.eval (.tmp 0) = .slice A (q) (c) := ha0 0 _ rfl
 have t1 : a.eval (.tmp 1) = .slice B (m) (d) := ha0 1 _ rfl
 clear ha0
 refine w2_sr (fun K_1 hK_1 => ?_)
 refine q_as (.slice none (0) (0)) rfl ?_
 refine q_as (.int .i64 ((0 : Nat) : Int)) rfl ?_
 refine x_nil (hK_1 _ _ ?_)
 refine w2_sr (fun K_2 hK_2 => ?_)
 refine q_mv ((pm rfl).trans t0) ?_
 refine q_ca (vs := #[.slice A (q) (c)]) Try.func24 (args1 (pe hs rfl rfl)) (ClampR_no _ hk32) (fun e_1 w_1 hR_1 => ?_)
 obtain ⟨rfl, rfl⟩ := hR_1
 refine ⟨_, rfl, ?_⟩
 refine q_mv (pe hs rfl rfl) ?_
 refine q_ex (v := .slice none (0) (0)) (pe hs rfl rfl) rfl ?_
 refine q_ex (v := .int .i64 ((1 : Nat) : Int)) (pe hs rfl rfl) rfl ?_
 refine q_at (pe hs rfl rfl) ?_
 refine q_at (v := .int .i64 ((1 : Nat) : Int)) (pe hs rfl rfl) ?_
 refine x_nil (hK_2 _ _ ?_)
 refine w2_sr (fun K_3 hK_3 => ?_)
 refine q_mv ((pm rfl).trans t1) ?_
 refine q_ca (vs := #[.slice B (m) (d)]) Try.func7 (args1 (pe hs rfl rfl)) (ParseNum_ok _ h1 hm hm32) (fun e_2 w_2 hR_2 => ?_)
 obtain ⟨rfl, hb_3⟩ := hR_2
 refine ⟨_, rfl, ?_⟩
 refine q_mv (pe hs rfl rfl) ?_
 refine q_ex (v := .agg (iws .u64 (dg (numL us))).toArray) (pe hs rfl rfl) rfl ?_
 refine q_ex (v := .int .i64 ((0 : Nat) : Int)) (pe hs rfl rfl) rfl ?_
 refine op_ex (d := 8) rfl rfl (o_alloc (zs := (iws .u64 (List.replicate 16 0)).toArray) rfl (fun _ => by kernel_rfl)) (fun v_1 w_3 hR_3 => ?_)
 obtain ⟨g_1, rfl, hle_1, hB_1, hb_4⟩ := hR_3
 have ge_1 : w.heap.size ≤ g_1 := Nat.le_trans hb_3.size hle_1
 have HB_1 := below_from hb_3 hb_4
 refine op_do rfl rfl (o_storeI rfl (pe hs rfl rfl) (pe hs rfl rfl) hB_1 (by rw [(dg_length _)]; exact ⟨by kernel_rfl, by kernel_rfl⟩) (by simp [iws, dg_length])) (fun w_4 hR_4 => ?_)
 obtain ⟨hB_2, hX_1⟩ := hR_4
 have HB_2 := hX_1.below HB_1 HB_1.size (fun k hk => hk ▸ ge_1)
 clear hB_1
 refine q_at (v := .int .i64 ((0 : Nat) : Int)) (pe hs rfl rfl) ?_
 refine x_nil (hK_3 _ _ ?_)
 refine w2_seq (fun K_4 hK_4 => ?_)
 refine w2_sr (fun K_5 hK_5 => ?_)
 refine q_mv (v := .int .i64 ((1 : Nat) : Int)) (pe hs rfl rfl) ?_
 refine q_v 42 (.bool (true)) (o_eq (o_neq (m := 1) (n := 0) rfl (pe hs rfl rfl) rfl) rfl) ?_
 refine q_mv (pe hs rfl rfl) ?_
 refine op_left (e := 43) rfl rfl (by kernel_rfl) (pe hs rfl rfl) rfl ?_
 refine op_left (e := 43) rfl rfl (by kernel_rfl) (pe hs rfl rfl) rfl ?_
 refine q_v 46 (.bool (true)) (o_pickT rfl (pe hs rfl rfl) rfl) ?_
 refine x_nil (hK_5 _ _ ?_)
 refine w2_condT (pe hs rfl rfl) ?_
 refine w2_sr (fun K_6 hK_6 => ?_)
 refine q_as (.slice none (0) (0)) rfl ?_
 refine q_as (.int .i64 ((1 : Nat) : Int)) rfl ?_
 refine x_nil (hK_6 _ _ ?_)
 refine w2_ret ?_
 refine thn_ret ?_
 refine ret2 rfl hd (pe hs rfl rfl) (pe hs rfl rfl) ?_
 exact ⟨rfl, HB_2⟩
theorem MultR_no1 {A B : Option Addr} {c d q m : Nat} {ks us : List Nat} (w : World) (h0 : Bs w A c ks) (hk : ks.length = q) (h1 : Bs w B d us) (hm : us.length = m) (hk32 : q = 32) (hm32 : ¬ m = 32) :
  Calls Try.prog 26 #[.slice A (q) (c), .slice B (m) (d)] w fun e w' => e = .returned (.tuple #[.slice none 0 0, .int .i64 1]) ∧ Below w.heap.size w w' := by
 refine x_enter 143 Try.func26 rfl rfl (fun a hs hd ha0 => ?_)
 have t0 : a.eval (.tmp 0) = .slice A (q) (c) := ha0 0 _ rfl
 have t1 : a.eval (.tmp 1) = .slice B (m) (d) := ha0 1 _ rfl
 clear ha0
 refine w2_sr (fun K_1 hK_1 => ?_)
 refine q_as (.slice none (0) (0)) rfl ?_
 refine q_as (.int .i64 ((0 : Nat) : Int)) rfl ?_
 refine x_nil (hK_1 _ _ ?_)
 refine w2_sr (fun K_2 hK_2 => ?_)
 refine q_mv ((pm rfl).trans t0) ?_
 refine q_ca (vs := #[.slice A (q) (c)]) Try.func24 (args1 (pe hs rfl rfl)) (ClampR_ok _ h0 hk hk32) (fun e_1 w_1 hR_1 => ?_)
 obtain ⟨A_1, c_1, rfl, ho_1, hb_1⟩ := hR_1
 refine ⟨_, rfl, ?_⟩
 refine q_mv (pe hs rfl rfl) ?_
 refine q_ex (v := .slice A_1 (32) (c_1)) (pe hs rfl rfl) rfl ?_
 refine q_ex (v := .int .i64 ((0 : Nat) : Int)) (pe hs rfl rfl) rfl ?_
 refine q_at (pe hs rfl rfl) ?_
 refine q_at (v := .int .i64 ((0 : Nat) : Int)) (pe hs rfl rfl) ?_
 refine x_nil (hK_2 _ _ ?_)
 refine w2_sr (fun K_3 hK_3 => ?_)
 refine q_mv ((pm rfl).trans t1) ?_
 refine q_ca (vs := #[.slice B (m) (d)]) Try.func7 (args1 (pe hs rfl rfl)) (ParseNum_no0 _ (h1.below hb_1) hm hm32) (fun e_2 w_2 hR_2 => ?_)
 obtain ⟨rfl, hb_3⟩ := hR_2
 have HB_1 := below_from hb_1 hb_3
 refine ⟨_, rfl, ?_⟩
 refine q_mv (pe hs rfl rfl) ?_
 refine q_ex (v := .agg (iws .u64 (dg (0 : F))).toArray) (pe hs rfl rfl) rfl ?_
 refine q_ex (v := .int .i64 ((1 : Nat) : Int)) (pe hs rfl rfl) rfl ?_
 refine op_ex (d := 8) rfl rfl (o_alloc (zs := (iws .u64 (List.replicate 16 0)).toArray) rfl (fun _ => by kernel_rfl)) (fun v_1 w_3 hR_3 => ?_)
 obtain ⟨g_1, rfl, hle_1, hB_1, hb_4⟩ := hR_3
 have ge_1 : w.heap.size ≤ g_1 := Nat.le_trans HB_1.size hle_1
 have HB_2 := below_from HB_1 hb_4
 refine op_do rfl rfl (o_storeI rfl (pe hs rfl rfl) (pe hs rfl rfl) hB_1 (by rw [(dg_length _)]; exact ⟨by kernel_rfl, by kernel_rfl⟩) (by simp [iws, dg_length])) (fun w_4 hR_4 => ?_)
 obtain ⟨hB_2, hX_1⟩ := hR_4
 have HB_3 := hX_1.below HB_2 HB_2.size (fun k hk => hk ▸ ge_1)
 clear hB_1
 refine q_at (v := .int .i64 ((1 : Nat) : Int)) (pe hs rfl rfl) ?_
 refine x_nil (hK_3 _ _ ?_)
 refine w2_seq (fun K_4 hK_4 => ?_)
 refine w2_sr (fun K_5 hK_5 => ?_)
 refine q_mv (v := .int .i64 ((0 : Nat) : Int)) (pe hs rfl rfl) ?_
 refine q_v 42 (.bool (false)) (o_eq (o_neq (m := 0) (n := 0) rfl (pe hs rfl rfl) rfl) rfl) ?_
 refine q_mv (pe hs rfl rfl) ?_
 refine op_valG (e := 43) (d := 44) (v := .int .i64 ((1 : Nat) : Int)) rfl rfl (by kernel_rfl) (pe hs rfl rfl) (o_move rfl (pe hs rfl rfl)) ?_
 refine op_valG (e := 43) (d := 45) (v := .bool (true)) rfl rfl (by kernel_rfl) (pe hs rfl rfl) (o_eq (o_neq (m := 1) (n := 0) rfl (pe hs rfl rfl) rfl) rfl) ?_
 refine q_v 46 (.bool (true)) (o_pickF rfl (pe hs rfl rfl) (pe hs rfl rfl)) ?_
 refine x_nil (hK_5 _ _ ?_)
 refine w2_condT (pe hs rfl rfl) ?_
 refine w2_sr (fun K_6 hK_6 => ?_)
 refine q_as (.slice none (0) (0)) rfl ?_
 refine q_as (.int .i64 ((1 : Nat) : Int)) rfl ?_
 refine x_nil (hK_6 _ _ ?_)
 refine w2_ret ?_
 refine thn_ret ?_
 refine ret2 rfl hd (pe hs rfl rfl) (pe hs rfl rfl) ?_
 exact ⟨rfl, HB_3⟩
theorem MultR_no2 {A B : Option Addr} {c d q m : Nat} {ks us : List Nat} (w : World) (h0 : Bs w A c ks) (hk : ks.length = q) (h1 : Bs w B d us) (hm : us.length = m) (hk32 : ¬ q = 32) (hm32 : ¬ m = 32) :
  Calls Try.prog 26 #[.slice A (q) (c), .slice B (m) (d)] w fun e w' => e = .returned (.tuple #[.slice none 0 0, .int .i64 1]) ∧ Below w.heap.size w w' := by
 refine x_enter 143 Try.func26 rfl rfl (fun a hs hd ha0 => ?_)
 have t0 : a.eval (.tmp 0) = .slice A (q) (c) := ha0 0 _ rfl
 have t1 : a.eval (.tmp 1) = .slice B (m) (d) := ha0 1 _ rfl
 clear ha0
 refine w2_sr (fun K_1 hK_1 => ?_)
 refine q_as (.slice none (0) (0)) rfl ?_
 refine q_as (.int .i64 ((0 : Nat) : Int)) rfl ?_
 refine x_nil (hK_1 _ _ ?_)
 refine w2_sr (fun K_2 hK_2 => ?_)
 refine q_mv ((pm rfl).trans t0) ?_
 refine q_ca (vs := #[.slice A (q) (c)]) Try.func24 (args1 (pe hs rfl rfl)) (ClampR_no _ hk32) (fun e_1 w_1 hR_1 => ?_)
 obtain ⟨rfl, rfl⟩ := hR_1
 refine ⟨_, rfl, ?_⟩
 refine q_mv (pe hs rfl rfl) ?_
 refine q_ex (v := .slice none (0) (0)) (pe hs rfl rfl) rfl ?_
 refine q_ex (v := .int .i64 ((1 : Nat) : Int)) (pe hs rfl rfl) rfl ?_
 refine q_at (pe hs rfl rfl) ?_
 refine q_at (v := .int .i64 ((1 : Nat) : Int)) (pe hs rfl rfl) ?_
 refine x_nil (hK_2 _ _ ?_)
 refine w2_sr (fun K_3 hK_3 => ?_)
 refine q_mv ((pm rfl).trans t1) ?_
 refine q_ca (vs := #[.slice B (m) (d)]) Try.func7 (args1 (pe hs rfl rfl)) (ParseNum_no0 _ h1 hm hm32) (fun e_2 w_2 hR_2 => ?_)
 obtain ⟨rfl, hb_3⟩ := hR_2
 refine ⟨_, rfl, ?_⟩
 refine q_mv (pe hs rfl rfl) ?_
 refine q_ex (v := .agg (iws .u64 (dg (0 : F))).toArray) (pe hs rfl rfl) rfl ?_
 refine q_ex (v := .int .i64 ((1 : Nat) : Int)) (pe hs rfl rfl) rfl ?_
 refine op_ex (d := 8) rfl rfl (o_alloc (zs := (iws .u64 (List.replicate 16 0)).toArray) rfl (fun _ => by kernel_rfl)) (fun v_1 w_3 hR_3 => ?_)
 obtain ⟨g_1, rfl, hle_1, hB_1, hb_4⟩ := hR_3
 have ge_1 : w.heap.size ≤ g_1 := Nat.le_trans hb_3.size hle_1
 have HB_1 := below_from hb_3 hb_4
 refine op_do rfl rfl (o_storeI rfl (pe hs rfl rfl) (pe hs rfl rfl) hB_1 (by rw [(dg_length _)]; exact ⟨by kernel_rfl, by kernel_rfl⟩) (by rw [(dg_length _)]; simp [iws])) (fun w_4 hR_4 => ?_)
 obtain ⟨hB_2, hX_1⟩ := hR_4
 have HB_2 := hX_1.below HB_1 HB_1.size (fun k hk => hk ▸ ge_1)
 clear hB_1
 refine q_at (v := .int .i64 ((1 : Nat) : Int)) (pe hs rfl rfl) ?_
 refine x_nil (hK_3 _ _ ?_)
 refine w2_seq (fun K_4 hK_4 => ?_)
 refine w2_sr (fun K_5 hK_5 => ?_)
 refine q_mv (v := .int .i64 ((1 : Nat) : Int)) (pe hs rfl rfl) ?_
 refine q_v 42 (.bool (true)) (o_eq (o_neq (m := 1) (n := 0) rfl (pe hs rfl rfl) rfl) rfl) ?_
 refine q_mv (pe hs rfl rfl) ?_
 refine op_left (e := 43) rfl rfl (by kernel_rfl) (pe hs rfl rfl) rfl ?_
 refine op_left (e := 43) rfl rfl (by kernel_rfl) (pe hs rfl rfl) rfl ?_
 refine q_v 46 (.bool (true)) (o_pickT rfl (pe hs rfl rfl) rfl) ?_
 refine x_nil (hK_5 _ _ ?_)
 refine w2_condT (pe hs rfl rfl) ?_
 refine w2_sr (fun K_6 hK_6 => ?_)
 refine q_as (.slice none (0) (0)) rfl ?_
 refine q_as (.int .i64 ((1 : Nat) : Int)) rfl ?_
 refine x_nil (hK_6 _ _ ?_)
 refine w2_ret ?_
 refine thn_ret ?_
 refine ret2 rfl hd (pe hs rfl rfl) (pe hs rfl rfl) ?_
 exact ⟨rfl, HB_2⟩
end Go.Proofs.Ytikjcikedbcfmaa
