/-
 WALKS: sapperlaw5.same, FieldForms.
-/
import Derived.Test.YtikjcikedbcfmaaRefC
import Derived.Test.YtikjcikedbcfmaaTwoParse
import Derived.Test.YtikjcikedbcfmaaFldM
import Derived.Test.YtikjcikedbcfmaaRow
namespace Go.Proofs.Ytikjcikedbcfmaa
open Go.RowKit
set_option linter.unusedVariables false
set_option linter.unusedSimpArgs false
set_option maxRecDepth 100000
attribute [local irreducible] wpList wpListIn putsR

section
variable {o : Oper} {ev : Operand → Value} {w : World} {x y z : Operand} {T U t : TypeId} {g k : Nat}
theorem o_str {A : Option Addr} {n c : Nat} {xs : List Nat} (ho : o.op = .convert 22 9 x) (hx : ev x = .slice A n c) (hB : Bs w A c xs) (hn : xs.length = n) :
  (execOp ev o).run Try.prog w = .ok (.value (.string (strB xs))) w := by
 subst hn
 have h := conv_str hB
 simp only [execOp, ho, hx, Sem.run_bind, h]
 rfl
theorem o_eqS {s r : ByteArray} (ho : o.op = .binOp .eql T x y U) (hx : ev x = .string s) (hy : ev y = .string r) (hb : s = r) : (execOp ev o).run Try.prog w = .ok (.value (.bool true)) w := by
 subst hb
 simp [execOp, ho, hx, hy, go_sem]
theorem o_neS {s r : ByteArray} (ho : o.op = .binOp .neq T x y U) (hx : ev x = .string s) (hy : ev y = .string r) (hb : s = r) : (execOp ev o).run Try.prog w = .ok (.value (.bool false)) w := by
 subst hb
 simp [execOp, ho, hx, hy, go_sem]
theorem ba_beq (s r : ByteArray) : (s.toList == r.toList) = decide (s = r) := by
 rw [ByteArray.toList_eq, ByteArray.toList_eq]
 cases s with | mk a => cases r with | mk b =>
 by_cases h : a = b
 ·subst h; simp
 ·rw [decide_eq_false (by simpa using h)]; simpa using fun e => h (Array.ext' e)
theorem o_eqSD {s r : ByteArray} (ho : o.op = .binOp .eql T x y U) (hx : ev x = .string s) (hy : ev y = .string r) : (execOp ev o).run Try.prog w = .ok (.value (.bool (decide (s = r)))) w := by
 rw [← ba_beq]
 simp [execOp, ho, hx, hy, go_sem]
theorem o_neSD {s r : ByteArray} (ho : o.op = .binOp .neq T x y U) (hx : ev x = .string s) (hy : ev y = .string r) : (execOp ev o).run Try.prog w = .ok (.value (.bool (!decide (s = r)))) w := by
 rw [← ba_beq]
 simp [execOp, ho, hx, hy, go_sem]
theorem equalIn_bool (d : Nat) {s r : Bool} (hT : ∀ w, (underlying T).run Try.prog w = .ok .bool w) : (Op.equalIn (d + 1) T (.bool s) (.bool r)).run Try.prog w = .ok (s == r) w := by
 simp [Op.equalIn, hT, Sem.run_bind, Sem.run_pure]
theorem o_eqB {s r : Bool} (ho : o.op = .binOp .eql T x y U) (hx : ev x = .bool s) (hy : ev y = .bool r) (hT : ∀ w, (underlying T).run Try.prog w = .ok .bool w) : (execOp ev o).run Try.prog w = .ok (.value (.bool (s == r))) w := by
 have e1 : (Op.equal T (.bool s) (.bool r)).run Try.prog w = .ok (s == r) w := equalIn_bool 9999 hT
 simp [execOp, ho, hx, hy, eqGuard, binOp, e1, Sem.run_bind, Sem.run_pure]
theorem o_storeL {l vs : List Value} (ho : o.op = .store t x y) (hx : ev x = .pointer (some ⟨g, 0, none⟩)) (hy : ev y = .agg vs.toArray) (hB : Blk w g l.toArray T) (ht : IsAgg t vs.length) (hl : l.length = vs.length) (h1 : ∀ v ∈ vs, v.oneCell' = true) :
  ∃ w', (execOp ev o).run Try.prog w = .ok .skip w' ∧ Blk w' g vs.toArray T ∧ BelowX (fun k => k = g) w w' := by
 obtain ⟨w', h2, h3, h4⟩ := o_storeA ho hx hy hB ht (by rw [hl]; omega) h1
 refine ⟨w', h2, ?_, h4⟩
 have e : l.take 0 ++ vs ++ l.drop (0 + vs.length) = vs := by
  rw [Nat.zero_add, ← hl, List.drop_length]; simp
 rw [e] at h3
 exact h3
theorem loadL {vs : List Value} (hB : Blk w g vs.toArray T) (ht : IsAgg t vs.length) : (loadVar t ⟨g, 0, none⟩).run Try.prog w = .ok (.agg vs.toArray) w := by
 obtain ⟨h1, h2⟩ := agg_runs ht w
 have hld : (loadCells ⟨g, 0, none⟩ vs.length).run Try.prog w = .ok vs.toArray w := run_loadCells_list w _ vs (fun j v hj => by
  have e : (⟨g, 0, none⟩ : Addr).add j = ⟨g, 0 + j, none⟩ := by unfold Addr.add; split <;> simp_all
  rw [e, hB.cell]
  simpa using hj)
 simp only [loadVar, Sem.run_bind, h1, Result.andThen_ok, if_true, h2, hld, Sem.run_pure]
theorem o_boxL {cs : Array Value} (ho : o.op = .box t x) (hx : ev x = .agg cs) :
  ∃ u w', (execOp ev o).run Try.prog w = .ok (.value u) w' ∧ ∃ g, u = .pointer (some ⟨g, 0, none⟩) ∧ w.heap.size ≤ g ∧ Blk w' g cs t ∧ Below w.heap.size w w' := by
 refine ⟨_, w.alloc (.cells cs t), ?_, w.heap.size, rfl, Nat.le_refl _, Blk.new w _ _, (Below.refl _ _).alloc (Nat.le_refl _) _⟩
 have hv : (Value.agg cs).cells = cs := by simp [Value.cells]
 simp only [execOp, ho, hx, Instr.box, newVar, newRow, hv, Sem.run_bind, Sem.run_pure, run_newObj, Result.andThen_ok]
 rfl
theorem o_loadS {vs : List Value} (ho : o.op = .load t x) (hx : ev x = .pointer (some ⟨g, 0, none⟩)) (hB : Blk w g vs.toArray T) (ht : IsAgg t vs.length) : (execOp ev o).run Try.prog w = .ok (.value (.agg vs.toArray)) w :=
 o_loadA vs ho hx hB ht (by rw [List.drop_zero]; exact List.take_length)
end
theorem wf_u64 {n : Int} (h : (Lit.int .u64 n).wf = true) : 0 ≤ n ∧ n < 18446744073709551616 := by
 have := bounds_u64 h
 omega
theorem stEl {x : F} : StP (fun _ v => ElV x v) := fun _ _ _ h _ => h
theorem zero_El : El (0 : F) 0 0 0 0 0 := ⟨by decide, by decide, by decide, by decide, by decide, by decide, by decide, by decide, by decide, by decide, by decide +kernel⟩
theorem zero_dg : digN 0 = dg 0 := by decide +kernel
theorem rep_dg : List.replicate 16 0 = dg 0 := by decide +kernel
theorem nbL_byte (x : F) : nbL x = byteL x.val := by
 rw [nbL_eq]
 unfold byteL
 refine List.map_congr_left (fun j _ => ?_)
 unfold byteOf
 rw [Nat.mod_eq_of_lt (Nat.lt_trans x.isLt (show P < 2 ^ 255 by decide +kernel))]
theorem nbL_lt (x : F) : ∀ b ∈ nbL x, b < 256 := by
 rw [nbL_eq]
 intro b hb
 obtain ⟨j, _, rfl⟩ := List.mem_map.1 hb
 exact Nat.mod_lt _ (by decide)
theorem same_nb (x y : F) : (decide (x = y) == decide (strB (nbL x) = strB (nbL y))) = true := by
 have e : (strB (nbL x) = strB (nbL y)) = (x = y) := by rw [strB_inj (nbL_lt x) (nbL_lt y), nbL_byte, nbL_byte, byteL_F]
 simp [e]
theorem two_own {A : Option Addr} {c n : Nat} {xs : List Nat} (w : World) (ha : Bs w A c xs) (hn : xs.length = n) :
  Calls Try.prog 11 #[.slice A n c] w fun e w' => ∃ A c, e = .returned (.slice A 32 c) ∧ Own w' w.heap.size A c (padTo 32 xs) ∧ Below w.heap.size w w' := by
 refine Calls.mono (two_n hn w ha) ?_
 rintro e w' ⟨g, h1, h2, h3, h4⟩
 have h5 := Own.of_blk h3 h2 (padTo_lt ha.b8) (by rw [padTo_length]; decide)
 rw [padTo_length] at h5
 exact ⟨_, _, h1, h5, h4⟩
theorem Bytes_own {x : F} {a0 a1 a2 a3 a4 : Int} (w : World) (ha : El x a0 a1 a2 a3 a4) :
  Calls Try.prog 30 #[.agg #[.int .u64 a0, .int .u64 a1, .int .u64 a2, .int .u64 a3, .int .u64 a4]] w fun e w' => ∃ A c, e = .returned (.slice A 32 c) ∧ Own w' w.heap.size A c (nbL x) ∧ Below w.heap.size w w' := by
 refine Calls.mono (Bytes_any ha w) ?_
 rintro e w' ⟨g, h1, h2, h3, h4⟩
 have e1 : byteA x.val 255 = (u8s (nbL x)).toArray := by rw [nbL_byte]; simp [byteA, byteL, u8s]
 rw [e1] at h3
 have h5 := Own.of_blk h3 h2 (nbL_lt x) (by rw [nbL_length]; decide)
 rw [nbL_length] at h5
 exact ⟨_, _, h1, h5, h4⟩
theorem ParseE_ok {A : Option Addr} {c q : Nat} {xs : List Nat} (w : World) (h0 : Bs w A c xs) (hq : xs.length = q) (h32 : q = 32) :
  Calls Try.prog 6 #[.slice A q c] w fun e w' => ∃ r0 r1 r2 r3 r4 : Int, e = .returned (.tuple #[.agg #[.int .u64 r0, .int .u64 r1, .int .u64 r2, .int .u64 r3, .int .u64 r4], .int .i64 ((0 : Nat) : Int)]) ∧ El (numL xs) r0 r1 r2 r3 r4 ∧ Below w.heap.size w w' := by
 subst hq
 exact Parse_any w h0 h32
theorem ParseE_no {A : Option Addr} {c q : Nat} {xs : List Nat} (w : World) (h0 : Bs w A c xs) (hq : xs.length = q) (h32 : ¬ q = 32) :
  Calls Try.prog 6 #[.slice A q c] w fun e w' => e = .returned (.tuple #[.agg #[.int .u64 0, .int .u64 0, .int .u64 0, .int .u64 0, .int .u64 0], .int .i64 ((1 : Nat) : Int)]) ∧ Below w.heap.size w w' := by
 subst hq
 exact Parse_no w h0 h32
theorem NumOf_F (n : Nat) (w : World) (hn : n < 18446744073709551616) : Calls Try.prog 10 #[.int .u64 ((n : Nat) : Int)] w fun e w' => e = .returned (.agg (iws .u64 (dg (toF ((n : Nat) : Int)))).toArray) ∧ Below w.heap.size w w' := by
 have h := NumOfR_any n w hn
 rw [← par_dg, Nat.mod_eq_of_lt (by rw [P_eq]; omega)]
 exact h
theorem NumOf_0 (w : World) : Calls Try.prog 10 #[.int .u64 ((0 : Nat) : Int)] w fun e w' => e = .returned (.agg (iws .u64 (dg (0 : F))).toArray) ∧ Below w.heap.size w w' := by
 have h := NumOfR_any 0 w (by decide)
 rw [zero_dg] at h
 exact h
theorem ParseNum_no0 {A : Option Addr} {c q : Nat} {xs : List Nat} (w : World) (h0 : Bs w A c xs) (hq : xs.length = q) (h32 : ¬ q = 32) : Calls Try.prog 7 #[.slice A q c] w fun e w' => e = .returned (.tuple #[.agg (iws .u64 (dg (0 : F))).toArray, .int .i64 ((1 : Nat) : Int)]) ∧ Below w.heap.size w w' := by
 have h := ParseNum_no w h0 hq h32
 rw [rep_dg] at h
 exact h
theorem same5_any {x : F} {a0 a1 a2 a3 a4 : Int} (w : World) (ha : El x a0 a1 a2 a3 a4) :
  Calls Try.prog 8 #[.agg #[.int .u64 (a0), .int .u64 (a1), .int .u64 (a2), .int .u64 (a3), .int .u64 (a4)], .agg (iws .u64 (dg x)).toArray] w fun e w' => e = .returned (.bool true) ∧ Below w.heap.size w w' := by
 refine x_enter 12 Try.func8 rfl rfl (fun a hs hd ha0 => ?_)
 have t0 : a.eval (.tmp 0) = .agg #[.int .u64 (a0), .int .u64 (a1), .int .u64 (a2), .int .u64 (a3), .int .u64 (a4)] := ha0 0 _ rfl
 have t1 : a.eval (.tmp 1) = .agg (iws .u64 (dg x)).toArray := ha0 1 _ rfl
 clear ha0
 refine w2_sr (fun K_1 hK_1 => ?_)
 refine op_ex (d := 2) rfl rfl (o_boxL (cs := #[.int .u64 (a0), .int .u64 (a1), .int .u64 (a2), .int .u64 (a3), .int .u64 (a4)]) rfl ((pm rfl).trans t0)) (fun v_1 w_1 hR_1 => ?_)
 obtain ⟨g_1, rfl, hle_1, hB_1, hb_1⟩ := hR_1
 refine op_ex (d := 3) rfl rfl (o_boxI rfl ((pm rfl).trans t1)) (fun v_2 w_2 hR_2 => ?_)
 obtain ⟨g_2, rfl, hle_2, hB_2, hb_2⟩ := hR_2
 replace hB_1 := hB_1.nx hb_2
 have HB_1 := below_from hb_1 hb_2
 refine q_as (.bool (false)) rfl ?_
 refine x_nil (hK_1 _ _ ?_)
 refine w2_seq (fun K_2 hK_2 => ?_)
 refine x_drawn 6 [fun _ v => v = .agg #[.int .u64 (a0), .int .u64 (a1), .int .u64 (a2), .int .u64 (a3), .int .u64 (a4)], fun ww vv => OwnN w_2.heap.size (32) (nbL x) ww vv, fun _ v => v = .string (strB (nbL x)), fun _ v => v = .agg (iws .u64 (dg x)).toArray, fun ww vv => OwnN w_2.heap.size (32) (nbL x) ww vv, fun _ v => v = .string (strB (nbL x))] [5, 6, 7, 8, 9, 10] hs hd (by kernel_rfl) (by kernel_rfl) (by kernel_rfl) (by kernel_rfl) (by kernel_rfl) ⟨stLit, stOwn, stLit, stLit, stOwn, stLit, trivial⟩ ⟨(step_ok rfl (fun a' w' hb' hO hD => by
   have d_1 : a'.eval (.tmp 2) = .pointer (some ⟨g_1, 0, none⟩) := (hO 2 (by decide)).trans (pe hs rfl rfl)
   exact .inl ⟨_, _, (o_loadS (vs := [.int .u64 (a0), .int .u64 (a1), .int .u64 (a2), .int .u64 (a3), .int .u64 (a4)]) rfl d_1 (hB_1.nx hb') ⟨by kernel_rfl, by kernel_rfl⟩), rfl, Below.refl _ _⟩)),
(step_ok rfl (fun a' w' hb' hO hD => by
   have d_2 : a'.eval (.tmp 5) = .agg #[.int .u64 (a0), .int .u64 (a1), .int .u64 (a2), .int .u64 (a3), .int .u64 (a4)] := hD 0 5 (by kernel_rfl) rfl
   exact .inr ⟨_, #[.agg #[.int .u64 (a0), .int .u64 (a1), .int .u64 (a2), .int .u64 (a3), .int .u64 (a4)]], (exec_call Try.func30 (by kernel_rfl) (by kernel_rfl) _ rfl _ _ (args1 d_2)), Calls.mono (Bytes_own _ ha) (fun e w'' hR => by obtain ⟨A_1, c_1, rfl, ho_1, hb_3⟩ := hR; exact ⟨_, rfl, ⟨_, _, rfl, ho_1.mono hb'.size⟩, hb_3⟩)⟩)),
(step_ok rfl (fun a' w' hb' hO hD => by
   have d_3 := hD 1 6 (by kernel_rfl) rfl
   obtain ⟨A_2, c_2, hv_1, hO_1⟩ := d_3
   exact .inl ⟨_, _, (o_str rfl hv_1 (hO_1).bs (nbL_length _)), rfl, Below.refl _ _⟩)),
(step_ok rfl (fun a' w' hb' hO hD => by
   have d_4 : a'.eval (.tmp 3) = .pointer (some ⟨g_2, 0, none⟩) := (hO 3 (by decide)).trans (pe hs rfl rfl)
   exact .inl ⟨_, _, (o_loadI rfl d_4 (hB_2.nx hb') (by rw [(dg_length _)]; exact ⟨by kernel_rfl, by kernel_rfl⟩)), rfl, Below.refl _ _⟩)),
(step_ok rfl (fun a' w' hb' hO hD => by
   have d_5 : a'.eval (.tmp 8) = .agg (iws .u64 (dg x)).toArray := hD 3 8 (by kernel_rfl) rfl
   exact .inr ⟨_, #[.agg (iws .u64 (dg x)).toArray], (exec_call Try.func21 (by kernel_rfl) (by kernel_rfl) _ rfl _ _ (args1 d_5)), Calls.mono (NumBytesR_any _) (fun e w'' hR => by obtain ⟨A_3, c_3, rfl, ho_2, hb_4⟩ := hR; exact ⟨_, rfl, ⟨_, _, rfl, ho_2.mono hb'.size⟩, hb_4⟩)⟩)),
(step_ok rfl (fun a' w' hb' hO hD => by
   have d_6 := hD 4 9 (by kernel_rfl) rfl
   obtain ⟨A_4, c_4, hv_2, hO_2⟩ := d_6
   exact .inl ⟨_, _, (o_str rfl hv_2 (hO_2).bs (nbL_length _)), rfl, Below.refl _ _⟩)), trivial⟩ (fun a_1 w_3 hs_1 hd_1 hb_5 hO_3 hV_1 => ?_)
 clear t0 t1 hd
 have HB_2 := below_from HB_1 hb_5
 have x_1 := hV_1 1 6 rfl rfl
 obtain ⟨A_5, c_5, hv_3, hO_4⟩ := x_1
 replace hO_4 := hO_4.mono HB_1.size
 have ta_1_7 : a_1.eval (.tmp 7) = .string (strB (nbL x)) := hV_1 2 7 rfl rfl
 have x_2 := hV_1 4 9 rfl rfl
 obtain ⟨A_6, c_6, hv_4, hO_5⟩ := x_2
 replace hO_5 := hO_5.mono HB_1.size
 have ta_1_10 : a_1.eval (.tmp 10) = .string (strB (nbL x)) := hV_1 5 10 rfl rfl
 clear hV_1 hO_3
 simp only [List.drop_succ_cons, List.drop_zero]
 refine q_v 11 (.bool (true)) (o_eqS rfl ((pm rfl).trans ta_1_7) ((pm rfl).trans ta_1_10) rfl) ?_
 refine q_at (pe hs_1 rfl rfl) ?_
 refine x_nil (hK_2 _ _ ?_)
 refine w2_ret ?_
 refine ret1 rfl hd_1 (pe hs_1 rfl rfl) ?_
 exact ⟨rfl, HB_2⟩
theorem FForms0 {A1 A2 : Option Addr} {c1 c2 n1 n2 : Nat} {xa xb : List Nat} (nn : Nat) (hn : nn < 18446744073709551616) (w : World) (h1 : Bs w A1 c1 xa) (l1 : xa.length = n1) (h2 : Bs w A2 c2 xb) (l2 : xb.length = n2) (hbig : 40 < n1) :
  Calls Try.prog 3 #[.slice A1 (n1) (c1), .slice A2 (n2) (c2), .int .u64 ((nn : Nat) : Int)] w fun e w' => e = .returned (.bool true) ∧ Below w.heap.size w w' := by
 refine x_enter 133 Try.func3 rfl rfl (fun a hs hd ha0 => ?_)
 have t0 : a.eval (.tmp 0) = .slice A1 (n1) (c1) := ha0 0 _ rfl
 clear ha0
 refine w2_sr (fun K_1 hK_1 => ?_)
 refine q_as (.bool (false)) rfl ?_
 refine x_nil (hK_1 _ _ ?_)
 refine w2_seq (fun K_2 hK_2 => ?_)
 refine w2_sr (fun K_3 hK_3 => ?_)
 refine q_mv ((pm rfl).trans t0) ?_
 refine q_v 21 (.int .i64 ((n1 : Nat) : Int)) (o_len rfl (pe hs rfl rfl)) ?_
 refine q_v 22 (.bool (true)) (o_eq (o_gtr (m := n1) (n := 40) rfl (pe hs rfl rfl) rfl) (by rw [decide_eq_true hbig])) ?_
 refine q_mv (pe hs rfl rfl) ?_
 refine op_left (e := 23) rfl rfl (by kernel_rfl) (pe hs rfl rfl) rfl ?_
 refine op_left (e := 23) rfl rfl (by kernel_rfl) (pe hs rfl rfl) rfl ?_
 refine op_left (e := 23) rfl rfl (by kernel_rfl) (pe hs rfl rfl) rfl ?_
 refine q_v 27 (.bool (true)) (o_pickT rfl (pe hs rfl rfl) rfl) ?_
 refine x_nil (hK_3 _ _ ?_)
 refine w2_condT (pe hs rfl rfl) ?_
 refine w2_sr (fun K_4 hK_4 => ?_)
 refine q_ca (vs := #[]) Try.func5 (args0) (awake5_any _) (fun e_1 w_1 hR_1 => ?_)
 obtain ⟨rfl, hb_2⟩ := hR_1
 refine ⟨_, rfl, ?_⟩
 refine q_at (pe hs rfl rfl) ?_
 refine x_nil (hK_4 _ _ ?_)
 refine w2_ret ?_
 refine thn_ret ?_
 refine ret1 rfl hd (pe hs rfl rfl) ?_
 exact ⟨rfl, hb_2⟩
theorem FForms1 {A1 A2 : Option Addr} {c1 c2 n1 n2 : Nat} {xa xb : List Nat} (nn : Nat) (hn : nn < 18446744073709551616) (w : World) (h1 : Bs w A1 c1 xa) (l1 : xa.length = n1) (h2 : Bs w A2 c2 xb) (l2 : xb.length = n2) (p1 : n1 ≤ 40) (hbig : 40 < n2) :
  Calls Try.prog 3 #[.slice A1 (n1) (c1), .slice A2 (n2) (c2), .int .u64 ((nn : Nat) : Int)] w fun e w' => e = .returned (.bool true) ∧ Below w.heap.size w w' := by
 refine x_enter 133 Try.func3 rfl rfl (fun a hs hd ha0 => ?_)
 have t0 : a.eval (.tmp 0) = .slice A1 (n1) (c1) := ha0 0 _ rfl
 have t1 : a.eval (.tmp 1) = .slice A2 (n2) (c2) := ha0 1 _ rfl
 clear ha0
 refine w2_sr (fun K_1 hK_1 => ?_)
 refine q_as (.bool (false)) rfl ?_
 refine x_nil (hK_1 _ _ ?_)
 refine w2_seq (fun K_2 hK_2 => ?_)
 refine w2_sr (fun K_3 hK_3 => ?_)
 refine q_mv ((pm rfl).trans t0) ?_
 refine q_v 21 (.int .i64 ((n1 : Nat) : Int)) (o_len rfl (pe hs rfl rfl)) ?_
 refine q_v 22 (.bool (false)) (o_eq (o_gtr (m := n1) (n := 40) rfl (pe hs rfl rfl) rfl) (by rw [decide_eq_false (by omega)])) ?_
 refine q_mv (pe hs rfl rfl) ?_
 refine op_valG (e := 23) (d := 24) (v := .slice A2 (n2) (c2)) rfl rfl (by kernel_rfl) (pe hs rfl rfl) (o_move rfl ((pm rfl).trans t1)) ?_
 refine op_valG (e := 23) (d := 25) (v := .int .i64 ((n2 : Nat) : Int)) rfl rfl (by kernel_rfl) (pe hs rfl rfl) (o_len rfl (pe hs rfl rfl)) ?_
 refine op_valG (e := 23) (d := 26) (v := .bool (true)) rfl rfl (by kernel_rfl) (pe hs rfl rfl) (o_eq (o_gtr (m := n2) (n := 40) rfl (pe hs rfl rfl) rfl) (by rw [decide_eq_true hbig])) ?_
 refine q_v 27 (.bool (true)) (o_pickF rfl (pe hs rfl rfl) (pe hs rfl rfl)) ?_
 refine x_nil (hK_3 _ _ ?_)
 refine w2_condT (pe hs rfl rfl) ?_
 refine w2_sr (fun K_4 hK_4 => ?_)
 refine q_ca (vs := #[]) Try.func5 (args0) (awake5_any _) (fun e_1 w_1 hR_1 => ?_)
 obtain ⟨rfl, hb_2⟩ := hR_1
 refine ⟨_, rfl, ?_⟩
 refine q_at (pe hs rfl rfl) ?_
 refine x_nil (hK_4 _ _ ?_)
 refine w2_ret ?_
 refine thn_ret ?_
 refine ret1 rfl hd (pe hs rfl rfl) ?_
 exact ⟨rfl, hb_2⟩
set_option maxHeartbeats 4000000 in
theorem FFormsA {A1 A2 : Option Addr} {c1 c2 n1 n2 : Nat} {xa xb : List Nat} (nn : Nat) (hn : nn < 18446744073709551616) (w : World) (h1 : Bs w A1 c1 xa) (l1 : xa.length = n1) (h2 : Bs w A2 c2 xb) (l2 : xb.length = n2) (p1 : n1 ≤ 40) (p2 : n2 ≤ 40) (h32 : n1 = 32) :
  Calls Try.prog 3 #[.slice A1 (n1) (c1), .slice A2 (n2) (c2), .int .u64 ((nn : Nat) : Int)] w fun e w' => e = .returned (.bool true) ∧ Below w.heap.size w w' := by
 refine x_enter 133 Try.func3 rfl rfl (fun a hs hd ha0 => ?_)
 have t0 : a.eval (.tmp 0) = .slice A1 (n1) (c1) := ha0 0 _ rfl
 have t1 : a.eval (.tmp 1) = .slice A2 (n2) (c2) := ha0 1 _ rfl
 have t2 : a.eval (.tmp 2) = .int .u64 ((nn : Nat) : Int) := ha0 2 _ rfl
 clear ha0
 refine w2_sr (fun K_1 hK_1 => ?_)
 refine q_as (.bool (false)) rfl ?_
 refine x_nil (hK_1 _ _ ?_)
 refine w2_seq (fun K_2 hK_2 => ?_)
 refine w2_sr (fun K_3 hK_3 => ?_)
 refine q_mv ((pm rfl).trans t0) ?_
 refine q_v 21 (.int .i64 ((n1 : Nat) : Int)) (o_len rfl (pe hs rfl rfl)) ?_
 refine q_v 22 (.bool (false)) (o_eq (o_gtr (m := n1) (n := 40) rfl (pe hs rfl rfl) rfl) (by rw [decide_eq_false (by omega)])) ?_
 refine q_mv (pe hs rfl rfl) ?_
 refine op_valG (e := 23) (d := 24) (v := .slice A2 (n2) (c2)) rfl rfl (by kernel_rfl) (pe hs rfl rfl) (o_move rfl ((pm rfl).trans t1)) ?_
 refine op_valG (e := 23) (d := 25) (v := .int .i64 ((n2 : Nat) : Int)) rfl rfl (by kernel_rfl) (pe hs rfl rfl) (o_len rfl (pe hs rfl rfl)) ?_
 refine op_valG (e := 23) (d := 26) (v := .bool (false)) rfl rfl (by kernel_rfl) (pe hs rfl rfl) (o_eq (o_gtr (m := n2) (n := 40) rfl (pe hs rfl rfl) rfl) (by rw [decide_eq_false (by omega)])) ?_
 refine q_v 27 (.bool (false)) (o_pickF rfl (pe hs rfl rfl) (pe hs rfl rfl)) ?_
 refine x_nil (hK_3 _ _ ?_)
 refine w2_condF (pe hs rfl rfl) ?_
 refine w2_skip ?_
 refine hK_2 _ _ ?_
 refine w2_sr (fun K_4 hK_4 => ?_)
 refine q_mv ((pm rfl).trans t0) ?_
 refine q_ca (vs := #[.slice A1 (n1) (c1)]) Try.func6 (args1 (pe hs rfl rfl)) (ParseE_ok _ h1 (by simp only [l1]) h32) (fun e_1 w_1 hR_1 => ?_)
 obtain ⟨r_1, r_2, r_3, r_4, r_5, rfl, hE_1, hb_1⟩ := hR_1
 refine ⟨_, rfl, ?_⟩
 refine q_mv (pe hs rfl rfl) ?_
 refine q_ex (v := .agg #[.int .u64 (r_1), .int .u64 (r_2), .int .u64 (r_3), .int .u64 (r_4), .int .u64 (r_5)]) (pe hs rfl rfl) rfl ?_
 refine q_ex (v := .int .i64 ((0 : Nat) : Int)) (pe hs rfl rfl) rfl ?_
 refine op_ex (d := 7) rfl rfl (o_alloc (zs := #[.int .u64 (0), .int .u64 (0), .int .u64 (0), .int .u64 (0), .int .u64 (0)]) rfl (fun _ => by kernel_rfl)) (fun v_1 w_2 hR_2 => ?_)
 obtain ⟨g_1, rfl, hle_1, hB_1, hb_2⟩ := hR_2
 have ge_1 : w.heap.size ≤ g_1 := Nat.le_trans hb_1.size hle_1
 have HB_1 := below_from hb_1 hb_2
 refine op_do rfl rfl (o_storeL (vs := [.int .u64 (r_1), .int .u64 (r_2), .int .u64 (r_3), .int .u64 (r_4), .int .u64 (r_5)]) rfl (pe hs rfl rfl) (pe hs rfl rfl) hB_1 ⟨by kernel_rfl, by kernel_rfl⟩ rfl (by simp [Value.oneCell'])) (fun w_3 hR_3 => ?_)
 obtain ⟨hB_2, hX_1⟩ := hR_3
 have HB_2 := hX_1.below HB_1 HB_1.size (fun k hk => hk ▸ ge_1)
 clear hB_1
 refine q_at (v := .int .i64 ((0 : Nat) : Int)) (pe hs rfl rfl) ?_
 refine x_nil (hK_4 _ _ ?_)
 refine w2_sr (fun K_5 hK_5 => ?_)
 refine q_mv ((pm rfl).trans t0) ?_
 refine q_ca (vs := #[.slice A1 (n1) (c1)]) Try.func7 (args1 (pe hs rfl rfl)) (ParseNum_ok _ (h1.below HB_2) (by simp only [l1]) h32) (fun e_2 w_4 hR_4 => ?_)
 obtain ⟨rfl, hb_4⟩ := hR_4
 replace hB_2 := hB_2.nx hb_4
 have HB_3 := below_from HB_2 hb_4
 refine ⟨_, rfl, ?_⟩
 refine q_mv (pe hs rfl rfl) ?_
 refine q_ex (v := .agg (iws .u64 (dg (numL xa))).toArray) (pe hs rfl rfl) rfl ?_
 refine q_ex (v := .int .i64 ((0 : Nat) : Int)) (pe hs rfl rfl) rfl ?_
 refine op_ex (d := 9) rfl rfl (o_alloc (zs := (iws .u64 (List.replicate 16 0)).toArray) rfl (fun _ => by kernel_rfl)) (fun v_2 w_5 hR_5 => ?_)
 obtain ⟨g_2, rfl, hle_2, hB_3, hb_5⟩ := hR_5
 have ne_1 : g_1 ≠ g_2 := Nat.ne_of_lt (Nat.lt_of_lt_of_le hB_2.lt hle_2)
 have ge_2 : w.heap.size ≤ g_2 := Nat.le_trans HB_3.size hle_2
 replace hB_2 := hB_2.nx hb_5
 have HB_4 := below_from HB_3 hb_5
 refine op_do rfl rfl (o_storeI rfl (pe hs rfl rfl) (pe hs rfl rfl) hB_3 (by rw [(dg_length _)]; exact ⟨by kernel_rfl, by kernel_rfl⟩) (by rw [(dg_length _)]; simp [iws])) (fun w_6 hR_6 => ?_)
 obtain ⟨hB_4, hX_2⟩ := hR_6
 replace hB_2 := hX_2.blk hB_2 ne_1
 have HB_5 := hX_2.below HB_4 HB_4.size (fun k hk => hk ▸ ge_2)
 clear hB_3
 refine q_at (v := .int .i64 ((0 : Nat) : Int)) (pe hs rfl rfl) ?_
 refine x_nil (hK_5 _ _ ?_)
 refine w2_seq (fun K_6 hK_6 => ?_)
 refine w2_sr (fun K_7 hK_7 => ?_)
 refine q_mv (v := .int .i64 ((0 : Nat) : Int)) (pe hs rfl rfl) ?_
 refine q_mv (v := .int .i64 ((0 : Nat) : Int)) (pe hs rfl rfl) ?_
 refine q_v 41 (.bool (false)) (o_eq (o_neq (m := 0) (n := 0) rfl (pe hs rfl rfl) (pe hs rfl rfl)) rfl) ?_
 refine q_mv (pe hs rfl rfl) ?_
 refine op_valG (e := 42) (d := 43) (v := .agg #[.int .u64 (r_1), .int .u64 (r_2), .int .u64 (r_3), .int .u64 (r_4), .int .u64 (r_5)]) rfl rfl (by kernel_rfl) (pe hs rfl rfl) (o_loadS (vs := [.int .u64 (r_1), .int .u64 (r_2), .int .u64 (r_3), .int .u64 (r_4), .int .u64 (r_5)]) rfl (pe hs rfl rfl) hB_2 ⟨by kernel_rfl, by kernel_rfl⟩) ?_
 refine op_valG (e := 42) (d := 44) (v := .agg (iws .u64 (dg (numL xa))).toArray) rfl rfl (by kernel_rfl) (pe hs rfl rfl) (o_loadI rfl (pe hs rfl rfl) hB_4 (by rw [(dg_length _)]; exact ⟨by kernel_rfl, by kernel_rfl⟩)) ?_
 refine op_callG (e := 42) (vs := #[.agg #[.int .u64 (r_1), .int .u64 (r_2), .int .u64 (r_3), .int .u64 (r_4), .int .u64 (r_5)], .agg (iws .u64 (dg (numL xa))).toArray]) rfl rfl (by kernel_rfl) (pe hs rfl rfl) (exec_call Try.func8 (by kernel_rfl) (by kernel_rfl) _ rfl _ _ (args2 (pe hs rfl rfl) (pe hs rfl rfl))) (same5_any _ hE_1) (fun e_3 w_7 hR_7 => ?_)
 obtain ⟨rfl, hb_7⟩ := hR_7
 have HB_6 := below_from HB_5 hb_7
 refine ⟨_, rfl, ?_⟩
 refine op_valG (e := 42) (d := 46) (v := .bool (false)) rfl rfl (by kernel_rfl) (pe hs rfl rfl) (o_not (b := true) rfl (pe hs rfl rfl)) ?_
 refine q_v 47 (.bool (false)) (o_pickF rfl (pe hs rfl rfl) (pe hs rfl rfl)) ?_
 refine q_mv (pe hs rfl rfl) ?_
 refine op_valG (e := 48) (d := 49) (v := .int .u64 ((nn : Nat) : Int)) rfl rfl (by kernel_rfl) (pe hs rfl rfl) (o_move rfl ((pm rfl).trans t2)) ?_
 refine op_callG (e := 48) (vs := #[.int .u64 ((nn : Nat) : Int)]) rfl rfl (by kernel_rfl) (pe hs rfl rfl) (exec_call Try.func9 (by kernel_rfl) (by kernel_rfl) _ rfl _ _ (args1 (pe hs rfl rfl))) (Of_any ((nn : Nat) : Int) _ (by omega) (by omega)) (fun e_4 w_8 hR_8 => ?_)
 obtain ⟨r_6, r_7, r_8, r_9, r_10, rfl, hE_2, hb_8⟩ := hR_8
 have HB_7 := below_from HB_6 hb_8
 refine ⟨_, rfl, ?_⟩
 refine op_valG (e := 48) (d := 51) (v := .int .u64 ((nn : Nat) : Int)) rfl rfl (by kernel_rfl) (pe hs rfl rfl) (o_move rfl ((pm rfl).trans t2)) ?_
 refine op_callG (e := 48) (vs := #[.int .u64 ((nn : Nat) : Int)]) rfl rfl (by kernel_rfl) (pe hs rfl rfl) (exec_call Try.func10 (by kernel_rfl) (by kernel_rfl) _ rfl _ _ (args1 (pe hs rfl rfl))) (NumOf_F _ _ (by omega)) (fun e_5 w_9 hR_9 => ?_)
 obtain ⟨rfl, hb_10⟩ := hR_9
 have HB_8 := below_from HB_7 hb_10
 refine ⟨_, rfl, ?_⟩
 refine op_callG (e := 48) (vs := #[.agg #[.int .u64 (r_6), .int .u64 (r_7), .int .u64 (r_8), .int .u64 (r_9), .int .u64 (r_10)], .agg (iws .u64 (dg (toF ((nn : Nat) : Int)))).toArray]) rfl rfl (by kernel_rfl) (pe hs rfl rfl) (exec_call Try.func8 (by kernel_rfl) (by kernel_rfl) _ rfl _ _ (args2 (pe hs rfl rfl) (pe hs rfl rfl))) (same5_any _ hE_2) (fun e_6 w_10 hR_10 => ?_)
 obtain ⟨rfl, hb_12⟩ := hR_10
 have HB_9 := below_from HB_8 hb_12
 refine ⟨_, rfl, ?_⟩
 refine op_valG (e := 48) (d := 54) (v := .bool (false)) rfl rfl (by kernel_rfl) (pe hs rfl rfl) (o_not (b := true) rfl (pe hs rfl rfl)) ?_
 refine q_v 55 (.bool (false)) (o_pickF rfl (pe hs rfl rfl) (pe hs rfl rfl)) ?_
 refine x_nil (hK_7 _ _ ?_)
 refine w2_condF (pe hs rfl rfl) ?_
 refine w2_skip ?_
 refine hK_6 _ _ ?_
 refine w2_sr (fun K_8 hK_8 => ?_)
 refine q_mv ((pm rfl).trans t1) ?_
 refine q_ca (vs := #[.slice A2 (n2) (c2)]) Try.func11 (args1 (pe hs rfl rfl)) (two_own _ (h2.below HB_9) (by simp only [l2])) (fun e_7 w_11 hR_11 => ?_)
 obtain ⟨A_1, c_1, rfl, ho_1, hb_13⟩ := hR_11
 replace ho_1 := ho_1.mono HB_9.size
 have HB_10 := below_from HB_9 hb_13
 refine ⟨_, rfl, ?_⟩
 refine q_ca (vs := #[.slice A_1 (32) (c_1)]) Try.func6 (args1 (pe hs rfl rfl)) (ParseE_ok _ (ho_1).bs (padTo_length _ _) rfl) (fun e_8 w_12 hR_12 => ?_)
 obtain ⟨r_11, r_12, r_13, r_14, r_15, rfl, hE_3, hb_14⟩ := hR_12
 have HB_11 := below_from HB_10 hb_14
 refine ⟨_, rfl, ?_⟩
 refine q_mv (pe hs rfl rfl) ?_
 refine q_ex (v := .agg #[.int .u64 (r_11), .int .u64 (r_12), .int .u64 (r_13), .int .u64 (r_14), .int .u64 (r_15)]) (pe hs rfl rfl) rfl ?_
 refine q_ex (v := .int .i64 ((0 : Nat) : Int)) (pe hs rfl rfl) rfl ?_
 refine op_ex (d := 11) rfl rfl (o_alloc (zs := #[.int .u64 (0), .int .u64 (0), .int .u64 (0), .int .u64 (0), .int .u64 (0)]) rfl (fun _ => by kernel_rfl)) (fun v_3 w_13 hR_13 => ?_)
 obtain ⟨g_3, rfl, hle_3, hB_5, hb_15⟩ := hR_13
 have ge_3 : w.heap.size ≤ g_3 := Nat.le_trans HB_11.size hle_3
 have HB_12 := below_from HB_11 hb_15
 refine op_do rfl rfl (o_storeL (vs := [.int .u64 (r_11), .int .u64 (r_12), .int .u64 (r_13), .int .u64 (r_14), .int .u64 (r_15)]) rfl (pe hs rfl rfl) (pe hs rfl rfl) hB_5 ⟨by kernel_rfl, by kernel_rfl⟩ rfl (by simp [Value.oneCell'])) (fun w_14 hR_14 => ?_)
 obtain ⟨hB_6, hX_3⟩ := hR_14
 have HB_13 := hX_3.below HB_12 HB_12.size (fun k hk => hk ▸ ge_3)
 clear hB_5
 refine q_at (v := .int .i64 ((0 : Nat) : Int)) (pe hs rfl rfl) ?_
 refine x_nil (hK_8 _ _ ?_)
 refine w2_sr (fun K_9 hK_9 => ?_)
 refine q_mv ((pm rfl).trans t1) ?_
 refine q_ca (vs := #[.slice A2 (n2) (c2)]) Try.func11 (args1 (pe hs rfl rfl)) (two_own _ (h2.below HB_13) (by simp only [l2])) (fun e_9 w_15 hR_15 => ?_)
 obtain ⟨A_2, c_2, rfl, ho_2, hb_16⟩ := hR_15
 replace ho_2 := ho_2.mono HB_13.size
 replace hB_6 := hB_6.nx hb_16
 have HB_14 := below_from HB_13 hb_16
 refine ⟨_, rfl, ?_⟩
 refine q_ca (vs := #[.slice A_2 (32) (c_2)]) Try.func7 (args1 (pe hs rfl rfl)) (ParseNum_ok _ (ho_2).bs (padTo_length _ _) rfl) (fun e_10 w_16 hR_16 => ?_)
 obtain ⟨rfl, hb_18⟩ := hR_16
 replace hB_6 := hB_6.nx hb_18
 have HB_15 := below_from HB_14 hb_18
 refine ⟨_, rfl, ?_⟩
 refine q_mv (pe hs rfl rfl) ?_
 refine q_ex (v := .agg (iws .u64 (dg (numL (padTo 32 xb)))).toArray) (pe hs rfl rfl) rfl ?_
 refine q_ex (v := .int .i64 ((0 : Nat) : Int)) (pe hs rfl rfl) rfl ?_
 refine op_ex (d := 13) rfl rfl (o_alloc (zs := (iws .u64 (List.replicate 16 0)).toArray) rfl (fun _ => by kernel_rfl)) (fun v_4 w_17 hR_17 => ?_)
 obtain ⟨g_4, rfl, hle_4, hB_7, hb_19⟩ := hR_17
 have ne_6 : g_3 ≠ g_4 := Nat.ne_of_lt (Nat.lt_of_lt_of_le hB_6.lt hle_4)
 have ge_4 : w.heap.size ≤ g_4 := Nat.le_trans HB_15.size hle_4
 replace hB_6 := hB_6.nx hb_19
 have HB_16 := below_from HB_15 hb_19
 refine op_do rfl rfl (o_storeI rfl (pe hs rfl rfl) (pe hs rfl rfl) hB_7 (by rw [(dg_length _)]; exact ⟨by kernel_rfl, by kernel_rfl⟩) (by rw [(dg_length _)]; simp [iws])) (fun w_18 hR_18 => ?_)
 obtain ⟨hB_8, hX_4⟩ := hR_18
 replace hB_6 := hX_4.blk hB_6 ne_6
 have HB_17 := hX_4.below HB_16 HB_16.size (fun k hk => hk ▸ ge_4)
 clear hB_7
 refine q_at (v := .int .i64 ((0 : Nat) : Int)) (pe hs rfl rfl) ?_
 refine x_nil (hK_9 _ _ ?_)
 refine w2_sr (fun K_10 hK_10 => ?_)
 refine q_mv ((pm rfl).trans t0) ?_
 refine q_ca (vs := #[.slice A1 (n1) (c1)]) Try.func11 (args1 (pe hs rfl rfl)) (two_own _ (h1.below HB_17) (by simp only [l1])) (fun e_11 w_19 hR_19 => ?_)
 obtain ⟨A_3, c_3, rfl, ho_3, hb_20⟩ := hR_19
 replace ho_3 := ho_3.mono HB_17.size
 replace hB_6 := hB_6.nx hb_20
 replace hB_8 := hB_8.nx hb_20
 have HB_18 := below_from HB_17 hb_20
 refine ⟨_, rfl, ?_⟩
 refine q_ca (vs := #[.slice A_3 (32) (c_3)]) Try.func6 (args1 (pe hs rfl rfl)) (ParseE_ok _ (ho_3).bs (padTo_length _ _) rfl) (fun e_12 w_20 hR_20 => ?_)
 obtain ⟨r_16, r_17, r_18, r_19, r_20, rfl, hE_4, hb_21⟩ := hR_20
 replace hB_6 := hB_6.nx hb_21
 replace hB_8 := hB_8.nx hb_21
 have HB_19 := below_from HB_18 hb_21
 refine ⟨_, rfl, ?_⟩
 refine q_mv (pe hs rfl rfl) ?_
 refine q_ex (v := .agg #[.int .u64 (r_16), .int .u64 (r_17), .int .u64 (r_18), .int .u64 (r_19), .int .u64 (r_20)]) (pe hs rfl rfl) rfl ?_
 refine q_ex (v := .int .i64 ((0 : Nat) : Int)) (pe hs rfl rfl) rfl ?_
 refine op_ex (d := 15) rfl rfl (o_alloc (zs := #[.int .u64 (0), .int .u64 (0), .int .u64 (0), .int .u64 (0), .int .u64 (0)]) rfl (fun _ => by kernel_rfl)) (fun v_5 w_21 hR_21 => ?_)
 obtain ⟨g_5, rfl, hle_5, hB_9, hb_22⟩ := hR_21
 have ne_9 : g_3 ≠ g_5 := Nat.ne_of_lt (Nat.lt_of_lt_of_le hB_6.lt hle_5)
 have ne_10 : g_4 ≠ g_5 := Nat.ne_of_lt (Nat.lt_of_lt_of_le hB_8.lt hle_5)
 have ge_5 : w.heap.size ≤ g_5 := Nat.le_trans HB_19.size hle_5
 replace hB_6 := hB_6.nx hb_22
 replace hB_8 := hB_8.nx hb_22
 have HB_20 := below_from HB_19 hb_22
 refine op_do rfl rfl (o_storeL (vs := [.int .u64 (r_16), .int .u64 (r_17), .int .u64 (r_18), .int .u64 (r_19), .int .u64 (r_20)]) rfl (pe hs rfl rfl) (pe hs rfl rfl) hB_9 ⟨by kernel_rfl, by kernel_rfl⟩ rfl (by simp [Value.oneCell'])) (fun w_22 hR_22 => ?_)
 obtain ⟨hB_10, hX_5⟩ := hR_22
 replace hB_6 := hX_5.blk hB_6 ne_9
 replace hB_8 := hX_5.blk hB_8 ne_10
 have HB_21 := hX_5.below HB_20 HB_20.size (fun k hk => hk ▸ ge_5)
 clear hB_9
 refine q_at (v := .int .i64 ((0 : Nat) : Int)) (pe hs rfl rfl) ?_
 refine x_nil (hK_10 _ _ ?_)
 refine w2_sr (fun K_11 hK_11 => ?_)
 refine q_mv ((pm rfl).trans t0) ?_
 refine q_ca (vs := #[.slice A1 (n1) (c1)]) Try.func11 (args1 (pe hs rfl rfl)) (two_own _ (h1.below HB_21) (by simp only [l1])) (fun e_13 w_23 hR_23 => ?_)
 obtain ⟨A_4, c_4, rfl, ho_4, hb_23⟩ := hR_23
 replace ho_4 := ho_4.mono HB_21.size
 replace hB_6 := hB_6.nx hb_23
 replace hB_8 := hB_8.nx hb_23
 replace hB_10 := hB_10.nx hb_23
 have HB_22 := below_from HB_21 hb_23
 refine ⟨_, rfl, ?_⟩
 refine q_ca (vs := #[.slice A_4 (32) (c_4)]) Try.func7 (args1 (pe hs rfl rfl)) (ParseNum_ok _ (ho_4).bs (padTo_length _ _) rfl) (fun e_14 w_24 hR_24 => ?_)
 obtain ⟨rfl, hb_25⟩ := hR_24
 replace hB_6 := hB_6.nx hb_25
 replace hB_8 := hB_8.nx hb_25
 replace hB_10 := hB_10.nx hb_25
 have HB_23 := below_from HB_22 hb_25
 refine ⟨_, rfl, ?_⟩
 refine q_mv (pe hs rfl rfl) ?_
 refine q_ex (v := .agg (iws .u64 (dg (numL (padTo 32 xa)))).toArray) (pe hs rfl rfl) rfl ?_
 refine q_ex (v := .int .i64 ((0 : Nat) : Int)) (pe hs rfl rfl) rfl ?_
 refine op_ex (d := 17) rfl rfl (o_alloc (zs := (iws .u64 (List.replicate 16 0)).toArray) rfl (fun _ => by kernel_rfl)) (fun v_6 w_25 hR_25 => ?_)
 obtain ⟨g_6, rfl, hle_6, hB_11, hb_26⟩ := hR_25
 have ne_13 : g_3 ≠ g_6 := Nat.ne_of_lt (Nat.lt_of_lt_of_le hB_6.lt hle_6)
 have ne_14 : g_4 ≠ g_6 := Nat.ne_of_lt (Nat.lt_of_lt_of_le hB_8.lt hle_6)
 have ne_15 : g_5 ≠ g_6 := Nat.ne_of_lt (Nat.lt_of_lt_of_le hB_10.lt hle_6)
 have ge_6 : w.heap.size ≤ g_6 := Nat.le_trans HB_23.size hle_6
 replace hB_6 := hB_6.nx hb_26
 replace hB_8 := hB_8.nx hb_26
 replace hB_10 := hB_10.nx hb_26
 have HB_24 := below_from HB_23 hb_26
 refine op_do rfl rfl (o_storeI rfl (pe hs rfl rfl) (pe hs rfl rfl) hB_11 (by rw [(dg_length _)]; exact ⟨by kernel_rfl, by kernel_rfl⟩) (by rw [(dg_length _)]; simp [iws])) (fun w_26 hR_26 => ?_)
 obtain ⟨hB_12, hX_6⟩ := hR_26
 replace hB_6 := hX_6.blk hB_6 ne_13
 replace hB_8 := hX_6.blk hB_8 ne_14
 replace hB_10 := hX_6.blk hB_10 ne_15
 have HB_25 := hX_6.below HB_24 HB_24.size (fun k hk => hk ▸ ge_6)
 clear hB_11
 refine q_at (v := .int .i64 ((0 : Nat) : Int)) (pe hs rfl rfl) ?_
 refine x_nil (hK_11 _ _ ?_)
 refine w2_sr (fun K_12 hK_12 => ?_)
 refine op_ex (d := 19) rfl rfl (o_alloc (zs := #[.int .u64 (0), .int .u64 (0), .int .u64 (0), .int .u64 (0), .int .u64 (0)]) rfl (fun _ => by kernel_rfl)) (fun v_7 w_27 hR_27 => ?_)
 obtain ⟨g_7, rfl, hle_7, hB_13, hb_27⟩ := hR_27
 replace hB_6 := hB_6.nx hb_27
 replace hB_8 := hB_8.nx hb_27
 replace hB_10 := hB_10.nx hb_27
 replace hB_12 := hB_12.nx hb_27
 have HB_26 := below_from HB_25 hb_27
 refine x_nil (hK_12 _ _ ?_)
 refine w2_seq (fun K_13 hK_13 => ?_)
 refine x_drawn 48 ((fun _ v => v = .agg #[.int .u64 (r_16), .int .u64 (r_17), .int .u64 (r_18), .int .u64 (r_19), .int .u64 (r_20)]) :: (fun _ v => v = .agg #[.int .u64 (r_11), .int .u64 (r_12), .int .u64 (r_13), .int .u64 (r_14), .int .u64 (r_15)]) :: (fun ww vv => ElV ((numL (padTo 32 xa)) + (numL (padTo 32 xb))) vv) :: (fun _ v => v = .agg (iws .u64 (dg (numL (padTo 32 xa)))).toArray) :: (fun _ v => v = .agg (iws .u64 (dg (numL (padTo 32 xb)))).toArray) :: (fun ww vv => vv = .agg (iws .u64 (dg ((numL (padTo 32 xa)) + (numL (padTo 32 xb))))).toArray) :: (fun ww vv => vv = .bool (true)) :: (fun _ v => v = .bool (true)) :: (fun _ v => v = .agg #[.int .u64 (r_16), .int .u64 (r_17), .int .u64 (r_18), .int .u64 (r_19), .int .u64 (r_20)]) :: (fun _ v => v = .agg #[.int .u64 (r_11), .int .u64 (r_12), .int .u64 (r_13), .int .u64 (r_14), .int .u64 (r_15)]) :: (fun ww vv => ElV ((numL (padTo 32 xa)) - (numL (padTo 32 xb))) vv) :: (fun _ v => v = .agg (iws .u64 (dg (numL (padTo 32 xa)))).toArray) :: (fun _ v => v = .agg (iws .u64 (dg (numL (padTo 32 xb)))).toArray) :: (fun ww vv => vv = .agg (iws .u64 (dg ((numL (padTo 32 xa)) - (numL (padTo 32 xb))))).toArray) :: (fun ww vv => vv = .bool (true)) :: (fun _ v => v = .bool (true)) :: (fun _ v => v = .bool (true)) :: (fun _ v => v = .agg #[.int .u64 (r_16), .int .u64 (r_17), .int .u64 (r_18), .int .u64 (r_19), .int .u64 (r_20)]) :: (fun _ v => v = .agg #[.int .u64 (r_11), .int .u64 (r_12), .int .u64 (r_13), .int .u64 (r_14), .int .u64 (r_15)]) :: (fun ww vv => ElV ((numL (padTo 32 xa)) * (numL (padTo 32 xb))) vv) :: (fun _ v => v = .agg (iws .u64 (dg (numL (padTo 32 xa)))).toArray) :: (fun _ v => v = .agg (iws .u64 (dg (numL (padTo 32 xb)))).toArray) :: (fun ww vv => vv = .agg (iws .u64 (dg ((numL (padTo 32 xa)) * (numL (padTo 32 xb))))).toArray) :: (fun ww vv => vv = .bool (true)) :: (fun _ v => v = .bool (true)) :: (fun _ v => v = .bool (true)) :: (fun _ v => v = .agg #[.int .u64 (r_16), .int .u64 (r_17), .int .u64 (r_18), .int .u64 (r_19), .int .u64 (r_20)]) :: (fun ww vv => ElV (finv (numL (padTo 32 xa))) vv) :: (fun _ v => v = .agg (iws .u64 (dg (numL (padTo 32 xa)))).toArray) :: (fun ww vv => vv = .agg (iws .u64 (dg (finv (numL (padTo 32 xa))))).toArray) :: (fun ww vv => vv = .bool (true)) :: (fun _ v => v = .bool (true)) :: (fun _ v => v = .bool (true)) :: (fun _ v => v = .agg #[.int .u64 (r_16), .int .u64 (r_17), .int .u64 (r_18), .int .u64 (r_19), .int .u64 (r_20)]) :: (fun _ v => v = .agg #[.int .u64 (r_11), .int .u64 (r_12), .int .u64 (r_13), .int .u64 (r_14), .int .u64 (r_15)]) :: (fun ww vv => vv = .bool (decide (numL (padTo 32 xa) = numL (padTo 32 xb)))) :: (fun _ v => v = .agg (iws .u64 (dg (numL (padTo 32 xa)))).toArray) :: (fun ww vv => OwnN w_27.heap.size (32) (nbL (numL (padTo 32 xa))) ww vv) :: (fun _ v => v = .string (strB (nbL (numL (padTo 32 xa))))) :: (fun _ v => v = .agg (iws .u64 (dg (numL (padTo 32 xb)))).toArray) :: (fun ww vv => OwnN w_27.heap.size (32) (nbL (numL (padTo 32 xb))) ww vv) :: (fun _ v => v = .string (strB (nbL (numL (padTo 32 xb))))) :: (fun _ v => v = .bool (decide (strB (nbL (numL (padTo 32 xa))) = strB (nbL (numL (padTo 32 xb)))))) :: (fun _ v => v = .bool (true)) :: (fun _ v => v = .bool (true)) :: (fun _ v => v = .bool (true)) :: (fun _ v => v = .agg #[.int .u64 (0), .int .u64 (0), .int .u64 (0), .int .u64 (0), .int .u64 (0)]) :: (fun ww vv => vv = .agg (iws .u64 (dg (0 : F))).toArray) :: []) [80, 81, 82, 83, 84, 85, 86, 87, 88, 89, 90, 91, 92, 93, 94, 95, 96, 97, 98, 99, 100, 101, 102, 103, 104, 105, 106, 107, 108, 109, 110, 111, 112, 113, 114, 115, 116, 117, 118, 119, 120, 121, 122, 123, 124, 125, 126, 127] hs hd (by kernel_rfl) (by kernel_rfl) (by kernel_rfl) (by kernel_rfl) (by kernel_rfl) ⟨stLit, stLit, stEl, stLit, stLit, stLit, stLit, stLit, stLit, stLit, stEl, stLit, stLit, stLit, stLit, stLit, stLit, stLit, stLit, stEl, stLit, stLit, stLit, stLit, stLit, stLit, stLit, stEl, stLit, stLit, stLit, stLit, stLit, stLit, stLit, stLit, stLit, stOwn, stLit, stLit, stOwn, stLit, stLit, stLit, stLit, stLit, stLit, stLit, trivial⟩ ⟨(step_ok rfl (fun a' w' hb' hO hD => by
   have d_1 : a'.eval (.tmp 15) = .pointer (some ⟨g_5, 0, none⟩) := (hO 15 (by decide)).trans (pe hs rfl rfl)
   exact .inl ⟨_, _, (o_loadS (vs := [.int .u64 (r_16), .int .u64 (r_17), .int .u64 (r_18), .int .u64 (r_19), .int .u64 (r_20)]) rfl d_1 (hB_10.nx hb') ⟨by kernel_rfl, by kernel_rfl⟩), rfl, Below.refl _ _⟩)),
(step_ok rfl (fun a' w' hb' hO hD => by
   have d_2 : a'.eval (.tmp 11) = .pointer (some ⟨g_3, 0, none⟩) := (hO 11 (by decide)).trans (pe hs rfl rfl)
   exact .inl ⟨_, _, (o_loadS (vs := [.int .u64 (r_11), .int .u64 (r_12), .int .u64 (r_13), .int .u64 (r_14), .int .u64 (r_15)]) rfl d_2 (hB_6.nx hb') ⟨by kernel_rfl, by kernel_rfl⟩), rfl, Below.refl _ _⟩)),
(step_ok rfl (fun a' w' hb' hO hD => by
   have d_3 : a'.eval (.tmp 80) = .agg #[.int .u64 (r_16), .int .u64 (r_17), .int .u64 (r_18), .int .u64 (r_19), .int .u64 (r_20)] := hD 0 80 (by kernel_rfl) rfl
   have d_4 : a'.eval (.tmp 81) = .agg #[.int .u64 (r_11), .int .u64 (r_12), .int .u64 (r_13), .int .u64 (r_14), .int .u64 (r_15)] := hD 1 81 (by kernel_rfl) rfl
   exact .inr ⟨_, #[.agg #[.int .u64 (r_16), .int .u64 (r_17), .int .u64 (r_18), .int .u64 (r_19), .int .u64 (r_20)], .agg #[.int .u64 (r_11), .int .u64 (r_12), .int .u64 (r_13), .int .u64 (r_14), .int .u64 (r_15)]], (exec_call Try.func12 (by kernel_rfl) (by kernel_rfl) _ rfl _ _ (args2 d_3 d_4)), Calls.mono (Add_any hE_4 hE_3 _) (fun e w'' hR => by obtain ⟨r0, r1, r2, r3, r4, rfl, hE9, hb9⟩ := hR; exact ⟨_, rfl, ⟨r0, r1, r2, r3, r4, rfl, hE9⟩, hb9⟩)⟩)),
(step_ok rfl (fun a' w' hb' hO hD => by
   have d_5 : a'.eval (.tmp 17) = .pointer (some ⟨g_6, 0, none⟩) := (hO 17 (by decide)).trans (pe hs rfl rfl)
   exact .inl ⟨_, _, (o_loadI rfl d_5 (hB_12.nx hb') (by rw [(dg_length _)]; exact ⟨by kernel_rfl, by kernel_rfl⟩)), rfl, Below.refl _ _⟩)),
(step_ok rfl (fun a' w' hb' hO hD => by
   have d_6 : a'.eval (.tmp 13) = .pointer (some ⟨g_4, 0, none⟩) := (hO 13 (by decide)).trans (pe hs rfl rfl)
   exact .inl ⟨_, _, (o_loadI rfl d_6 (hB_8.nx hb') (by rw [(dg_length _)]; exact ⟨by kernel_rfl, by kernel_rfl⟩)), rfl, Below.refl _ _⟩)),
(step_ok rfl (fun a' w' hb' hO hD => by
   have d_7 : a'.eval (.tmp 83) = .agg (iws .u64 (dg (numL (padTo 32 xa)))).toArray := hD 3 83 (by kernel_rfl) rfl
   have d_8 : a'.eval (.tmp 84) = .agg (iws .u64 (dg (numL (padTo 32 xb)))).toArray := hD 4 84 (by kernel_rfl) rfl
   exact .inr ⟨_, #[.agg (iws .u64 (dg (numL (padTo 32 xa)))).toArray, .agg (iws .u64 (dg (numL (padTo 32 xb)))).toArray], (exec_call Try.func13 (by kernel_rfl) (by kernel_rfl) _ rfl _ _ (args2 d_7 d_8)), Calls.mono (AddNum_any _) (fun e w'' hR => by obtain ⟨rfl, hb_28⟩ := hR; exact ⟨_, rfl, rfl, hb_28⟩)⟩)),
(step_ok rfl (fun a' w' hb' hO hD => by
   have d_9 := hD 2 82 (by kernel_rfl) rfl
   obtain ⟨r_21, r_22, r_23, r_24, r_25, hv_1, hE_5⟩ := d_9
   have d_10 : a'.eval (.tmp 85) = .agg (iws .u64 (dg ((numL (padTo 32 xa)) + (numL (padTo 32 xb))))).toArray := hD 5 85 (by kernel_rfl) rfl
   exact .inr ⟨_, #[.agg #[.int .u64 (r_21), .int .u64 (r_22), .int .u64 (r_23), .int .u64 (r_24), .int .u64 (r_25)], .agg (iws .u64 (dg ((numL (padTo 32 xa)) + (numL (padTo 32 xb))))).toArray], (exec_call Try.func8 (by kernel_rfl) (by kernel_rfl) _ rfl _ _ (args2 hv_1 d_10)), Calls.mono (same5_any _ hE_5) (fun e w'' hR => by obtain ⟨rfl, hb_29⟩ := hR; exact ⟨_, rfl, rfl, hb_29⟩)⟩)),
(step_ok rfl (fun a' w' hb' hO hD => by
   have d_11 : a'.eval (.tmp 86) = .bool (true) := hD 6 86 (by kernel_rfl) rfl
   exact .inl ⟨_, _, (o_move rfl d_11), rfl, Below.refl _ _⟩)),
(step_yes 7 true 87 rfl rfl (by kernel_rfl) (fun _ _ h => h) (fun a' w' hb' hO hD => by
   have d_12 : a'.eval (.tmp 15) = .pointer (some ⟨g_5, 0, none⟩) := (hO 15 (by decide)).trans (pe hs rfl rfl)
   exact .inl ⟨_, _, (o_loadS (vs := [.int .u64 (r_16), .int .u64 (r_17), .int .u64 (r_18), .int .u64 (r_19), .int .u64 (r_20)]) rfl d_12 (hB_10.nx hb') ⟨by kernel_rfl, by kernel_rfl⟩), rfl, Below.refl _ _⟩)),
(step_yes 7 true 87 rfl rfl (by kernel_rfl) (fun _ _ h => h) (fun a' w' hb' hO hD => by
   have d_13 : a'.eval (.tmp 11) = .pointer (some ⟨g_3, 0, none⟩) := (hO 11 (by decide)).trans (pe hs rfl rfl)
   exact .inl ⟨_, _, (o_loadS (vs := [.int .u64 (r_11), .int .u64 (r_12), .int .u64 (r_13), .int .u64 (r_14), .int .u64 (r_15)]) rfl d_13 (hB_6.nx hb') ⟨by kernel_rfl, by kernel_rfl⟩), rfl, Below.refl _ _⟩)),
(step_yes 7 true 87 rfl rfl (by kernel_rfl) (fun _ _ h => h) (fun a' w' hb' hO hD => by
   have d_14 : a'.eval (.tmp 88) = .agg #[.int .u64 (r_16), .int .u64 (r_17), .int .u64 (r_18), .int .u64 (r_19), .int .u64 (r_20)] := hD 8 88 (by kernel_rfl) rfl
   have d_15 : a'.eval (.tmp 89) = .agg #[.int .u64 (r_11), .int .u64 (r_12), .int .u64 (r_13), .int .u64 (r_14), .int .u64 (r_15)] := hD 9 89 (by kernel_rfl) rfl
   exact .inr ⟨_, #[.agg #[.int .u64 (r_16), .int .u64 (r_17), .int .u64 (r_18), .int .u64 (r_19), .int .u64 (r_20)], .agg #[.int .u64 (r_11), .int .u64 (r_12), .int .u64 (r_13), .int .u64 (r_14), .int .u64 (r_15)]], (exec_call Try.func14 (by kernel_rfl) (by kernel_rfl) _ rfl _ _ (args2 d_14 d_15)), Calls.mono (Sub_any hE_4 hE_3 _) (fun e w'' hR => by obtain ⟨r0, r1, r2, r3, r4, rfl, hE9, hb9⟩ := hR; exact ⟨_, rfl, ⟨r0, r1, r2, r3, r4, rfl, hE9⟩, hb9⟩)⟩)),
(step_yes 7 true 87 rfl rfl (by kernel_rfl) (fun _ _ h => h) (fun a' w' hb' hO hD => by
   have d_16 : a'.eval (.tmp 17) = .pointer (some ⟨g_6, 0, none⟩) := (hO 17 (by decide)).trans (pe hs rfl rfl)
   exact .inl ⟨_, _, (o_loadI rfl d_16 (hB_12.nx hb') (by rw [(dg_length _)]; exact ⟨by kernel_rfl, by kernel_rfl⟩)), rfl, Below.refl _ _⟩)),
(step_yes 7 true 87 rfl rfl (by kernel_rfl) (fun _ _ h => h) (fun a' w' hb' hO hD => by
   have d_17 : a'.eval (.tmp 13) = .pointer (some ⟨g_4, 0, none⟩) := (hO 13 (by decide)).trans (pe hs rfl rfl)
   exact .inl ⟨_, _, (o_loadI rfl d_17 (hB_8.nx hb') (by rw [(dg_length _)]; exact ⟨by kernel_rfl, by kernel_rfl⟩)), rfl, Below.refl _ _⟩)),
(step_yes 7 true 87 rfl rfl (by kernel_rfl) (fun _ _ h => h) (fun a' w' hb' hO hD => by
   have d_18 : a'.eval (.tmp 91) = .agg (iws .u64 (dg (numL (padTo 32 xa)))).toArray := hD 11 91 (by kernel_rfl) rfl
   have d_19 : a'.eval (.tmp 92) = .agg (iws .u64 (dg (numL (padTo 32 xb)))).toArray := hD 12 92 (by kernel_rfl) rfl
   exact .inr ⟨_, #[.agg (iws .u64 (dg (numL (padTo 32 xa)))).toArray, .agg (iws .u64 (dg (numL (padTo 32 xb)))).toArray], (exec_call Try.func15 (by kernel_rfl) (by kernel_rfl) _ rfl _ _ (args2 d_18 d_19)), Calls.mono (SubNum_any _) (fun e w'' hR => by obtain ⟨rfl, hb_30⟩ := hR; exact ⟨_, rfl, rfl, hb_30⟩)⟩)),
(step_yes 7 true 87 rfl rfl (by kernel_rfl) (fun _ _ h => h) (fun a' w' hb' hO hD => by
   have d_20 := hD 10 90 (by kernel_rfl) rfl
   obtain ⟨r_26, r_27, r_28, r_29, r_30, hv_2, hE_6⟩ := d_20
   have d_21 : a'.eval (.tmp 93) = .agg (iws .u64 (dg ((numL (padTo 32 xa)) - (numL (padTo 32 xb))))).toArray := hD 13 93 (by kernel_rfl) rfl
   exact .inr ⟨_, #[.agg #[.int .u64 (r_26), .int .u64 (r_27), .int .u64 (r_28), .int .u64 (r_29), .int .u64 (r_30)], .agg (iws .u64 (dg ((numL (padTo 32 xa)) - (numL (padTo 32 xb))))).toArray], (exec_call Try.func8 (by kernel_rfl) (by kernel_rfl) _ rfl _ _ (args2 hv_2 d_21)), Calls.mono (same5_any _ hE_6) (fun e w'' hR => by obtain ⟨rfl, hb_31⟩ := hR; exact ⟨_, rfl, rfl, hb_31⟩)⟩)),
(step_ok rfl (fun a' w' hb' hO hD => by
   have d_22 : a'.eval (.tmp 87) = .bool (true) := hD 7 87 (by kernel_rfl) rfl
   have d_23 : a'.eval (.tmp 94) = .bool (true) := hD 14 94 (by kernel_rfl) rfl
   exact .inl ⟨_, _, (o_pickT rfl d_22 d_23), rfl, Below.refl _ _⟩)),
(step_ok rfl (fun a' w' hb' hO hD => by
   have d_24 : a'.eval (.tmp 95) = .bool (true) := hD 15 95 (by kernel_rfl) rfl
   exact .inl ⟨_, _, (o_move rfl d_24), rfl, Below.refl _ _⟩)),
(step_yes 16 true 96 rfl rfl (by kernel_rfl) (fun _ _ h => h) (fun a' w' hb' hO hD => by
   have d_25 : a'.eval (.tmp 15) = .pointer (some ⟨g_5, 0, none⟩) := (hO 15 (by decide)).trans (pe hs rfl rfl)
   exact .inl ⟨_, _, (o_loadS (vs := [.int .u64 (r_16), .int .u64 (r_17), .int .u64 (r_18), .int .u64 (r_19), .int .u64 (r_20)]) rfl d_25 (hB_10.nx hb') ⟨by kernel_rfl, by kernel_rfl⟩), rfl, Below.refl _ _⟩)),
(step_yes 16 true 96 rfl rfl (by kernel_rfl) (fun _ _ h => h) (fun a' w' hb' hO hD => by
   have d_26 : a'.eval (.tmp 11) = .pointer (some ⟨g_3, 0, none⟩) := (hO 11 (by decide)).trans (pe hs rfl rfl)
   exact .inl ⟨_, _, (o_loadS (vs := [.int .u64 (r_11), .int .u64 (r_12), .int .u64 (r_13), .int .u64 (r_14), .int .u64 (r_15)]) rfl d_26 (hB_6.nx hb') ⟨by kernel_rfl, by kernel_rfl⟩), rfl, Below.refl _ _⟩)),
(step_yes 16 true 96 rfl rfl (by kernel_rfl) (fun _ _ h => h) (fun a' w' hb' hO hD => by
   have d_27 : a'.eval (.tmp 97) = .agg #[.int .u64 (r_16), .int .u64 (r_17), .int .u64 (r_18), .int .u64 (r_19), .int .u64 (r_20)] := hD 17 97 (by kernel_rfl) rfl
   have d_28 : a'.eval (.tmp 98) = .agg #[.int .u64 (r_11), .int .u64 (r_12), .int .u64 (r_13), .int .u64 (r_14), .int .u64 (r_15)] := hD 18 98 (by kernel_rfl) rfl
   exact .inr ⟨_, #[.agg #[.int .u64 (r_16), .int .u64 (r_17), .int .u64 (r_18), .int .u64 (r_19), .int .u64 (r_20)], .agg #[.int .u64 (r_11), .int .u64 (r_12), .int .u64 (r_13), .int .u64 (r_14), .int .u64 (r_15)]], (exec_call Try.func16 (by kernel_rfl) (by kernel_rfl) _ rfl _ _ (args2 d_27 d_28)), Calls.mono (Mul_any hE_4 hE_3 _) (fun e w'' hR => by obtain ⟨r0, r1, r2, r3, r4, rfl, hE9, hb9⟩ := hR; exact ⟨_, rfl, ⟨r0, r1, r2, r3, r4, rfl, hE9⟩, hb9⟩)⟩)),
(step_yes 16 true 96 rfl rfl (by kernel_rfl) (fun _ _ h => h) (fun a' w' hb' hO hD => by
   have d_29 : a'.eval (.tmp 17) = .pointer (some ⟨g_6, 0, none⟩) := (hO 17 (by decide)).trans (pe hs rfl rfl)
   exact .inl ⟨_, _, (o_loadI rfl d_29 (hB_12.nx hb') (by rw [(dg_length _)]; exact ⟨by kernel_rfl, by kernel_rfl⟩)), rfl, Below.refl _ _⟩)),
(step_yes 16 true 96 rfl rfl (by kernel_rfl) (fun _ _ h => h) (fun a' w' hb' hO hD => by
   have d_30 : a'.eval (.tmp 13) = .pointer (some ⟨g_4, 0, none⟩) := (hO 13 (by decide)).trans (pe hs rfl rfl)
   exact .inl ⟨_, _, (o_loadI rfl d_30 (hB_8.nx hb') (by rw [(dg_length _)]; exact ⟨by kernel_rfl, by kernel_rfl⟩)), rfl, Below.refl _ _⟩)),
(step_yes 16 true 96 rfl rfl (by kernel_rfl) (fun _ _ h => h) (fun a' w' hb' hO hD => by
   have d_31 : a'.eval (.tmp 100) = .agg (iws .u64 (dg (numL (padTo 32 xa)))).toArray := hD 20 100 (by kernel_rfl) rfl
   have d_32 : a'.eval (.tmp 101) = .agg (iws .u64 (dg (numL (padTo 32 xb)))).toArray := hD 21 101 (by kernel_rfl) rfl
   exact .inr ⟨_, #[.agg (iws .u64 (dg (numL (padTo 32 xa)))).toArray, .agg (iws .u64 (dg (numL (padTo 32 xb)))).toArray], (exec_call Try.func17 (by kernel_rfl) (by kernel_rfl) _ rfl _ _ (args2 d_31 d_32)), Calls.mono (MulNum_any _) (fun e w'' hR => by obtain ⟨rfl, hb_32⟩ := hR; exact ⟨_, rfl, rfl, hb_32⟩)⟩)),
(step_yes 16 true 96 rfl rfl (by kernel_rfl) (fun _ _ h => h) (fun a' w' hb' hO hD => by
   have d_33 := hD 19 99 (by kernel_rfl) rfl
   obtain ⟨r_31, r_32, r_33, r_34, r_35, hv_3, hE_7⟩ := d_33
   have d_34 : a'.eval (.tmp 102) = .agg (iws .u64 (dg ((numL (padTo 32 xa)) * (numL (padTo 32 xb))))).toArray := hD 22 102 (by kernel_rfl) rfl
   exact .inr ⟨_, #[.agg #[.int .u64 (r_31), .int .u64 (r_32), .int .u64 (r_33), .int .u64 (r_34), .int .u64 (r_35)], .agg (iws .u64 (dg ((numL (padTo 32 xa)) * (numL (padTo 32 xb))))).toArray], (exec_call Try.func8 (by kernel_rfl) (by kernel_rfl) _ rfl _ _ (args2 hv_3 d_34)), Calls.mono (same5_any _ hE_7) (fun e w'' hR => by obtain ⟨rfl, hb_33⟩ := hR; exact ⟨_, rfl, rfl, hb_33⟩)⟩)),
(step_ok rfl (fun a' w' hb' hO hD => by
   have d_35 : a'.eval (.tmp 96) = .bool (true) := hD 16 96 (by kernel_rfl) rfl
   have d_36 : a'.eval (.tmp 103) = .bool (true) := hD 23 103 (by kernel_rfl) rfl
   exact .inl ⟨_, _, (o_pickT rfl d_35 d_36), rfl, Below.refl _ _⟩)),
(step_ok rfl (fun a' w' hb' hO hD => by
   have d_37 : a'.eval (.tmp 104) = .bool (true) := hD 24 104 (by kernel_rfl) rfl
   exact .inl ⟨_, _, (o_move rfl d_37), rfl, Below.refl _ _⟩)),
(step_yes 25 true 105 rfl rfl (by kernel_rfl) (fun _ _ h => h) (fun a' w' hb' hO hD => by
   have d_38 : a'.eval (.tmp 15) = .pointer (some ⟨g_5, 0, none⟩) := (hO 15 (by decide)).trans (pe hs rfl rfl)
   exact .inl ⟨_, _, (o_loadS (vs := [.int .u64 (r_16), .int .u64 (r_17), .int .u64 (r_18), .int .u64 (r_19), .int .u64 (r_20)]) rfl d_38 (hB_10.nx hb') ⟨by kernel_rfl, by kernel_rfl⟩), rfl, Below.refl _ _⟩)),
(step_yes 25 true 105 rfl rfl (by kernel_rfl) (fun _ _ h => h) (fun a' w' hb' hO hD => by
   have d_39 : a'.eval (.tmp 106) = .agg #[.int .u64 (r_16), .int .u64 (r_17), .int .u64 (r_18), .int .u64 (r_19), .int .u64 (r_20)] := hD 26 106 (by kernel_rfl) rfl
   exact .inr ⟨_, #[.agg #[.int .u64 (r_16), .int .u64 (r_17), .int .u64 (r_18), .int .u64 (r_19), .int .u64 (r_20)]], (exec_call Try.func18 (by kernel_rfl) (by kernel_rfl) _ rfl _ _ (args1 d_39)), Calls.mono (Inv_any hE_4 _) (fun e w'' hR => by obtain ⟨r0, r1, r2, r3, r4, rfl, hE9, hb9⟩ := hR; exact ⟨_, rfl, ⟨r0, r1, r2, r3, r4, rfl, hE9⟩, hb9⟩)⟩)),
(step_yes 25 true 105 rfl rfl (by kernel_rfl) (fun _ _ h => h) (fun a' w' hb' hO hD => by
   have d_40 : a'.eval (.tmp 17) = .pointer (some ⟨g_6, 0, none⟩) := (hO 17 (by decide)).trans (pe hs rfl rfl)
   exact .inl ⟨_, _, (o_loadI rfl d_40 (hB_12.nx hb') (by rw [(dg_length _)]; exact ⟨by kernel_rfl, by kernel_rfl⟩)), rfl, Below.refl _ _⟩)),
(step_yes 25 true 105 rfl rfl (by kernel_rfl) (fun _ _ h => h) (fun a' w' hb' hO hD => by
   have d_41 : a'.eval (.tmp 108) = .agg (iws .u64 (dg (numL (padTo 32 xa)))).toArray := hD 28 108 (by kernel_rfl) rfl
   exact .inr ⟨_, #[.agg (iws .u64 (dg (numL (padTo 32 xa)))).toArray], (exec_call Try.func19 (by kernel_rfl) (by kernel_rfl) _ rfl _ _ (args1 d_41)), Calls.mono (InvNum_any _) (fun e w'' hR => by obtain ⟨rfl, hb_34⟩ := hR; exact ⟨_, rfl, rfl, hb_34⟩)⟩)),
(step_yes 25 true 105 rfl rfl (by kernel_rfl) (fun _ _ h => h) (fun a' w' hb' hO hD => by
   have d_42 := hD 27 107 (by kernel_rfl) rfl
   obtain ⟨r_36, r_37, r_38, r_39, r_40, hv_4, hE_8⟩ := d_42
   have d_43 : a'.eval (.tmp 109) = .agg (iws .u64 (dg (finv (numL (padTo 32 xa))))).toArray := hD 29 109 (by kernel_rfl) rfl
   exact .inr ⟨_, #[.agg #[.int .u64 (r_36), .int .u64 (r_37), .int .u64 (r_38), .int .u64 (r_39), .int .u64 (r_40)], .agg (iws .u64 (dg (finv (numL (padTo 32 xa))))).toArray], (exec_call Try.func8 (by kernel_rfl) (by kernel_rfl) _ rfl _ _ (args2 hv_4 d_43)), Calls.mono (same5_any _ hE_8) (fun e w'' hR => by obtain ⟨rfl, hb_35⟩ := hR; exact ⟨_, rfl, rfl, hb_35⟩)⟩)),
(step_ok rfl (fun a' w' hb' hO hD => by
   have d_44 : a'.eval (.tmp 105) = .bool (true) := hD 25 105 (by kernel_rfl) rfl
   have d_45 : a'.eval (.tmp 110) = .bool (true) := hD 30 110 (by kernel_rfl) rfl
   exact .inl ⟨_, _, (o_pickT rfl d_44 d_45), rfl, Below.refl _ _⟩)),
(step_ok rfl (fun a' w' hb' hO hD => by
   have d_46 : a'.eval (.tmp 111) = .bool (true) := hD 31 111 (by kernel_rfl) rfl
   exact .inl ⟨_, _, (o_move rfl d_46), rfl, Below.refl _ _⟩)),
(step_yes 32 true 112 rfl rfl (by kernel_rfl) (fun _ _ h => h) (fun a' w' hb' hO hD => by
   have d_47 : a'.eval (.tmp 15) = .pointer (some ⟨g_5, 0, none⟩) := (hO 15 (by decide)).trans (pe hs rfl rfl)
   exact .inl ⟨_, _, (o_loadS (vs := [.int .u64 (r_16), .int .u64 (r_17), .int .u64 (r_18), .int .u64 (r_19), .int .u64 (r_20)]) rfl d_47 (hB_10.nx hb') ⟨by kernel_rfl, by kernel_rfl⟩), rfl, Below.refl _ _⟩)),
(step_yes 32 true 112 rfl rfl (by kernel_rfl) (fun _ _ h => h) (fun a' w' hb' hO hD => by
   have d_48 : a'.eval (.tmp 11) = .pointer (some ⟨g_3, 0, none⟩) := (hO 11 (by decide)).trans (pe hs rfl rfl)
   exact .inl ⟨_, _, (o_loadS (vs := [.int .u64 (r_11), .int .u64 (r_12), .int .u64 (r_13), .int .u64 (r_14), .int .u64 (r_15)]) rfl d_48 (hB_6.nx hb') ⟨by kernel_rfl, by kernel_rfl⟩), rfl, Below.refl _ _⟩)),
(step_yes 32 true 112 rfl rfl (by kernel_rfl) (fun _ _ h => h) (fun a' w' hb' hO hD => by
   have d_49 : a'.eval (.tmp 113) = .agg #[.int .u64 (r_16), .int .u64 (r_17), .int .u64 (r_18), .int .u64 (r_19), .int .u64 (r_20)] := hD 33 113 (by kernel_rfl) rfl
   have d_50 : a'.eval (.tmp 114) = .agg #[.int .u64 (r_11), .int .u64 (r_12), .int .u64 (r_13), .int .u64 (r_14), .int .u64 (r_15)] := hD 34 114 (by kernel_rfl) rfl
   exact .inr ⟨_, #[.agg #[.int .u64 (r_16), .int .u64 (r_17), .int .u64 (r_18), .int .u64 (r_19), .int .u64 (r_20)], .agg #[.int .u64 (r_11), .int .u64 (r_12), .int .u64 (r_13), .int .u64 (r_14), .int .u64 (r_15)]], (exec_call Try.func20 (by kernel_rfl) (by kernel_rfl) _ rfl _ _ (args2 d_49 d_50)), Calls.mono (Same_any hE_4 hE_3 _) (fun e w'' hR => by obtain ⟨rfl, hb_36⟩ := hR; exact ⟨_, rfl, rfl, hb_36⟩)⟩)),
(step_yes 32 true 112 rfl rfl (by kernel_rfl) (fun _ _ h => h) (fun a' w' hb' hO hD => by
   have d_51 : a'.eval (.tmp 17) = .pointer (some ⟨g_6, 0, none⟩) := (hO 17 (by decide)).trans (pe hs rfl rfl)
   exact .inl ⟨_, _, (o_loadI rfl d_51 (hB_12.nx hb') (by rw [(dg_length _)]; exact ⟨by kernel_rfl, by kernel_rfl⟩)), rfl, Below.refl _ _⟩)),
(step_yes 32 true 112 rfl rfl (by kernel_rfl) (fun _ _ h => h) (fun a' w' hb' hO hD => by
   have d_52 : a'.eval (.tmp 116) = .agg (iws .u64 (dg (numL (padTo 32 xa)))).toArray := hD 36 116 (by kernel_rfl) rfl
   exact .inr ⟨_, #[.agg (iws .u64 (dg (numL (padTo 32 xa)))).toArray], (exec_call Try.func21 (by kernel_rfl) (by kernel_rfl) _ rfl _ _ (args1 d_52)), Calls.mono (NumBytesR_any _) (fun e w'' hR => by obtain ⟨A_5, c_5, rfl, ho_5, hb_37⟩ := hR; exact ⟨_, rfl, ⟨_, _, rfl, ho_5.mono hb'.size⟩, hb_37⟩)⟩)),
(step_yes 32 true 112 rfl rfl (by kernel_rfl) (fun _ _ h => h) (fun a' w' hb' hO hD => by
   have d_53 := hD 37 117 (by kernel_rfl) rfl
   obtain ⟨A_6, c_6, hv_5, hO_1⟩ := d_53
   exact .inl ⟨_, _, (o_str rfl hv_5 (hO_1).bs (nbL_length _)), rfl, Below.refl _ _⟩)),
(step_yes 32 true 112 rfl rfl (by kernel_rfl) (fun _ _ h => h) (fun a' w' hb' hO hD => by
   have d_54 : a'.eval (.tmp 13) = .pointer (some ⟨g_4, 0, none⟩) := (hO 13 (by decide)).trans (pe hs rfl rfl)
   exact .inl ⟨_, _, (o_loadI rfl d_54 (hB_8.nx hb') (by rw [(dg_length _)]; exact ⟨by kernel_rfl, by kernel_rfl⟩)), rfl, Below.refl _ _⟩)),
(step_yes 32 true 112 rfl rfl (by kernel_rfl) (fun _ _ h => h) (fun a' w' hb' hO hD => by
   have d_55 : a'.eval (.tmp 119) = .agg (iws .u64 (dg (numL (padTo 32 xb)))).toArray := hD 39 119 (by kernel_rfl) rfl
   exact .inr ⟨_, #[.agg (iws .u64 (dg (numL (padTo 32 xb)))).toArray], (exec_call Try.func21 (by kernel_rfl) (by kernel_rfl) _ rfl _ _ (args1 d_55)), Calls.mono (NumBytesR_any _) (fun e w'' hR => by obtain ⟨A_7, c_7, rfl, ho_6, hb_38⟩ := hR; exact ⟨_, rfl, ⟨_, _, rfl, ho_6.mono hb'.size⟩, hb_38⟩)⟩)),
(step_yes 32 true 112 rfl rfl (by kernel_rfl) (fun _ _ h => h) (fun a' w' hb' hO hD => by
   have d_56 := hD 40 120 (by kernel_rfl) rfl
   obtain ⟨A_8, c_8, hv_6, hO_2⟩ := d_56
   exact .inl ⟨_, _, (o_str rfl hv_6 (hO_2).bs (nbL_length _)), rfl, Below.refl _ _⟩)),
(step_yes 32 true 112 rfl rfl (by kernel_rfl) (fun _ _ h => h) (fun a' w' hb' hO hD => by
   have d_57 : a'.eval (.tmp 118) = .string (strB (nbL (numL (padTo 32 xa)))) := hD 38 118 (by kernel_rfl) rfl
   have d_58 : a'.eval (.tmp 121) = .string (strB (nbL (numL (padTo 32 xb)))) := hD 41 121 (by kernel_rfl) rfl
   exact .inl ⟨_, _, (o_eqSD rfl d_57 d_58), rfl, Below.refl _ _⟩)),
(step_yes 32 true 112 rfl rfl (by kernel_rfl) (fun _ _ h => h) (fun a' w' hb' hO hD => by
   have d_59 : a'.eval (.tmp 115) = .bool (decide (numL (padTo 32 xa) = numL (padTo 32 xb))) := hD 35 115 (by kernel_rfl) rfl
   have d_60 : a'.eval (.tmp 122) = .bool (decide (strB (nbL (numL (padTo 32 xa))) = strB (nbL (numL (padTo 32 xb))))) := hD 42 122 (by kernel_rfl) rfl
   have e0 : (.bool ( (decide (numL (padTo 32 xa) = numL (padTo 32 xb)) == decide (strB (nbL (numL (padTo 32 xa))) = strB (nbL (numL (padTo 32 xb)))))) : Value) = .bool (true) := (congrArg Value.bool (same_nb _ _))
   exact .inl ⟨_, _, (o_eqB rfl d_59 d_60 (fun _ => by kernel_rfl)), e0, Below.refl _ _⟩)),
(step_ok rfl (fun a' w' hb' hO hD => by
   have d_61 : a'.eval (.tmp 112) = .bool (true) := hD 32 112 (by kernel_rfl) rfl
   have d_62 : a'.eval (.tmp 123) = .bool (true) := hD 43 123 (by kernel_rfl) rfl
   exact .inl ⟨_, _, (o_pickT rfl d_61 d_62), rfl, Below.refl _ _⟩)),
(step_ok rfl (fun a' w' hb' hO hD => by
   have d_63 : a'.eval (.tmp 124) = .bool (true) := hD 44 124 (by kernel_rfl) rfl
   exact .inl ⟨_, _, (o_move rfl d_63), rfl, Below.refl _ _⟩)),
(step_yes 45 true 125 rfl rfl (by kernel_rfl) (fun _ _ h => h) (fun a' w' hb' hO hD => by
   have d_64 : a'.eval (.tmp 19) = .pointer (some ⟨g_7, 0, none⟩) := (hO 19 (by decide)).trans (pe hs rfl rfl)
   exact .inl ⟨_, _, (o_loadS (vs := [.int .u64 (0), .int .u64 (0), .int .u64 (0), .int .u64 (0), .int .u64 (0)]) rfl d_64 (hB_13.nx hb') ⟨by kernel_rfl, by kernel_rfl⟩), rfl, Below.refl _ _⟩)),
(step_yes 45 true 125 rfl rfl (by kernel_rfl) (fun _ _ h => h) (fun a' w' hb' hO hD => by
   exact .inr ⟨_, #[.int .u64 ((0 : Nat) : Int)], (exec_call Try.func10 (by kernel_rfl) (by kernel_rfl) _ rfl _ _ (args1 rfl)), Calls.mono (NumOf_0 _) (fun e w'' hR => by obtain ⟨rfl, hb_39⟩ := hR; exact ⟨_, rfl, rfl, hb_39⟩)⟩)), trivial⟩ (fun a_1 w_28 hs_1 hd_1 hb_40 hO_3 hV_1 => ?_)
 clear t0 t1 t2 hd
 have HB_27 := below_from HB_26 hb_40
 have x_1 := hV_1 2 82 rfl rfl
 obtain ⟨r_41, r_42, r_43, r_44, r_45, hv_7, hE_9⟩ := x_1
 have x_2 := hV_1 10 90 rfl rfl
 obtain ⟨r_46, r_47, r_48, r_49, r_50, hv_8, hE_10⟩ := x_2
 have x_3 := hV_1 19 99 rfl rfl
 obtain ⟨r_51, r_52, r_53, r_54, r_55, hv_9, hE_11⟩ := x_3
 have x_4 := hV_1 27 107 rfl rfl
 obtain ⟨r_56, r_57, r_58, r_59, r_60, hv_10, hE_12⟩ := x_4
 have x_5 := hV_1 37 117 rfl rfl
 obtain ⟨A_9, c_9, hv_11, hO_4⟩ := x_5
 replace hO_4 := hO_4.mono HB_26.size
 have x_6 := hV_1 40 120 rfl rfl
 obtain ⟨A_10, c_10, hv_12, hO_5⟩ := x_6
 replace hO_5 := hO_5.mono HB_26.size
 have ta_1_125 : a_1.eval (.tmp 125) = .bool (true) := hV_1 45 125 rfl rfl
 have ta_1_126 : a_1.eval (.tmp 126) = .agg #[.int .u64 (0), .int .u64 (0), .int .u64 (0), .int .u64 (0), .int .u64 (0)] := hV_1 46 126 rfl rfl
 have ta_1_127 : a_1.eval (.tmp 127) = .agg (iws .u64 (dg (0 : F))).toArray := hV_1 47 127 rfl rfl
 clear hV_1 hO_3
 simp only [List.drop_succ_cons, List.drop_zero]
 refine op_callG (e := 125) (vs := #[.agg #[.int .u64 (0), .int .u64 (0), .int .u64 (0), .int .u64 (0), .int .u64 (0)], .agg (iws .u64 (dg (0 : F))).toArray]) rfl rfl (by kernel_rfl) ((pm rfl).trans ta_1_125) (exec_call Try.func8 (by kernel_rfl) (by kernel_rfl) _ rfl _ _ (args2 ((pm rfl).trans ta_1_126) ((pm rfl).trans ta_1_127))) (same5_any _ zero_El) (fun e_15 w_29 hR_28 => ?_)
 obtain ⟨rfl, hb_42⟩ := hR_28
 replace hO_4 := hO_4.nx hb_42
 replace hO_5 := hO_5.nx hb_42
 have HB_28 := below_from HB_27 hb_42
 refine ⟨_, rfl, ?_⟩
 refine q_v 129 (.bool (true)) (o_pickT rfl ((pm rfl).trans ta_1_125) (pe hs_1 rfl rfl)) ?_
 refine q_mv (pe hs_1 rfl rfl) ?_
 refine op_callG (e := 130) (vs := #[]) rfl rfl (by kernel_rfl) (pe hs_1 rfl rfl) (exec_call Try.func5 (by kernel_rfl) (by kernel_rfl) _ rfl _ _ (args0)) (awake5_any _) (fun e_16 w_30 hR_29 => ?_)
 obtain ⟨rfl, hb_44⟩ := hR_29
 replace hO_4 := hO_4.nx hb_44
 replace hO_5 := hO_5.nx hb_44
 have HB_29 := below_from HB_28 hb_44
 refine ⟨_, rfl, ?_⟩
 refine q_v 132 (.bool (true)) (o_pickT rfl (pe hs_1 rfl rfl) (pe hs_1 rfl rfl)) ?_
 refine q_at (pe hs_1 rfl rfl) ?_
 refine x_nil (hK_13 _ _ ?_)
 refine w2_ret ?_
 refine ret1 rfl hd_1 (pe hs_1 rfl rfl) ?_
 exact ⟨rfl, HB_29⟩
set_option maxHeartbeats 4000000 in
theorem FFormsB {A1 A2 : Option Addr} {c1 c2 n1 n2 : Nat} {xa xb : List Nat} (nn : Nat) (hn : nn < 18446744073709551616) (w : World) (h1 : Bs w A1 c1 xa) (l1 : xa.length = n1) (h2 : Bs w A2 c2 xb) (l2 : xb.length = n2) (p1 : n1 ≤ 40) (p2 : n2 ≤ 40) (h32 : ¬ n1 = 32) :
  Calls Try.prog 3 #[.slice A1 (n1) (c1), .slice A2 (n2) (c2), .int .u64 ((nn : Nat) : Int)] w fun e w' => e = .returned (.bool true) ∧ Below w.heap.size w w' := by
 refine x_enter 133 Try.func3 rfl rfl (fun a hs hd ha0 => ?_)
 have t0 : a.eval (.tmp 0) = .slice A1 (n1) (c1) := ha0 0 _ rfl
 have t1 : a.eval (.tmp 1) = .slice A2 (n2) (c2) := ha0 1 _ rfl
 have t2 : a.eval (.tmp 2) = .int .u64 ((nn : Nat) : Int) := ha0 2 _ rfl
 clear ha0
 refine w2_sr (fun K_1 hK_1 => ?_)
 refine q_as (.bool (false)) rfl ?_
 refine x_nil (hK_1 _ _ ?_)
 refine w2_seq (fun K_2 hK_2 => ?_)
 refine w2_sr (fun K_3 hK_3 => ?_)
 refine q_mv ((pm rfl).trans t0) ?_
 refine q_v 21 (.int .i64 ((n1 : Nat) : Int)) (o_len rfl (pe hs rfl rfl)) ?_
 refine q_v 22 (.bool (false)) (o_eq (o_gtr (m := n1) (n := 40) rfl (pe hs rfl rfl) rfl) (by rw [decide_eq_false (by omega)])) ?_
 refine q_mv (pe hs rfl rfl) ?_
 refine op_valG (e := 23) (d := 24) (v := .slice A2 (n2) (c2)) rfl rfl (by kernel_rfl) (pe hs rfl rfl) (o_move rfl ((pm rfl).trans t1)) ?_
 refine op_valG (e := 23) (d := 25) (v := .int .i64 ((n2 : Nat) : Int)) rfl rfl (by kernel_rfl) (pe hs rfl rfl) (o_len rfl (pe hs rfl rfl)) ?_
 refine op_valG (e := 23) (d := 26) (v := .bool (false)) rfl rfl (by kernel_rfl) (pe hs rfl rfl) (o_eq (o_gtr (m := n2) (n := 40) rfl (pe hs rfl rfl) rfl) (by rw [decide_eq_false (by omega)])) ?_
 refine q_v 27 (.bool (false)) (o_pickF rfl (pe hs rfl rfl) (pe hs rfl rfl)) ?_
 refine x_nil (hK_3 _ _ ?_)
 refine w2_condF (pe hs rfl rfl) ?_
 refine w2_skip ?_
 refine hK_2 _ _ ?_
 refine w2_sr (fun K_4 hK_4 => ?_)
 refine q_mv ((pm rfl).trans t0) ?_
 refine q_ca (vs := #[.slice A1 (n1) (c1)]) Try.func6 (args1 (pe hs rfl rfl)) (ParseE_no _ h1 (by simp only [l1]) h32) (fun e_1 w_1 hR_1 => ?_)
 obtain ⟨rfl, hb_2⟩ := hR_1
 refine ⟨_, rfl, ?_⟩
 refine q_mv (pe hs rfl rfl) ?_
 refine q_ex (v := .agg #[.int .u64 (0), .int .u64 (0), .int .u64 (0), .int .u64 (0), .int .u64 (0)]) (pe hs rfl rfl) rfl ?_
 refine q_ex (v := .int .i64 ((1 : Nat) : Int)) (pe hs rfl rfl) rfl ?_
 refine op_ex (d := 7) rfl rfl (o_alloc (zs := #[.int .u64 (0), .int .u64 (0), .int .u64 (0), .int .u64 (0), .int .u64 (0)]) rfl (fun _ => by kernel_rfl)) (fun v_1 w_2 hR_2 => ?_)
 obtain ⟨g_1, rfl, hle_1, hB_1, hb_3⟩ := hR_2
 have ge_1 : w.heap.size ≤ g_1 := Nat.le_trans hb_2.size hle_1
 have HB_1 := below_from hb_2 hb_3
 refine op_do rfl rfl (o_storeL (vs := [.int .u64 (0), .int .u64 (0), .int .u64 (0), .int .u64 (0), .int .u64 (0)]) rfl (pe hs rfl rfl) (pe hs rfl rfl) hB_1 ⟨by kernel_rfl, by kernel_rfl⟩ rfl (by simp [Value.oneCell'])) (fun w_3 hR_3 => ?_)
 obtain ⟨hB_2, hX_1⟩ := hR_3
 have HB_2 := hX_1.below HB_1 HB_1.size (fun k hk => hk ▸ ge_1)
 clear hB_1
 refine q_at (v := .int .i64 ((1 : Nat) : Int)) (pe hs rfl rfl) ?_
 refine x_nil (hK_4 _ _ ?_)
 refine w2_sr (fun K_5 hK_5 => ?_)
 refine q_mv ((pm rfl).trans t0) ?_
 refine q_ca (vs := #[.slice A1 (n1) (c1)]) Try.func7 (args1 (pe hs rfl rfl)) (ParseNum_no0 _ (h1.below HB_2) (by simp only [l1]) h32) (fun e_2 w_4 hR_4 => ?_)
 obtain ⟨rfl, hb_5⟩ := hR_4
 replace hB_2 := hB_2.nx hb_5
 have HB_3 := below_from HB_2 hb_5
 refine ⟨_, rfl, ?_⟩
 refine q_mv (pe hs rfl rfl) ?_
 refine q_ex (v := .agg (iws .u64 (dg (0 : F))).toArray) (pe hs rfl rfl) rfl ?_
 refine q_ex (v := .int .i64 ((1 : Nat) : Int)) (pe hs rfl rfl) rfl ?_
 refine op_ex (d := 9) rfl rfl (o_alloc (zs := (iws .u64 (List.replicate 16 0)).toArray) rfl (fun _ => by kernel_rfl)) (fun v_2 w_5 hR_5 => ?_)
 obtain ⟨g_2, rfl, hle_2, hB_3, hb_6⟩ := hR_5
 have ne_1 : g_1 ≠ g_2 := Nat.ne_of_lt (Nat.lt_of_lt_of_le hB_2.lt hle_2)
 have ge_2 : w.heap.size ≤ g_2 := Nat.le_trans HB_3.size hle_2
 replace hB_2 := hB_2.nx hb_6
 have HB_4 := below_from HB_3 hb_6
 refine op_do rfl rfl (o_storeI rfl (pe hs rfl rfl) (pe hs rfl rfl) hB_3 (by rw [(dg_length _)]; exact ⟨by kernel_rfl, by kernel_rfl⟩) (by rw [(dg_length _)]; simp [iws])) (fun w_6 hR_6 => ?_)
 obtain ⟨hB_4, hX_2⟩ := hR_6
 replace hB_2 := hX_2.blk hB_2 ne_1
 have HB_5 := hX_2.below HB_4 HB_4.size (fun k hk => hk ▸ ge_2)
 clear hB_3
 refine q_at (v := .int .i64 ((1 : Nat) : Int)) (pe hs rfl rfl) ?_
 refine x_nil (hK_5 _ _ ?_)
 refine w2_seq (fun K_6 hK_6 => ?_)
 refine w2_sr (fun K_7 hK_7 => ?_)
 refine q_mv (v := .int .i64 ((1 : Nat) : Int)) (pe hs rfl rfl) ?_
 refine q_mv (v := .int .i64 ((1 : Nat) : Int)) (pe hs rfl rfl) ?_
 refine q_v 41 (.bool (false)) (o_eq (o_neq (m := 1) (n := 1) rfl (pe hs rfl rfl) (pe hs rfl rfl)) rfl) ?_
 refine q_mv (pe hs rfl rfl) ?_
 refine op_valG (e := 42) (d := 43) (v := .agg #[.int .u64 (0), .int .u64 (0), .int .u64 (0), .int .u64 (0), .int .u64 (0)]) rfl rfl (by kernel_rfl) (pe hs rfl rfl) (o_loadS (vs := [.int .u64 (0), .int .u64 (0), .int .u64 (0), .int .u64 (0), .int .u64 (0)]) rfl (pe hs rfl rfl) hB_2 ⟨by kernel_rfl, by kernel_rfl⟩) ?_
 refine op_valG (e := 42) (d := 44) (v := .agg (iws .u64 (dg (0 : F))).toArray) rfl rfl (by kernel_rfl) (pe hs rfl rfl) (o_loadI rfl (pe hs rfl rfl) hB_4 (by rw [(dg_length _)]; exact ⟨by kernel_rfl, by kernel_rfl⟩)) ?_
 refine op_callG (e := 42) (vs := #[.agg #[.int .u64 (0), .int .u64 (0), .int .u64 (0), .int .u64 (0), .int .u64 (0)], .agg (iws .u64 (dg (0 : F))).toArray]) rfl rfl (by kernel_rfl) (pe hs rfl rfl) (exec_call Try.func8 (by kernel_rfl) (by kernel_rfl) _ rfl _ _ (args2 (pe hs rfl rfl) (pe hs rfl rfl))) (same5_any _ zero_El) (fun e_3 w_7 hR_7 => ?_)
 obtain ⟨rfl, hb_8⟩ := hR_7
 have HB_6 := below_from HB_5 hb_8
 refine ⟨_, rfl, ?_⟩
 refine op_valG (e := 42) (d := 46) (v := .bool (false)) rfl rfl (by kernel_rfl) (pe hs rfl rfl) (o_not (b := true) rfl (pe hs rfl rfl)) ?_
 refine q_v 47 (.bool (false)) (o_pickF rfl (pe hs rfl rfl) (pe hs rfl rfl)) ?_
 refine q_mv (pe hs rfl rfl) ?_
 refine op_valG (e := 48) (d := 49) (v := .int .u64 ((nn : Nat) : Int)) rfl rfl (by kernel_rfl) (pe hs rfl rfl) (o_move rfl ((pm rfl).trans t2)) ?_
 refine op_callG (e := 48) (vs := #[.int .u64 ((nn : Nat) : Int)]) rfl rfl (by kernel_rfl) (pe hs rfl rfl) (exec_call Try.func9 (by kernel_rfl) (by kernel_rfl) _ rfl _ _ (args1 (pe hs rfl rfl))) (Of_any ((nn : Nat) : Int) _ (by omega) (by omega)) (fun e_4 w_8 hR_8 => ?_)
 obtain ⟨r_1, r_2, r_3, r_4, r_5, rfl, hE_1, hb_9⟩ := hR_8
 have HB_7 := below_from HB_6 hb_9
 refine ⟨_, rfl, ?_⟩
 refine op_valG (e := 48) (d := 51) (v := .int .u64 ((nn : Nat) : Int)) rfl rfl (by kernel_rfl) (pe hs rfl rfl) (o_move rfl ((pm rfl).trans t2)) ?_
 refine op_callG (e := 48) (vs := #[.int .u64 ((nn : Nat) : Int)]) rfl rfl (by kernel_rfl) (pe hs rfl rfl) (exec_call Try.func10 (by kernel_rfl) (by kernel_rfl) _ rfl _ _ (args1 (pe hs rfl rfl))) (NumOf_F _ _ (by omega)) (fun e_5 w_9 hR_9 => ?_)
 obtain ⟨rfl, hb_11⟩ := hR_9
 have HB_8 := below_from HB_7 hb_11
 refine ⟨_, rfl, ?_⟩
 refine op_callG (e := 48) (vs := #[.agg #[.int .u64 (r_1), .int .u64 (r_2), .int .u64 (r_3), .int .u64 (r_4), .int .u64 (r_5)], .agg (iws .u64 (dg (toF ((nn : Nat) : Int)))).toArray]) rfl rfl (by kernel_rfl) (pe hs rfl rfl) (exec_call Try.func8 (by kernel_rfl) (by kernel_rfl) _ rfl _ _ (args2 (pe hs rfl rfl) (pe hs rfl rfl))) (same5_any _ hE_1) (fun e_6 w_10 hR_10 => ?_)
 obtain ⟨rfl, hb_13⟩ := hR_10
 have HB_9 := below_from HB_8 hb_13
 refine ⟨_, rfl, ?_⟩
 refine op_valG (e := 48) (d := 54) (v := .bool (false)) rfl rfl (by kernel_rfl) (pe hs rfl rfl) (o_not (b := true) rfl (pe hs rfl rfl)) ?_
 refine q_v 55 (.bool (false)) (o_pickF rfl (pe hs rfl rfl) (pe hs rfl rfl)) ?_
 refine x_nil (hK_7 _ _ ?_)
 refine w2_condF (pe hs rfl rfl) ?_
 refine w2_skip ?_
 refine hK_6 _ _ ?_
 refine w2_sr (fun K_8 hK_8 => ?_)
 refine q_mv ((pm rfl).trans t1) ?_
 refine q_ca (vs := #[.slice A2 (n2) (c2)]) Try.func11 (args1 (pe hs rfl rfl)) (two_own _ (h2.below HB_9) (by simp only [l2])) (fun e_7 w_11 hR_11 => ?_)
 obtain ⟨A_1, c_1, rfl, ho_1, hb_14⟩ := hR_11
 replace ho_1 := ho_1.mono HB_9.size
 have HB_10 := below_from HB_9 hb_14
 refine ⟨_, rfl, ?_⟩
 refine q_ca (vs := #[.slice A_1 (32) (c_1)]) Try.func6 (args1 (pe hs rfl rfl)) (ParseE_ok _ (ho_1).bs (padTo_length _ _) rfl) (fun e_8 w_12 hR_12 => ?_)
 obtain ⟨r_6, r_7, r_8, r_9, r_10, rfl, hE_2, hb_15⟩ := hR_12
 have HB_11 := below_from HB_10 hb_15
 refine ⟨_, rfl, ?_⟩
 refine q_mv (pe hs rfl rfl) ?_
 refine q_ex (v := .agg #[.int .u64 (r_6), .int .u64 (r_7), .int .u64 (r_8), .int .u64 (r_9), .int .u64 (r_10)]) (pe hs rfl rfl) rfl ?_
 refine q_ex (v := .int .i64 ((0 : Nat) : Int)) (pe hs rfl rfl) rfl ?_
 refine op_ex (d := 11) rfl rfl (o_alloc (zs := #[.int .u64 (0), .int .u64 (0), .int .u64 (0), .int .u64 (0), .int .u64 (0)]) rfl (fun _ => by kernel_rfl)) (fun v_3 w_13 hR_13 => ?_)
 obtain ⟨g_3, rfl, hle_3, hB_5, hb_16⟩ := hR_13
 have ge_3 : w.heap.size ≤ g_3 := Nat.le_trans HB_11.size hle_3
 have HB_12 := below_from HB_11 hb_16
 refine op_do rfl rfl (o_storeL (vs := [.int .u64 (r_6), .int .u64 (r_7), .int .u64 (r_8), .int .u64 (r_9), .int .u64 (r_10)]) rfl (pe hs rfl rfl) (pe hs rfl rfl) hB_5 ⟨by kernel_rfl, by kernel_rfl⟩ rfl (by simp [Value.oneCell'])) (fun w_14 hR_14 => ?_)
 obtain ⟨hB_6, hX_3⟩ := hR_14
 have HB_13 := hX_3.below HB_12 HB_12.size (fun k hk => hk ▸ ge_3)
 clear hB_5
 refine q_at (v := .int .i64 ((0 : Nat) : Int)) (pe hs rfl rfl) ?_
 refine x_nil (hK_8 _ _ ?_)
 refine w2_sr (fun K_9 hK_9 => ?_)
 refine q_mv ((pm rfl).trans t1) ?_
 refine q_ca (vs := #[.slice A2 (n2) (c2)]) Try.func11 (args1 (pe hs rfl rfl)) (two_own _ (h2.below HB_13) (by simp only [l2])) (fun e_9 w_15 hR_15 => ?_)
 obtain ⟨A_2, c_2, rfl, ho_2, hb_17⟩ := hR_15
 replace ho_2 := ho_2.mono HB_13.size
 replace hB_6 := hB_6.nx hb_17
 have HB_14 := below_from HB_13 hb_17
 refine ⟨_, rfl, ?_⟩
 refine q_ca (vs := #[.slice A_2 (32) (c_2)]) Try.func7 (args1 (pe hs rfl rfl)) (ParseNum_ok _ (ho_2).bs (padTo_length _ _) rfl) (fun e_10 w_16 hR_16 => ?_)
 obtain ⟨rfl, hb_19⟩ := hR_16
 replace hB_6 := hB_6.nx hb_19
 have HB_15 := below_from HB_14 hb_19
 refine ⟨_, rfl, ?_⟩
 refine q_mv (pe hs rfl rfl) ?_
 refine q_ex (v := .agg (iws .u64 (dg (numL (padTo 32 xb)))).toArray) (pe hs rfl rfl) rfl ?_
 refine q_ex (v := .int .i64 ((0 : Nat) : Int)) (pe hs rfl rfl) rfl ?_
 refine op_ex (d := 13) rfl rfl (o_alloc (zs := (iws .u64 (List.replicate 16 0)).toArray) rfl (fun _ => by kernel_rfl)) (fun v_4 w_17 hR_17 => ?_)
 obtain ⟨g_4, rfl, hle_4, hB_7, hb_20⟩ := hR_17
 have ne_6 : g_3 ≠ g_4 := Nat.ne_of_lt (Nat.lt_of_lt_of_le hB_6.lt hle_4)
 have ge_4 : w.heap.size ≤ g_4 := Nat.le_trans HB_15.size hle_4
 replace hB_6 := hB_6.nx hb_20
 have HB_16 := below_from HB_15 hb_20
 refine op_do rfl rfl (o_storeI rfl (pe hs rfl rfl) (pe hs rfl rfl) hB_7 (by rw [(dg_length _)]; exact ⟨by kernel_rfl, by kernel_rfl⟩) (by rw [(dg_length _)]; simp [iws])) (fun w_18 hR_18 => ?_)
 obtain ⟨hB_8, hX_4⟩ := hR_18
 replace hB_6 := hX_4.blk hB_6 ne_6
 have HB_17 := hX_4.below HB_16 HB_16.size (fun k hk => hk ▸ ge_4)
 clear hB_7
 refine q_at (v := .int .i64 ((0 : Nat) : Int)) (pe hs rfl rfl) ?_
 refine x_nil (hK_9 _ _ ?_)
 refine w2_sr (fun K_10 hK_10 => ?_)
 refine q_mv ((pm rfl).trans t0) ?_
 refine q_ca (vs := #[.slice A1 (n1) (c1)]) Try.func11 (args1 (pe hs rfl rfl)) (two_own _ (h1.below HB_17) (by simp only [l1])) (fun e_11 w_19 hR_19 => ?_)
 obtain ⟨A_3, c_3, rfl, ho_3, hb_21⟩ := hR_19
 replace ho_3 := ho_3.mono HB_17.size
 replace hB_6 := hB_6.nx hb_21
 replace hB_8 := hB_8.nx hb_21
 have HB_18 := below_from HB_17 hb_21
 refine ⟨_, rfl, ?_⟩
 refine q_ca (vs := #[.slice A_3 (32) (c_3)]) Try.func6 (args1 (pe hs rfl rfl)) (ParseE_ok _ (ho_3).bs (padTo_length _ _) rfl) (fun e_12 w_20 hR_20 => ?_)
 obtain ⟨r_11, r_12, r_13, r_14, r_15, rfl, hE_3, hb_22⟩ := hR_20
 replace hB_6 := hB_6.nx hb_22
 replace hB_8 := hB_8.nx hb_22
 have HB_19 := below_from HB_18 hb_22
 refine ⟨_, rfl, ?_⟩
 refine q_mv (pe hs rfl rfl) ?_
 refine q_ex (v := .agg #[.int .u64 (r_11), .int .u64 (r_12), .int .u64 (r_13), .int .u64 (r_14), .int .u64 (r_15)]) (pe hs rfl rfl) rfl ?_
 refine q_ex (v := .int .i64 ((0 : Nat) : Int)) (pe hs rfl rfl) rfl ?_
 refine op_ex (d := 15) rfl rfl (o_alloc (zs := #[.int .u64 (0), .int .u64 (0), .int .u64 (0), .int .u64 (0), .int .u64 (0)]) rfl (fun _ => by kernel_rfl)) (fun v_5 w_21 hR_21 => ?_)
 obtain ⟨g_5, rfl, hle_5, hB_9, hb_23⟩ := hR_21
 have ne_9 : g_3 ≠ g_5 := Nat.ne_of_lt (Nat.lt_of_lt_of_le hB_6.lt hle_5)
 have ne_10 : g_4 ≠ g_5 := Nat.ne_of_lt (Nat.lt_of_lt_of_le hB_8.lt hle_5)
 have ge_5 : w.heap.size ≤ g_5 := Nat.le_trans HB_19.size hle_5
 replace hB_6 := hB_6.nx hb_23
 replace hB_8 := hB_8.nx hb_23
 have HB_20 := below_from HB_19 hb_23
 refine op_do rfl rfl (o_storeL (vs := [.int .u64 (r_11), .int .u64 (r_12), .int .u64 (r_13), .int .u64 (r_14), .int .u64 (r_15)]) rfl (pe hs rfl rfl) (pe hs rfl rfl) hB_9 ⟨by kernel_rfl, by kernel_rfl⟩ rfl (by simp [Value.oneCell'])) (fun w_22 hR_22 => ?_)
 obtain ⟨hB_10, hX_5⟩ := hR_22
 replace hB_6 := hX_5.blk hB_6 ne_9
 replace hB_8 := hX_5.blk hB_8 ne_10
 have HB_21 := hX_5.below HB_20 HB_20.size (fun k hk => hk ▸ ge_5)
 clear hB_9
 refine q_at (v := .int .i64 ((0 : Nat) : Int)) (pe hs rfl rfl) ?_
 refine x_nil (hK_10 _ _ ?_)
 refine w2_sr (fun K_11 hK_11 => ?_)
 refine q_mv ((pm rfl).trans t0) ?_
 refine q_ca (vs := #[.slice A1 (n1) (c1)]) Try.func11 (args1 (pe hs rfl rfl)) (two_own _ (h1.below HB_21) (by simp only [l1])) (fun e_13 w_23 hR_23 => ?_)
 obtain ⟨A_4, c_4, rfl, ho_4, hb_24⟩ := hR_23
 replace ho_4 := ho_4.mono HB_21.size
 replace hB_6 := hB_6.nx hb_24
 replace hB_8 := hB_8.nx hb_24
 replace hB_10 := hB_10.nx hb_24
 have HB_22 := below_from HB_21 hb_24
 refine ⟨_, rfl, ?_⟩
 refine q_ca (vs := #[.slice A_4 (32) (c_4)]) Try.func7 (args1 (pe hs rfl rfl)) (ParseNum_ok _ (ho_4).bs (padTo_length _ _) rfl) (fun e_14 w_24 hR_24 => ?_)
 obtain ⟨rfl, hb_26⟩ := hR_24
 replace hB_6 := hB_6.nx hb_26
 replace hB_8 := hB_8.nx hb_26
 replace hB_10 := hB_10.nx hb_26
 have HB_23 := below_from HB_22 hb_26
 refine ⟨_, rfl, ?_⟩
 refine q_mv (pe hs rfl rfl) ?_
 refine q_ex (v := .agg (iws .u64 (dg (numL (padTo 32 xa)))).toArray) (pe hs rfl rfl) rfl ?_
 refine q_ex (v := .int .i64 ((0 : Nat) : Int)) (pe hs rfl rfl) rfl ?_
 refine op_ex (d := 17) rfl rfl (o_alloc (zs := (iws .u64 (List.replicate 16 0)).toArray) rfl (fun _ => by kernel_rfl)) (fun v_6 w_25 hR_25 => ?_)
 obtain ⟨g_6, rfl, hle_6, hB_11, hb_27⟩ := hR_25
 have ne_13 : g_3 ≠ g_6 := Nat.ne_of_lt (Nat.lt_of_lt_of_le hB_6.lt hle_6)
 have ne_14 : g_4 ≠ g_6 := Nat.ne_of_lt (Nat.lt_of_lt_of_le hB_8.lt hle_6)
 have ne_15 : g_5 ≠ g_6 := Nat.ne_of_lt (Nat.lt_of_lt_of_le hB_10.lt hle_6)
 have ge_6 : w.heap.size ≤ g_6 := Nat.le_trans HB_23.size hle_6
 replace hB_6 := hB_6.nx hb_27
 replace hB_8 := hB_8.nx hb_27
 replace hB_10 := hB_10.nx hb_27
 have HB_24 := below_from HB_23 hb_27
 refine op_do rfl rfl (o_storeI rfl (pe hs rfl rfl) (pe hs rfl rfl) hB_11 (by rw [(dg_length _)]; exact ⟨by kernel_rfl, by kernel_rfl⟩) (by rw [(dg_length _)]; simp [iws])) (fun w_26 hR_26 => ?_)
 obtain ⟨hB_12, hX_6⟩ := hR_26
 replace hB_6 := hX_6.blk hB_6 ne_13
 replace hB_8 := hX_6.blk hB_8 ne_14
 replace hB_10 := hX_6.blk hB_10 ne_15
 have HB_25 := hX_6.below HB_24 HB_24.size (fun k hk => hk ▸ ge_6)
 clear hB_11
 refine q_at (v := .int .i64 ((0 : Nat) : Int)) (pe hs rfl rfl) ?_
 refine x_nil (hK_11 _ _ ?_)
 refine w2_sr (fun K_12 hK_12 => ?_)
 refine op_ex (d := 19) rfl rfl (o_alloc (zs := #[.int .u64 (0), .int .u64 (0), .int .u64 (0), .int .u64 (0), .int .u64 (0)]) rfl (fun _ => by kernel_rfl)) (fun v_7 w_27 hR_27 => ?_)
 obtain ⟨g_7, rfl, hle_7, hB_13, hb_28⟩ := hR_27
 replace hB_6 := hB_6.nx hb_28
 replace hB_8 := hB_8.nx hb_28
 replace hB_10 := hB_10.nx hb_28
 replace hB_12 := hB_12.nx hb_28
 have HB_26 := below_from HB_25 hb_28
 refine x_nil (hK_12 _ _ ?_)
 refine w2_seq (fun K_13 hK_13 => ?_)
 refine x_drawn 48 ((fun _ v => v = .agg #[.int .u64 (r_11), .int .u64 (r_12), .int .u64 (r_13), .int .u64 (r_14), .int .u64 (r_15)]) :: (fun _ v => v = .agg #[.int .u64 (r_6), .int .u64 (r_7), .int .u64 (r_8), .int .u64 (r_9), .int .u64 (r_10)]) :: (fun ww vv => ElV ((numL (padTo 32 xa)) + (numL (padTo 32 xb))) vv) :: (fun _ v => v = .agg (iws .u64 (dg (numL (padTo 32 xa)))).toArray) :: (fun _ v => v = .agg (iws .u64 (dg (numL (padTo 32 xb)))).toArray) :: (fun ww vv => vv = .agg (iws .u64 (dg ((numL (padTo 32 xa)) + (numL (padTo 32 xb))))).toArray) :: (fun ww vv => vv = .bool (true)) :: (fun _ v => v = .bool (true)) :: (fun _ v => v = .agg #[.int .u64 (r_11), .int .u64 (r_12), .int .u64 (r_13), .int .u64 (r_14), .int .u64 (r_15)]) :: (fun _ v => v = .agg #[.int .u64 (r_6), .int .u64 (r_7), .int .u64 (r_8), .int .u64 (r_9), .int .u64 (r_10)]) :: (fun ww vv => ElV ((numL (padTo 32 xa)) - (numL (padTo 32 xb))) vv) :: (fun _ v => v = .agg (iws .u64 (dg (numL (padTo 32 xa)))).toArray) :: (fun _ v => v = .agg (iws .u64 (dg (numL (padTo 32 xb)))).toArray) :: (fun ww vv => vv = .agg (iws .u64 (dg ((numL (padTo 32 xa)) - (numL (padTo 32 xb))))).toArray) :: (fun ww vv => vv = .bool (true)) :: (fun _ v => v = .bool (true)) :: (fun _ v => v = .bool (true)) :: (fun _ v => v = .agg #[.int .u64 (r_11), .int .u64 (r_12), .int .u64 (r_13), .int .u64 (r_14), .int .u64 (r_15)]) :: (fun _ v => v = .agg #[.int .u64 (r_6), .int .u64 (r_7), .int .u64 (r_8), .int .u64 (r_9), .int .u64 (r_10)]) :: (fun ww vv => ElV ((numL (padTo 32 xa)) * (numL (padTo 32 xb))) vv) :: (fun _ v => v = .agg (iws .u64 (dg (numL (padTo 32 xa)))).toArray) :: (fun _ v => v = .agg (iws .u64 (dg (numL (padTo 32 xb)))).toArray) :: (fun ww vv => vv = .agg (iws .u64 (dg ((numL (padTo 32 xa)) * (numL (padTo 32 xb))))).toArray) :: (fun ww vv => vv = .bool (true)) :: (fun _ v => v = .bool (true)) :: (fun _ v => v = .bool (true)) :: (fun _ v => v = .agg #[.int .u64 (r_11), .int .u64 (r_12), .int .u64 (r_13), .int .u64 (r_14), .int .u64 (r_15)]) :: (fun ww vv => ElV (finv (numL (padTo 32 xa))) vv) :: (fun _ v => v = .agg (iws .u64 (dg (numL (padTo 32 xa)))).toArray) :: (fun ww vv => vv = .agg (iws .u64 (dg (finv (numL (padTo 32 xa))))).toArray) :: (fun ww vv => vv = .bool (true)) :: (fun _ v => v = .bool (true)) :: (fun _ v => v = .bool (true)) :: (fun _ v => v = .agg #[.int .u64 (r_11), .int .u64 (r_12), .int .u64 (r_13), .int .u64 (r_14), .int .u64 (r_15)]) :: (fun _ v => v = .agg #[.int .u64 (r_6), .int .u64 (r_7), .int .u64 (r_8), .int .u64 (r_9), .int .u64 (r_10)]) :: (fun ww vv => vv = .bool (decide (numL (padTo 32 xa) = numL (padTo 32 xb)))) :: (fun _ v => v = .agg (iws .u64 (dg (numL (padTo 32 xa)))).toArray) :: (fun ww vv => OwnN w_27.heap.size (32) (nbL (numL (padTo 32 xa))) ww vv) :: (fun _ v => v = .string (strB (nbL (numL (padTo 32 xa))))) :: (fun _ v => v = .agg (iws .u64 (dg (numL (padTo 32 xb)))).toArray) :: (fun ww vv => OwnN w_27.heap.size (32) (nbL (numL (padTo 32 xb))) ww vv) :: (fun _ v => v = .string (strB (nbL (numL (padTo 32 xb))))) :: (fun _ v => v = .bool (decide (strB (nbL (numL (padTo 32 xa))) = strB (nbL (numL (padTo 32 xb)))))) :: (fun _ v => v = .bool (true)) :: (fun _ v => v = .bool (true)) :: (fun _ v => v = .bool (true)) :: (fun _ v => v = .agg #[.int .u64 (0), .int .u64 (0), .int .u64 (0), .int .u64 (0), .int .u64 (0)]) :: (fun ww vv => vv = .agg (iws .u64 (dg (0 : F))).toArray) :: []) [80, 81, 82, 83, 84, 85, 86, 87, 88, 89, 90, 91, 92, 93, 94, 95, 96, 97, 98, 99, 100, 101, 102, 103, 104, 105, 106, 107, 108, 109, 110, 111, 112, 113, 114, 115, 116, 117, 118, 119, 120, 121, 122, 123, 124, 125, 126, 127] hs hd (by kernel_rfl) (by kernel_rfl) (by kernel_rfl) (by kernel_rfl) (by kernel_rfl) ⟨stLit, stLit, stEl, stLit, stLit, stLit, stLit, stLit, stLit, stLit, stEl, stLit, stLit, stLit, stLit, stLit, stLit, stLit, stLit, stEl, stLit, stLit, stLit, stLit, stLit, stLit, stLit, stEl, stLit, stLit, stLit, stLit, stLit, stLit, stLit, stLit, stLit, stOwn, stLit, stLit, stOwn, stLit, stLit, stLit, stLit, stLit, stLit, stLit, trivial⟩ ⟨(step_ok rfl (fun a' w' hb' hO hD => by
   have d_1 : a'.eval (.tmp 15) = .pointer (some ⟨g_5, 0, none⟩) := (hO 15 (by decide)).trans (pe hs rfl rfl)
   exact .inl ⟨_, _, (o_loadS (vs := [.int .u64 (r_11), .int .u64 (r_12), .int .u64 (r_13), .int .u64 (r_14), .int .u64 (r_15)]) rfl d_1 (hB_10.nx hb') ⟨by kernel_rfl, by kernel_rfl⟩), rfl, Below.refl _ _⟩)),
(step_ok rfl (fun a' w' hb' hO hD => by
   have d_2 : a'.eval (.tmp 11) = .pointer (some ⟨g_3, 0, none⟩) := (hO 11 (by decide)).trans (pe hs rfl rfl)
   exact .inl ⟨_, _, (o_loadS (vs := [.int .u64 (r_6), .int .u64 (r_7), .int .u64 (r_8), .int .u64 (r_9), .int .u64 (r_10)]) rfl d_2 (hB_6.nx hb') ⟨by kernel_rfl, by kernel_rfl⟩), rfl, Below.refl _ _⟩)),
(step_ok rfl (fun a' w' hb' hO hD => by
   have d_3 : a'.eval (.tmp 80) = .agg #[.int .u64 (r_11), .int .u64 (r_12), .int .u64 (r_13), .int .u64 (r_14), .int .u64 (r_15)] := hD 0 80 (by kernel_rfl) rfl
   have d_4 : a'.eval (.tmp 81) = .agg #[.int .u64 (r_6), .int .u64 (r_7), .int .u64 (r_8), .int .u64 (r_9), .int .u64 (r_10)] := hD 1 81 (by kernel_rfl) rfl
   exact .inr ⟨_, #[.agg #[.int .u64 (r_11), .int .u64 (r_12), .int .u64 (r_13), .int .u64 (r_14), .int .u64 (r_15)], .agg #[.int .u64 (r_6), .int .u64 (r_7), .int .u64 (r_8), .int .u64 (r_9), .int .u64 (r_10)]], (exec_call Try.func12 (by kernel_rfl) (by kernel_rfl) _ rfl _ _ (args2 d_3 d_4)), Calls.mono (Add_any hE_3 hE_2 _) (fun e w'' hR => by obtain ⟨r0, r1, r2, r3, r4, rfl, hE9, hb9⟩ := hR; exact ⟨_, rfl, ⟨r0, r1, r2, r3, r4, rfl, hE9⟩, hb9⟩)⟩)),
(step_ok rfl (fun a' w' hb' hO hD => by
   have d_5 : a'.eval (.tmp 17) = .pointer (some ⟨g_6, 0, none⟩) := (hO 17 (by decide)).trans (pe hs rfl rfl)
   exact .inl ⟨_, _, (o_loadI rfl d_5 (hB_12.nx hb') (by rw [(dg_length _)]; exact ⟨by kernel_rfl, by kernel_rfl⟩)), rfl, Below.refl _ _⟩)),
(step_ok rfl (fun a' w' hb' hO hD => by
   have d_6 : a'.eval (.tmp 13) = .pointer (some ⟨g_4, 0, none⟩) := (hO 13 (by decide)).trans (pe hs rfl rfl)
   exact .inl ⟨_, _, (o_loadI rfl d_6 (hB_8.nx hb') (by rw [(dg_length _)]; exact ⟨by kernel_rfl, by kernel_rfl⟩)), rfl, Below.refl _ _⟩)),
(step_ok rfl (fun a' w' hb' hO hD => by
   have d_7 : a'.eval (.tmp 83) = .agg (iws .u64 (dg (numL (padTo 32 xa)))).toArray := hD 3 83 (by kernel_rfl) rfl
   have d_8 : a'.eval (.tmp 84) = .agg (iws .u64 (dg (numL (padTo 32 xb)))).toArray := hD 4 84 (by kernel_rfl) rfl
   exact .inr ⟨_, #[.agg (iws .u64 (dg (numL (padTo 32 xa)))).toArray, .agg (iws .u64 (dg (numL (padTo 32 xb)))).toArray], (exec_call Try.func13 (by kernel_rfl) (by kernel_rfl) _ rfl _ _ (args2 d_7 d_8)), Calls.mono (AddNum_any _) (fun e w'' hR => by obtain ⟨rfl, hb_29⟩ := hR; exact ⟨_, rfl, rfl, hb_29⟩)⟩)),
(step_ok rfl (fun a' w' hb' hO hD => by
   have d_9 := hD 2 82 (by kernel_rfl) rfl
   obtain ⟨r_16, r_17, r_18, r_19, r_20, hv_1, hE_4⟩ := d_9
   have d_10 : a'.eval (.tmp 85) = .agg (iws .u64 (dg ((numL (padTo 32 xa)) + (numL (padTo 32 xb))))).toArray := hD 5 85 (by kernel_rfl) rfl
   exact .inr ⟨_, #[.agg #[.int .u64 (r_16), .int .u64 (r_17), .int .u64 (r_18), .int .u64 (r_19), .int .u64 (r_20)], .agg (iws .u64 (dg ((numL (padTo 32 xa)) + (numL (padTo 32 xb))))).toArray], (exec_call Try.func8 (by kernel_rfl) (by kernel_rfl) _ rfl _ _ (args2 hv_1 d_10)), Calls.mono (same5_any _ hE_4) (fun e w'' hR => by obtain ⟨rfl, hb_30⟩ := hR; exact ⟨_, rfl, rfl, hb_30⟩)⟩)),
(step_ok rfl (fun a' w' hb' hO hD => by
   have d_11 : a'.eval (.tmp 86) = .bool (true) := hD 6 86 (by kernel_rfl) rfl
   exact .inl ⟨_, _, (o_move rfl d_11), rfl, Below.refl _ _⟩)),
(step_yes 7 true 87 rfl rfl (by kernel_rfl) (fun _ _ h => h) (fun a' w' hb' hO hD => by
   have d_12 : a'.eval (.tmp 15) = .pointer (some ⟨g_5, 0, none⟩) := (hO 15 (by decide)).trans (pe hs rfl rfl)
   exact .inl ⟨_, _, (o_loadS (vs := [.int .u64 (r_11), .int .u64 (r_12), .int .u64 (r_13), .int .u64 (r_14), .int .u64 (r_15)]) rfl d_12 (hB_10.nx hb') ⟨by kernel_rfl, by kernel_rfl⟩), rfl, Below.refl _ _⟩)),
(step_yes 7 true 87 rfl rfl (by kernel_rfl) (fun _ _ h => h) (fun a' w' hb' hO hD => by
   have d_13 : a'.eval (.tmp 11) = .pointer (some ⟨g_3, 0, none⟩) := (hO 11 (by decide)).trans (pe hs rfl rfl)
   exact .inl ⟨_, _, (o_loadS (vs := [.int .u64 (r_6), .int .u64 (r_7), .int .u64 (r_8), .int .u64 (r_9), .int .u64 (r_10)]) rfl d_13 (hB_6.nx hb') ⟨by kernel_rfl, by kernel_rfl⟩), rfl, Below.refl _ _⟩)),
(step_yes 7 true 87 rfl rfl (by kernel_rfl) (fun _ _ h => h) (fun a' w' hb' hO hD => by
   have d_14 : a'.eval (.tmp 88) = .agg #[.int .u64 (r_11), .int .u64 (r_12), .int .u64 (r_13), .int .u64 (r_14), .int .u64 (r_15)] := hD 8 88 (by kernel_rfl) rfl
   have d_15 : a'.eval (.tmp 89) = .agg #[.int .u64 (r_6), .int .u64 (r_7), .int .u64 (r_8), .int .u64 (r_9), .int .u64 (r_10)] := hD 9 89 (by kernel_rfl) rfl
   exact .inr ⟨_, #[.agg #[.int .u64 (r_11), .int .u64 (r_12), .int .u64 (r_13), .int .u64 (r_14), .int .u64 (r_15)], .agg #[.int .u64 (r_6), .int .u64 (r_7), .int .u64 (r_8), .int .u64 (r_9), .int .u64 (r_10)]], (exec_call Try.func14 (by kernel_rfl) (by kernel_rfl) _ rfl _ _ (args2 d_14 d_15)), Calls.mono (Sub_any hE_3 hE_2 _) (fun e w'' hR => by obtain ⟨r0, r1, r2, r3, r4, rfl, hE9, hb9⟩ := hR; exact ⟨_, rfl, ⟨r0, r1, r2, r3, r4, rfl, hE9⟩, hb9⟩)⟩)),
(step_yes 7 true 87 rfl rfl (by kernel_rfl) (fun _ _ h => h) (fun a' w' hb' hO hD => by
   have d_16 : a'.eval (.tmp 17) = .pointer (some ⟨g_6, 0, none⟩) := (hO 17 (by decide)).trans (pe hs rfl rfl)
   exact .inl ⟨_, _, (o_loadI rfl d_16 (hB_12.nx hb') (by rw [(dg_length _)]; exact ⟨by kernel_rfl, by kernel_rfl⟩)), rfl, Below.refl _ _⟩)),
(step_yes 7 true 87 rfl rfl (by kernel_rfl) (fun _ _ h => h) (fun a' w' hb' hO hD => by
   have d_17 : a'.eval (.tmp 13) = .pointer (some ⟨g_4, 0, none⟩) := (hO 13 (by decide)).trans (pe hs rfl rfl)
   exact .inl ⟨_, _, (o_loadI rfl d_17 (hB_8.nx hb') (by rw [(dg_length _)]; exact ⟨by kernel_rfl, by kernel_rfl⟩)), rfl, Below.refl _ _⟩)),
(step_yes 7 true 87 rfl rfl (by kernel_rfl) (fun _ _ h => h) (fun a' w' hb' hO hD => by
   have d_18 : a'.eval (.tmp 91) = .agg (iws .u64 (dg (numL (padTo 32 xa)))).toArray := hD 11 91 (by kernel_rfl) rfl
   have d_19 : a'.eval (.tmp 92) = .agg (iws .u64 (dg (numL (padTo 32 xb)))).toArray := hD 12 92 (by kernel_rfl) rfl
   exact .inr ⟨_, #[.agg (iws .u64 (dg (numL (padTo 32 xa)))).toArray, .agg (iws .u64 (dg (numL (padTo 32 xb)))).toArray], (exec_call Try.func15 (by kernel_rfl) (by kernel_rfl) _ rfl _ _ (args2 d_18 d_19)), Calls.mono (SubNum_any _) (fun e w'' hR => by obtain ⟨rfl, hb_31⟩ := hR; exact ⟨_, rfl, rfl, hb_31⟩)⟩)),
(step_yes 7 true 87 rfl rfl (by kernel_rfl) (fun _ _ h => h) (fun a' w' hb' hO hD => by
   have d_20 := hD 10 90 (by kernel_rfl) rfl
   obtain ⟨r_21, r_22, r_23, r_24, r_25, hv_2, hE_5⟩ := d_20
   have d_21 : a'.eval (.tmp 93) = .agg (iws .u64 (dg ((numL (padTo 32 xa)) - (numL (padTo 32 xb))))).toArray := hD 13 93 (by kernel_rfl) rfl
   exact .inr ⟨_, #[.agg #[.int .u64 (r_21), .int .u64 (r_22), .int .u64 (r_23), .int .u64 (r_24), .int .u64 (r_25)], .agg (iws .u64 (dg ((numL (padTo 32 xa)) - (numL (padTo 32 xb))))).toArray], (exec_call Try.func8 (by kernel_rfl) (by kernel_rfl) _ rfl _ _ (args2 hv_2 d_21)), Calls.mono (same5_any _ hE_5) (fun e w'' hR => by obtain ⟨rfl, hb_32⟩ := hR; exact ⟨_, rfl, rfl, hb_32⟩)⟩)),
(step_ok rfl (fun a' w' hb' hO hD => by
   have d_22 : a'.eval (.tmp 87) = .bool (true) := hD 7 87 (by kernel_rfl) rfl
   have d_23 : a'.eval (.tmp 94) = .bool (true) := hD 14 94 (by kernel_rfl) rfl
   exact .inl ⟨_, _, (o_pickT rfl d_22 d_23), rfl, Below.refl _ _⟩)),
(step_ok rfl (fun a' w' hb' hO hD => by
   have d_24 : a'.eval (.tmp 95) = .bool (true) := hD 15 95 (by kernel_rfl) rfl
   exact .inl ⟨_, _, (o_move rfl d_24), rfl, Below.refl _ _⟩)),
(step_yes 16 true 96 rfl rfl (by kernel_rfl) (fun _ _ h => h) (fun a' w' hb' hO hD => by
   have d_25 : a'.eval (.tmp 15) = .pointer (some ⟨g_5, 0, none⟩) := (hO 15 (by decide)).trans (pe hs rfl rfl)
   exact .inl ⟨_, _, (o_loadS (vs := [.int .u64 (r_11), .int .u64 (r_12), .int .u64 (r_13), .int .u64 (r_14), .int .u64 (r_15)]) rfl d_25 (hB_10.nx hb') ⟨by kernel_rfl, by kernel_rfl⟩), rfl, Below.refl _ _⟩)),
(step_yes 16 true 96 rfl rfl (by kernel_rfl) (fun _ _ h => h) (fun a' w' hb' hO hD => by
   have d_26 : a'.eval (.tmp 11) = .pointer (some ⟨g_3, 0, none⟩) := (hO 11 (by decide)).trans (pe hs rfl rfl)
   exact .inl ⟨_, _, (o_loadS (vs := [.int .u64 (r_6), .int .u64 (r_7), .int .u64 (r_8), .int .u64 (r_9), .int .u64 (r_10)]) rfl d_26 (hB_6.nx hb') ⟨by kernel_rfl, by kernel_rfl⟩), rfl, Below.refl _ _⟩)),
(step_yes 16 true 96 rfl rfl (by kernel_rfl) (fun _ _ h => h) (fun a' w' hb' hO hD => by
   have d_27 : a'.eval (.tmp 97) = .agg #[.int .u64 (r_11), .int .u64 (r_12), .int .u64 (r_13), .int .u64 (r_14), .int .u64 (r_15)] := hD 17 97 (by kernel_rfl) rfl
   have d_28 : a'.eval (.tmp 98) = .agg #[.int .u64 (r_6), .int .u64 (r_7), .int .u64 (r_8), .int .u64 (r_9), .int .u64 (r_10)] := hD 18 98 (by kernel_rfl) rfl
   exact .inr ⟨_, #[.agg #[.int .u64 (r_11), .int .u64 (r_12), .int .u64 (r_13), .int .u64 (r_14), .int .u64 (r_15)], .agg #[.int .u64 (r_6), .int .u64 (r_7), .int .u64 (r_8), .int .u64 (r_9), .int .u64 (r_10)]], (exec_call Try.func16 (by kernel_rfl) (by kernel_rfl) _ rfl _ _ (args2 d_27 d_28)), Calls.mono (Mul_any hE_3 hE_2 _) (fun e w'' hR => by obtain ⟨r0, r1, r2, r3, r4, rfl, hE9, hb9⟩ := hR; exact ⟨_, rfl, ⟨r0, r1, r2, r3, r4, rfl, hE9⟩, hb9⟩)⟩)),
(step_yes 16 true 96 rfl rfl (by kernel_rfl) (fun _ _ h => h) (fun a' w' hb' hO hD => by
   have d_29 : a'.eval (.tmp 17) = .pointer (some ⟨g_6, 0, none⟩) := (hO 17 (by decide)).trans (pe hs rfl rfl)
   exact .inl ⟨_, _, (o_loadI rfl d_29 (hB_12.nx hb') (by rw [(dg_length _)]; exact ⟨by kernel_rfl, by kernel_rfl⟩)), rfl, Below.refl _ _⟩)),
(step_yes 16 true 96 rfl rfl (by kernel_rfl) (fun _ _ h => h) (fun a' w' hb' hO hD => by
   have d_30 : a'.eval (.tmp 13) = .pointer (some ⟨g_4, 0, none⟩) := (hO 13 (by decide)).trans (pe hs rfl rfl)
   exact .inl ⟨_, _, (o_loadI rfl d_30 (hB_8.nx hb') (by rw [(dg_length _)]; exact ⟨by kernel_rfl, by kernel_rfl⟩)), rfl, Below.refl _ _⟩)),
(step_yes 16 true 96 rfl rfl (by kernel_rfl) (fun _ _ h => h) (fun a' w' hb' hO hD => by
   have d_31 : a'.eval (.tmp 100) = .agg (iws .u64 (dg (numL (padTo 32 xa)))).toArray := hD 20 100 (by kernel_rfl) rfl
   have d_32 : a'.eval (.tmp 101) = .agg (iws .u64 (dg (numL (padTo 32 xb)))).toArray := hD 21 101 (by kernel_rfl) rfl
   exact .inr ⟨_, #[.agg (iws .u64 (dg (numL (padTo 32 xa)))).toArray, .agg (iws .u64 (dg (numL (padTo 32 xb)))).toArray], (exec_call Try.func17 (by kernel_rfl) (by kernel_rfl) _ rfl _ _ (args2 d_31 d_32)), Calls.mono (MulNum_any _) (fun e w'' hR => by obtain ⟨rfl, hb_33⟩ := hR; exact ⟨_, rfl, rfl, hb_33⟩)⟩)),
(step_yes 16 true 96 rfl rfl (by kernel_rfl) (fun _ _ h => h) (fun a' w' hb' hO hD => by
   have d_33 := hD 19 99 (by kernel_rfl) rfl
   obtain ⟨r_26, r_27, r_28, r_29, r_30, hv_3, hE_6⟩ := d_33
   have d_34 : a'.eval (.tmp 102) = .agg (iws .u64 (dg ((numL (padTo 32 xa)) * (numL (padTo 32 xb))))).toArray := hD 22 102 (by kernel_rfl) rfl
   exact .inr ⟨_, #[.agg #[.int .u64 (r_26), .int .u64 (r_27), .int .u64 (r_28), .int .u64 (r_29), .int .u64 (r_30)], .agg (iws .u64 (dg ((numL (padTo 32 xa)) * (numL (padTo 32 xb))))).toArray], (exec_call Try.func8 (by kernel_rfl) (by kernel_rfl) _ rfl _ _ (args2 hv_3 d_34)), Calls.mono (same5_any _ hE_6) (fun e w'' hR => by obtain ⟨rfl, hb_34⟩ := hR; exact ⟨_, rfl, rfl, hb_34⟩)⟩)),
(step_ok rfl (fun a' w' hb' hO hD => by
   have d_35 : a'.eval (.tmp 96) = .bool (true) := hD 16 96 (by kernel_rfl) rfl
   have d_36 : a'.eval (.tmp 103) = .bool (true) := hD 23 103 (by kernel_rfl) rfl
   exact .inl ⟨_, _, (o_pickT rfl d_35 d_36), rfl, Below.refl _ _⟩)),
(step_ok rfl (fun a' w' hb' hO hD => by
   have d_37 : a'.eval (.tmp 104) = .bool (true) := hD 24 104 (by kernel_rfl) rfl
   exact .inl ⟨_, _, (o_move rfl d_37), rfl, Below.refl _ _⟩)),
(step_yes 25 true 105 rfl rfl (by kernel_rfl) (fun _ _ h => h) (fun a' w' hb' hO hD => by
   have d_38 : a'.eval (.tmp 15) = .pointer (some ⟨g_5, 0, none⟩) := (hO 15 (by decide)).trans (pe hs rfl rfl)
   exact .inl ⟨_, _, (o_loadS (vs := [.int .u64 (r_11), .int .u64 (r_12), .int .u64 (r_13), .int .u64 (r_14), .int .u64 (r_15)]) rfl d_38 (hB_10.nx hb') ⟨by kernel_rfl, by kernel_rfl⟩), rfl, Below.refl _ _⟩)),
(step_yes 25 true 105 rfl rfl (by kernel_rfl) (fun _ _ h => h) (fun a' w' hb' hO hD => by
   have d_39 : a'.eval (.tmp 106) = .agg #[.int .u64 (r_11), .int .u64 (r_12), .int .u64 (r_13), .int .u64 (r_14), .int .u64 (r_15)] := hD 26 106 (by kernel_rfl) rfl
   exact .inr ⟨_, #[.agg #[.int .u64 (r_11), .int .u64 (r_12), .int .u64 (r_13), .int .u64 (r_14), .int .u64 (r_15)]], (exec_call Try.func18 (by kernel_rfl) (by kernel_rfl) _ rfl _ _ (args1 d_39)), Calls.mono (Inv_any hE_3 _) (fun e w'' hR => by obtain ⟨r0, r1, r2, r3, r4, rfl, hE9, hb9⟩ := hR; exact ⟨_, rfl, ⟨r0, r1, r2, r3, r4, rfl, hE9⟩, hb9⟩)⟩)),
(step_yes 25 true 105 rfl rfl (by kernel_rfl) (fun _ _ h => h) (fun a' w' hb' hO hD => by
   have d_40 : a'.eval (.tmp 17) = .pointer (some ⟨g_6, 0, none⟩) := (hO 17 (by decide)).trans (pe hs rfl rfl)
   exact .inl ⟨_, _, (o_loadI rfl d_40 (hB_12.nx hb') (by rw [(dg_length _)]; exact ⟨by kernel_rfl, by kernel_rfl⟩)), rfl, Below.refl _ _⟩)),
(step_yes 25 true 105 rfl rfl (by kernel_rfl) (fun _ _ h => h) (fun a' w' hb' hO hD => by
   have d_41 : a'.eval (.tmp 108) = .agg (iws .u64 (dg (numL (padTo 32 xa)))).toArray := hD 28 108 (by kernel_rfl) rfl
   exact .inr ⟨_, #[.agg (iws .u64 (dg (numL (padTo 32 xa)))).toArray], (exec_call Try.func19 (by kernel_rfl) (by kernel_rfl) _ rfl _ _ (args1 d_41)), Calls.mono (InvNum_any _) (fun e w'' hR => by obtain ⟨rfl, hb_35⟩ := hR; exact ⟨_, rfl, rfl, hb_35⟩)⟩)),
(step_yes 25 true 105 rfl rfl (by kernel_rfl) (fun _ _ h => h) (fun a' w' hb' hO hD => by
   have d_42 := hD 27 107 (by kernel_rfl) rfl
   obtain ⟨r_31, r_32, r_33, r_34, r_35, hv_4, hE_7⟩ := d_42
   have d_43 : a'.eval (.tmp 109) = .agg (iws .u64 (dg (finv (numL (padTo 32 xa))))).toArray := hD 29 109 (by kernel_rfl) rfl
   exact .inr ⟨_, #[.agg #[.int .u64 (r_31), .int .u64 (r_32), .int .u64 (r_33), .int .u64 (r_34), .int .u64 (r_35)], .agg (iws .u64 (dg (finv (numL (padTo 32 xa))))).toArray], (exec_call Try.func8 (by kernel_rfl) (by kernel_rfl) _ rfl _ _ (args2 hv_4 d_43)), Calls.mono (same5_any _ hE_7) (fun e w'' hR => by obtain ⟨rfl, hb_36⟩ := hR; exact ⟨_, rfl, rfl, hb_36⟩)⟩)),
(step_ok rfl (fun a' w' hb' hO hD => by
   have d_44 : a'.eval (.tmp 105) = .bool (true) := hD 25 105 (by kernel_rfl) rfl
   have d_45 : a'.eval (.tmp 110) = .bool (true) := hD 30 110 (by kernel_rfl) rfl
   exact .inl ⟨_, _, (o_pickT rfl d_44 d_45), rfl, Below.refl _ _⟩)),
(step_ok rfl (fun a' w' hb' hO hD => by
   have d_46 : a'.eval (.tmp 111) = .bool (true) := hD 31 111 (by kernel_rfl) rfl
   exact .inl ⟨_, _, (o_move rfl d_46), rfl, Below.refl _ _⟩)),
(step_yes 32 true 112 rfl rfl (by kernel_rfl) (fun _ _ h => h) (fun a' w' hb' hO hD => by
   have d_47 : a'.eval (.tmp 15) = .pointer (some ⟨g_5, 0, none⟩) := (hO 15 (by decide)).trans (pe hs rfl rfl)
   exact .inl ⟨_, _, (o_loadS (vs := [.int .u64 (r_11), .int .u64 (r_12), .int .u64 (r_13), .int .u64 (r_14), .int .u64 (r_15)]) rfl d_47 (hB_10.nx hb') ⟨by kernel_rfl, by kernel_rfl⟩), rfl, Below.refl _ _⟩)),
(step_yes 32 true 112 rfl rfl (by kernel_rfl) (fun _ _ h => h) (fun a' w' hb' hO hD => by
   have d_48 : a'.eval (.tmp 11) = .pointer (some ⟨g_3, 0, none⟩) := (hO 11 (by decide)).trans (pe hs rfl rfl)
   exact .inl ⟨_, _, (o_loadS (vs := [.int .u64 (r_6), .int .u64 (r_7), .int .u64 (r_8), .int .u64 (r_9), .int .u64 (r_10)]) rfl d_48 (hB_6.nx hb') ⟨by kernel_rfl, by kernel_rfl⟩), rfl, Below.refl _ _⟩)),
(step_yes 32 true 112 rfl rfl (by kernel_rfl) (fun _ _ h => h) (fun a' w' hb' hO hD => by
   have d_49 : a'.eval (.tmp 113) = .agg #[.int .u64 (r_11), .int .u64 (r_12), .int .u64 (r_13), .int .u64 (r_14), .int .u64 (r_15)] := hD 33 113 (by kernel_rfl) rfl
   have d_50 : a'.eval (.tmp 114) = .agg #[.int .u64 (r_6), .int .u64 (r_7), .int .u64 (r_8), .int .u64 (r_9), .int .u64 (r_10)] := hD 34 114 (by kernel_rfl) rfl
   exact .inr ⟨_, #[.agg #[.int .u64 (r_11), .int .u64 (r_12), .int .u64 (r_13), .int .u64 (r_14), .int .u64 (r_15)], .agg #[.int .u64 (r_6), .int .u64 (r_7), .int .u64 (r_8), .int .u64 (r_9), .int .u64 (r_10)]], (exec_call Try.func20 (by kernel_rfl) (by kernel_rfl) _ rfl _ _ (args2 d_49 d_50)), Calls.mono (Same_any hE_3 hE_2 _) (fun e w'' hR => by obtain ⟨rfl, hb_37⟩ := hR; exact ⟨_, rfl, rfl, hb_37⟩)⟩)),
(step_yes 32 true 112 rfl rfl (by kernel_rfl) (fun _ _ h => h) (fun a' w' hb' hO hD => by
   have d_51 : a'.eval (.tmp 17) = .pointer (some ⟨g_6, 0, none⟩) := (hO 17 (by decide)).trans (pe hs rfl rfl)
   exact .inl ⟨_, _, (o_loadI rfl d_51 (hB_12.nx hb') (by rw [(dg_length _)]; exact ⟨by kernel_rfl, by kernel_rfl⟩)), rfl, Below.refl _ _⟩)),
(step_yes 32 true 112 rfl rfl (by kernel_rfl) (fun _ _ h => h) (fun a' w' hb' hO hD => by
   have d_52 : a'.eval (.tmp 116) = .agg (iws .u64 (dg (numL (padTo 32 xa)))).toArray := hD 36 116 (by kernel_rfl) rfl
   exact .inr ⟨_, #[.agg (iws .u64 (dg (numL (padTo 32 xa)))).toArray], (exec_call Try.func21 (by kernel_rfl) (by kernel_rfl) _ rfl _ _ (args1 d_52)), Calls.mono (NumBytesR_any _) (fun e w'' hR => by obtain ⟨A_5, c_5, rfl, ho_5, hb_38⟩ := hR; exact ⟨_, rfl, ⟨_, _, rfl, ho_5.mono hb'.size⟩, hb_38⟩)⟩)),
(step_yes 32 true 112 rfl rfl (by kernel_rfl) (fun _ _ h => h) (fun a' w' hb' hO hD => by
   have d_53 := hD 37 117 (by kernel_rfl) rfl
   obtain ⟨A_6, c_6, hv_5, hO_1⟩ := d_53
   exact .inl ⟨_, _, (o_str rfl hv_5 (hO_1).bs (nbL_length _)), rfl, Below.refl _ _⟩)),
(step_yes 32 true 112 rfl rfl (by kernel_rfl) (fun _ _ h => h) (fun a' w' hb' hO hD => by
   have d_54 : a'.eval (.tmp 13) = .pointer (some ⟨g_4, 0, none⟩) := (hO 13 (by decide)).trans (pe hs rfl rfl)
   exact .inl ⟨_, _, (o_loadI rfl d_54 (hB_8.nx hb') (by rw [(dg_length _)]; exact ⟨by kernel_rfl, by kernel_rfl⟩)), rfl, Below.refl _ _⟩)),
(step_yes 32 true 112 rfl rfl (by kernel_rfl) (fun _ _ h => h) (fun a' w' hb' hO hD => by
   have d_55 : a'.eval (.tmp 119) = .agg (iws .u64 (dg (numL (padTo 32 xb)))).toArray := hD 39 119 (by kernel_rfl) rfl
   exact .inr ⟨_, #[.agg (iws .u64 (dg (numL (padTo 32 xb)))).toArray], (exec_call Try.func21 (by kernel_rfl) (by kernel_rfl) _ rfl _ _ (args1 d_55)), Calls.mono (NumBytesR_any _) (fun e w'' hR => by obtain ⟨A_7, c_7, rfl, ho_6, hb_39⟩ := hR; exact ⟨_, rfl, ⟨_, _, rfl, ho_6.mono hb'.size⟩, hb_39⟩)⟩)),
(step_yes 32 true 112 rfl rfl (by kernel_rfl) (fun _ _ h => h) (fun a' w' hb' hO hD => by
   have d_56 := hD 40 120 (by kernel_rfl) rfl
   obtain ⟨A_8, c_8, hv_6, hO_2⟩ := d_56
   exact .inl ⟨_, _, (o_str rfl hv_6 (hO_2).bs (nbL_length _)), rfl, Below.refl _ _⟩)),
(step_yes 32 true 112 rfl rfl (by kernel_rfl) (fun _ _ h => h) (fun a' w' hb' hO hD => by
   have d_57 : a'.eval (.tmp 118) = .string (strB (nbL (numL (padTo 32 xa)))) := hD 38 118 (by kernel_rfl) rfl
   have d_58 : a'.eval (.tmp 121) = .string (strB (nbL (numL (padTo 32 xb)))) := hD 41 121 (by kernel_rfl) rfl
   exact .inl ⟨_, _, (o_eqSD rfl d_57 d_58), rfl, Below.refl _ _⟩)),
(step_yes 32 true 112 rfl rfl (by kernel_rfl) (fun _ _ h => h) (fun a' w' hb' hO hD => by
   have d_59 : a'.eval (.tmp 115) = .bool (decide (numL (padTo 32 xa) = numL (padTo 32 xb))) := hD 35 115 (by kernel_rfl) rfl
   have d_60 : a'.eval (.tmp 122) = .bool (decide (strB (nbL (numL (padTo 32 xa))) = strB (nbL (numL (padTo 32 xb))))) := hD 42 122 (by kernel_rfl) rfl
   have e0 : (.bool ( (decide (numL (padTo 32 xa) = numL (padTo 32 xb)) == decide (strB (nbL (numL (padTo 32 xa))) = strB (nbL (numL (padTo 32 xb)))))) : Value) = .bool (true) := (congrArg Value.bool (same_nb _ _))
   exact .inl ⟨_, _, (o_eqB rfl d_59 d_60 (fun _ => by kernel_rfl)), e0, Below.refl _ _⟩)),
(step_ok rfl (fun a' w' hb' hO hD => by
   have d_61 : a'.eval (.tmp 112) = .bool (true) := hD 32 112 (by kernel_rfl) rfl
   have d_62 : a'.eval (.tmp 123) = .bool (true) := hD 43 123 (by kernel_rfl) rfl
   exact .inl ⟨_, _, (o_pickT rfl d_61 d_62), rfl, Below.refl _ _⟩)),
(step_ok rfl (fun a' w' hb' hO hD => by
   have d_63 : a'.eval (.tmp 124) = .bool (true) := hD 44 124 (by kernel_rfl) rfl
   exact .inl ⟨_, _, (o_move rfl d_63), rfl, Below.refl _ _⟩)),
(step_yes 45 true 125 rfl rfl (by kernel_rfl) (fun _ _ h => h) (fun a' w' hb' hO hD => by
   have d_64 : a'.eval (.tmp 19) = .pointer (some ⟨g_7, 0, none⟩) := (hO 19 (by decide)).trans (pe hs rfl rfl)
   exact .inl ⟨_, _, (o_loadS (vs := [.int .u64 (0), .int .u64 (0), .int .u64 (0), .int .u64 (0), .int .u64 (0)]) rfl d_64 (hB_13.nx hb') ⟨by kernel_rfl, by kernel_rfl⟩), rfl, Below.refl _ _⟩)),
(step_yes 45 true 125 rfl rfl (by kernel_rfl) (fun _ _ h => h) (fun a' w' hb' hO hD => by
   exact .inr ⟨_, #[.int .u64 ((0 : Nat) : Int)], (exec_call Try.func10 (by kernel_rfl) (by kernel_rfl) _ rfl _ _ (args1 rfl)), Calls.mono (NumOf_0 _) (fun e w'' hR => by obtain ⟨rfl, hb_40⟩ := hR; exact ⟨_, rfl, rfl, hb_40⟩)⟩)), trivial⟩ (fun a_1 w_28 hs_1 hd_1 hb_41 hO_3 hV_1 => ?_)
 clear t0 t1 t2 hd
 have HB_27 := below_from HB_26 hb_41
 have x_1 := hV_1 2 82 rfl rfl
 obtain ⟨r_36, r_37, r_38, r_39, r_40, hv_7, hE_8⟩ := x_1
 have x_2 := hV_1 10 90 rfl rfl
 obtain ⟨r_41, r_42, r_43, r_44, r_45, hv_8, hE_9⟩ := x_2
 have x_3 := hV_1 19 99 rfl rfl
 obtain ⟨r_46, r_47, r_48, r_49, r_50, hv_9, hE_10⟩ := x_3
 have x_4 := hV_1 27 107 rfl rfl
 obtain ⟨r_51, r_52, r_53, r_54, r_55, hv_10, hE_11⟩ := x_4
 have x_5 := hV_1 37 117 rfl rfl
 obtain ⟨A_9, c_9, hv_11, hO_4⟩ := x_5
 replace hO_4 := hO_4.mono HB_26.size
 have x_6 := hV_1 40 120 rfl rfl
 obtain ⟨A_10, c_10, hv_12, hO_5⟩ := x_6
 replace hO_5 := hO_5.mono HB_26.size
 have ta_1_125 : a_1.eval (.tmp 125) = .bool (true) := hV_1 45 125 rfl rfl
 have ta_1_126 : a_1.eval (.tmp 126) = .agg #[.int .u64 (0), .int .u64 (0), .int .u64 (0), .int .u64 (0), .int .u64 (0)] := hV_1 46 126 rfl rfl
 have ta_1_127 : a_1.eval (.tmp 127) = .agg (iws .u64 (dg (0 : F))).toArray := hV_1 47 127 rfl rfl
 clear hV_1 hO_3
 simp only [List.drop_succ_cons, List.drop_zero]
 refine op_callG (e := 125) (vs := #[.agg #[.int .u64 (0), .int .u64 (0), .int .u64 (0), .int .u64 (0), .int .u64 (0)], .agg (iws .u64 (dg (0 : F))).toArray]) rfl rfl (by kernel_rfl) ((pm rfl).trans ta_1_125) (exec_call Try.func8 (by kernel_rfl) (by kernel_rfl) _ rfl _ _ (args2 ((pm rfl).trans ta_1_126) ((pm rfl).trans ta_1_127))) (same5_any _ zero_El) (fun e_15 w_29 hR_28 => ?_)
 obtain ⟨rfl, hb_43⟩ := hR_28
 replace hO_4 := hO_4.nx hb_43
 replace hO_5 := hO_5.nx hb_43
 have HB_28 := below_from HB_27 hb_43
 refine ⟨_, rfl, ?_⟩
 refine q_v 129 (.bool (true)) (o_pickT rfl ((pm rfl).trans ta_1_125) (pe hs_1 rfl rfl)) ?_
 refine q_mv (pe hs_1 rfl rfl) ?_
 refine op_callG (e := 130) (vs := #[]) rfl rfl (by kernel_rfl) (pe hs_1 rfl rfl) (exec_call Try.func5 (by kernel_rfl) (by kernel_rfl) _ rfl _ _ (args0)) (awake5_any _) (fun e_16 w_30 hR_29 => ?_)
 obtain ⟨rfl, hb_45⟩ := hR_29
 replace hO_4 := hO_4.nx hb_45
 replace hO_5 := hO_5.nx hb_45
 have HB_29 := below_from HB_28 hb_45
 refine ⟨_, rfl, ?_⟩
 refine q_v 132 (.bool (true)) (o_pickT rfl (pe hs_1 rfl rfl) (pe hs_1 rfl rfl)) ?_
 refine q_at (pe hs_1 rfl rfl) ?_
 refine x_nil (hK_13 _ _ ?_)
 refine w2_ret ?_
 refine ret1 rfl hd_1 (pe hs_1 rfl rfl) ?_
 exact ⟨rfl, HB_29⟩
end Go.Proofs.Ytikjcikedbcfmaa
