/-
 MapZ · Keys0 · OpsZ, IN ONE TEXT.
-/
import Derived.Test.YtodhdajelnfhpaaGreatCiph
import Derived.Test.YtodhdajelnfhpaaGreatRange
import Derived.Laws.IdiomRangeMap
import Derived.Maps.RangeRun
import Derived.Test.YtodhdajelnfhpaaGreatOps3
/-
 EMPTY MAPS; A RANGE OVER A FUNCTION THAT YIELDS NOTHING; A ROW OF ONE STRUCT.
-/
namespace Go.Proofs.YtodhdajelnfhpaaGreat
open Go.RowKit
set_option linter.unusedVariables false
set_option linter.unusedSimpArgs false
set_option maxRecDepth 100000
/-- An empty map lies at g. -/
def MapZ (w : World) (g : Nat) : Prop := ∃ clock, w.heap[g]? = some (.map #[] clock)
theorem MapZ.lt {w : World} {g : Nat} (h : MapZ w g) : g < w.heap.size := by
 obtain ⟨c, h⟩ := h
 exact (Array.getElem?_eq_some_iff.1 h).1
theorem MapZ.nx {w w' : World} {g : Nat} (h : MapZ w g) (hb : Below w.heap.size w w') : MapZ w' g := by
 have hl := h.lt
 obtain ⟨c, h⟩ := h
 exact ⟨c, (hb.block g hl).trans h⟩
theorem MapZ.keepM {w w' : World} {X : Nat → Prop} {g : Nat} (h : MapZ w g) (hb : BelowX X w w') (hn : ¬ X g) : MapZ w' g := by
 have hl := h.lt
 obtain ⟨c, h⟩ := h
 exact ⟨c, (hb.block g hl hn).trans h⟩
theorem MapZ.ne {w : World} {g k : Nat} {cur : Array Value} {T : TypeId} (h : MapZ w g) (hB : Blk w k cur T) : g ≠ k := by
 rintro rfl
 obtain ⟨c, h⟩ := h
 unfold Blk at hB
 rw [h] at hB
 cases hB
theorem MapZ.nc {B : Nat} {W W' : World} {row : Option Nat} {g : Nat} (h : MapZ W g) (hl : g < B) (hg : W.grownBy W' row) (hr : RowNC B W row) : MapZ W' g := by
 have hlt := h.lt
 obtain ⟨c, h⟩ := h
 exact ⟨c, (hg.block g hlt (fun e => absurd (hr g e.symm).1 (Nat.not_le.2 hl))).trans h⟩
theorem belowX_nc {B : Nat} {X : Nat → Prop} {w W W' : World} {row : Option Nat} (h : BelowX X w W) (hg : W.grownBy W' row) (hr : RowNC B W row) (hw : w.heap.size ≤ B) : BelowX X w W' :=
 ⟨hg.os.trans h.os, hg.tape.trans h.tape, hg.output.trans h.output, Nat.le_trans h.size hg.size, fun k hk hx => (hg.block k (Nat.lt_of_lt_of_le hk h.size) (fun e => absurd (hr k e.symm).1 (Nat.not_le.2 (Nat.lt_of_lt_of_le hk hw)))).trans (h.block k hk hx)⟩
/-- A walk over the map at g has begun at r. -/
def IterZ (w : World) (r g : Nat) : Prop := ∃ c, w.heap[r]? = some (.mapIter (some g) c #[] c)
theorem IterZ.nx {w w' : World} {r g : Nat} (h : IterZ w r g) (hb : Below w.heap.size w w') : IterZ w' r g := by
 obtain ⟨c, h⟩ := h
 exact ⟨c, (hb.block r (Array.getElem?_eq_some_iff.1 h).1).trans h⟩
section
variable {o : Oper} {ev : Operand → Value} {w : World} {x y z : Operand} {T U t : TypeId} {g k : Nat}
theorem o_makeMap (ho : o.op = .makeMap T none) : ∃ u w', (execOp ev o).run Tryz.prog w = .ok (.value u) w' ∧ ∃ g, u = .map (some g) ∧ w.heap.size ≤ g ∧ MapZ w' g ∧ Below w.heap.size w w' := by
 refine ⟨_, w.alloc (.map #[] 0), ?_, w.heap.size, rfl, Nat.le_refl _, ⟨0, heap_alloc_new w _⟩, (Below.refl _ _).alloc (Nat.le_refl _) _⟩
 simp only [execOp, ho, Option.map_none, Sem.run_bind, run_makeMap, Result.andThen_ok, Sem.run_pure]
theorem o_lenM {kt et : TypeId} (ho : o.op = .call { callee := .builtin .len, args := #[x], argTypes := #[T] }) (hx : ev x = .map (some g)) (hT : Tryz.prog.underlying T = some (.map kt et)) (hB : MapZ w g) : (execOp ev o).run Tryz.prog w = .ok (.value (.int .i64 0)) w := by
 obtain ⟨c, hB⟩ := hB
 simp [execOp, ho, hx, go_sem, resolve, invoke, builtin, Builtin.len_, Builtin.lenOf, run_underlying hT, MapKept.run_getObj_map hB]
theorem o_rangeM {kt et : TypeId} (ho : o.op = .range T x) (hx : ev x = .map (some g)) (hT : Tryz.prog.underlying T = some (.map kt et)) (hB : MapZ w g) :
  ∃ u w', (execOp ev o).run Tryz.prog w = .ok (.value u) w' ∧ ∃ r, u = .pointer (some ⟨r, 0, none⟩) ∧ w.heap.size ≤ r ∧ IterZ w' r g ∧ Below w.heap.size w w' := by
 obtain ⟨c, hB⟩ := hB
 refine ⟨_, w.alloc (.mapIter (some g) c #[] c), ?_, w.heap.size, rfl, Nat.le_refl _, ⟨c, heap_alloc_new w _⟩, (Below.refl _ _).alloc (Nat.le_refl _) _⟩
 simp only [execOp, ho, hx, run_range_map w T kt et g #[] c hT hB, Sem.run_bind, Result.andThen_ok, Sem.run_pure]
theorem o_nextM {r : Nat} (ho : o.op = .next x false) (hx : ev x = .pointer (some ⟨r, 0, none⟩)) (hr : IterZ w r g) (hB : MapZ w g) : (execOp ev o).run Tryz.prog w = .ok (.value (.tuple #[.bool false])) w := by
 obtain ⟨c, hB⟩ := hB
 obtain ⟨c2, hr⟩ := hr
 rcases run_next_at (P := Tryz.prog) w o.type r g c2 c2 #[] #[] c hr hB (by simp) (Nat.le_refl _) with ⟨_, h⟩ | ⟨e, he, _⟩
 ·simp only [execOp, ho, hx, h, Sem.run_bind, Result.andThen_ok, Sem.run_pure]
 ·simp [leftOf] at he
end
section
variable {b : Bool} {P : Program} {Q : Exit → Act → World → Prop} {a : Act} {w : World}
/-- A range over a function that yields nothing. -/
theorem x_range0 {g : Operand} {ps : Array Tmp} {assign body : Code} {r : List (Tmp × Value)} {gf : Nat} {lb : Array Value} {fn : Func} (hg : (putsR a r).eval g = .func (.func gf) #[] lb)
  (hf : P.funcs[gf]? = some fn) (hname : (fn.name == "runtime.NumGoroutine") = false) (hbody' : fn.body.isSome = true)
  (hcall : ∀ (l : Nat) (W : World), Below w.heap.size w W → Calls P gf (#[.func (.yield l) #[] #[]] ++ lb) W fun e W' => (∃ v, e = .returned v) ∧ Below W.heap.size W W')
  (I : World → Prop) (hI : ∀ W W' row, I W → W.grownBy W' row → (∀ r, row = some r → w.heap.size ≤ r ∧ ∃ o : Obj, W.heap[r]? = some o ∧ o.isCells = false) → I W') (h0 : I w)
  (hdone : ∀ (D : Nat) (W : World), w.heap.size ≤ D → I W → W.heap[D]? = some (.deferred (some [])) → Q .normal { putsR a r with defers := { target := .collected D, args := #[] } :: (putsR a r).defers } W) :
  WP2 false P (.rangeFunc g ps assign body) Q (putsR a r) w := by
 refine x_range (α := Empty) (encs := fun _ => Array.replicate ps.size undef) (Kp := fun _ _ => True) (S := fun xs => xs = []) (Sp := fun _ => False) (N := 0) hg hf hname hbody' ?_ (fun _ _ => trivial) (fun _ _ _ _ _ _ _ _ => trivial) (fun x => x.elim) (fun _ W => I W) (fun _ _ _ => False) (fun _ W W' row h hg hr => hI W W' row h hg hr) (fun _ _ _ _ _ h _ _ => h) h0 (fun _ _ _ => True) (fun x => x.elim) (fun _ x => x.elim) (fun _ x => x.elim) (fun D xs W hD _ hi hM => hdone D W hD hi hM) (fun _ _ _ _ _ h _ _ => h.elim)
 intro l J Jx W hb hJ hJx hY h1
 refine callsIn_wide.2 (Calls.mono (hcall l W hb) ?_)
 rintro e W' ⟨hv, hB⟩
 exact ⟨hv, .inl ⟨[], rfl, hJ _ _ _ none h1 ⟨hB.os, hB.tape, hB.output, hB.size, fun k hk _ => hB.block k hk⟩ (fun r h => by cases h)⟩⟩
end
end Go.Proofs.YtodhdajelnfhpaaGreat
/-
 WALKS: the sorted keys of an empty map.
-/
namespace Go.Proofs.YtodhdajelnfhpaaGreat
open Go.RowKit
set_option linter.unusedVariables false
set_option linter.unusedSimpArgs false
set_option maxRecDepth 100000
attribute [local irreducible] wpList wpListIn putsR

theorem insort_nil (w : World) :
  Calls Tryz.prog 195 #[.slice none (0) (0), .int .i64 ((0 : Nat) : Int), .int .i64 ((0 : Nat) : Int)] w fun e w' => e = .returned (.tuple #[]) ∧ w = w' := by
 refine x_enter 49 Tryz.func195 rfl rfl (fun a hs hd ha0 => ?_)
 have t0 : a.eval (.tmp 0) = .slice none (0) (0) := ha0 0 _ rfl
 have t1 : a.eval (.tmp 1) = .int .i64 ((0 : Nat) : Int) := ha0 1 _ rfl
 have t2 : a.eval (.tmp 2) = .int .i64 ((0 : Nat) : Int) := ha0 2 _ rfl
 clear ha0
 refine w2_sr (fun K_1 hK_1 => ?_)
 refine q_mv (v := .int .i64 ((0 : Nat) : Int)) ((pm rfl).trans t1) ?_
 refine q_v 9 (.int .i64 ((0 + 1 : Nat) : Int)) (o_add64 (m := 0) (n := 1) rfl (pe hs rfl rfl) rfl (by omega)) ?_
 refine q_at (pe hs rfl rfl) ?_
 refine x_nil (hK_1 _ _ ?_)
 refine w2_block (fun K_2 hK_2 => ?_)
 refine x_loop (fun nn aa ww => nn = 0 ∧ aa.tmps.size = 49 ∧ aa.defers = [] ∧ aa.eval (.tmp 0) = .slice none (0) (0) ∧ aa.eval (.tmp 1) = .int .i64 ((0 : Nat) : Int) ∧ aa.eval (.tmp 2) = .int .i64 ((0 : Nat) : Int) ∧ aa.eval (.tmp 6) = .int .i64 ((1 : Nat) : Int) ∧ aa.eval (.tmp 8) = .int .i64 ((0 : Nat) : Int) ∧ aa.eval (.tmp 9) = .int .i64 ((0 + 1 : Nat) : Int) ∧ w = ww) (0) ?_ ?_
 ·exact ⟨rfl, (by rw [putsR_size]; exact hs), (by rw [putsR_defers]; exact hd), ((pm rfl).trans t0), ((pm rfl).trans t1), ((pm rfl).trans t2), (pe hs rfl rfl), (pe hs rfl rfl), (pe hs rfl rfl), rfl⟩
 ·skip
  clear t0 t1 t2 hd
  rintro nna_1 a_1 w_1 ⟨hm_1, hs_1, hd_1, ta_1_0, ta_1_1, ta_1_2, ta_1_6, ta_1_8, ta_1_9, hW⟩ K_3 hK_3
  subst hm_1
  refine w2_seq (fun K_4 hK_4 => ?_)
  refine w2_sr (fun K_5 hK_5 => ?_)
  refine q_mv (v := .int .i64 ((1 : Nat) : Int)) ((pm rfl).trans ta_1_6) ?_
  refine q_mv (v := .int .i64 ((0 : Nat) : Int)) ((pm rfl).trans ta_1_2) ?_
  refine q_v 12 (.bool (false)) (o_eq (o_lss (m := 1) (n := 0) rfl (pe hs_1 rfl rfl) (pe hs_1 rfl rfl)) rfl) ?_
  refine x_nil (hK_5 _ _ ?_)
  refine w2_condF (pe hs_1 rfl rfl) ?_
  refine w2_exit ?_
  refine thn_exit ?_
  refine thn_exit ?_
  refine exb_hit ?_
  refine hK_2 _ _ ?_
  refine end0 rfl hd_1 ?_
  exact ⟨rfl, hW⟩
theorem pdq_nil (w : World) :
  Calls Tryz.prog 169 #[.slice none (0) (0), .int .i64 ((0 : Nat) : Int), .int .i64 ((0 : Nat) : Int), .int .i64 ((0 : Nat) : Int)] w fun e w' => e = .returned (.tuple #[]) ∧ w = w' := by
 refine x_enter 134 Tryz.func169 rfl rfl (fun a hs hd ha0 => ?_)
 have t0 : a.eval (.tmp 0) = .slice none (0) (0) := ha0 0 _ rfl
 have t1 : a.eval (.tmp 1) = .int .i64 ((0 : Nat) : Int) := ha0 1 _ rfl
 have t2 : a.eval (.tmp 2) = .int .i64 ((0 : Nat) : Int) := ha0 2 _ rfl
 have t3 : a.eval (.tmp 3) = .int .i64 ((0 : Nat) : Int) := ha0 3 _ rfl
 clear ha0
 refine w2_sr (fun K_1 hK_1 => ?_)
 refine q_as (.bool (true)) rfl ?_
 refine x_nil (hK_1 _ _ ?_)
 refine w2_sr (fun K_2 hK_2 => ?_)
 refine q_as (.bool (true)) rfl ?_
 refine x_nil (hK_2 _ _ ?_)
 refine w2_block (fun K_3 hK_3 => ?_)
 refine x_loop (fun nn aa ww => nn = 0 ∧ aa.tmps.size = 134 ∧ aa.defers = [] ∧ aa.eval (.tmp 0) = .slice none (0) (0) ∧ aa.eval (.tmp 1) = .int .i64 ((0 : Nat) : Int) ∧ aa.eval (.tmp 2) = .int .i64 ((0 : Nat) : Int) ∧ aa.eval (.tmp 3) = .int .i64 ((0 : Nat) : Int) ∧ aa.eval (.tmp 8) = .bool (true) ∧ aa.eval (.tmp 9) = .bool (true) ∧ w = ww) (0) ?_ ?_
 ·exact ⟨rfl, (by rw [putsR_size]; exact hs), (by rw [putsR_defers]; exact hd), ((pm rfl).trans t0), ((pm rfl).trans t1), ((pm rfl).trans t2), ((pm rfl).trans t3), (pe hs rfl rfl), (pe hs rfl rfl), rfl⟩
 ·skip
  clear t0 t1 t2 t3 hd
  rintro nna_1 a_1 w_1 ⟨hm_1, hs_1, hd_1, ta_1_0, ta_1_1, ta_1_2, ta_1_3, ta_1_8, ta_1_9, hW⟩ K_4 hK_4
  subst hm_1
  subst hW
  refine w2_block (fun K_5 hK_5 => ?_)
  refine w2_sr (fun K_6 hK_6 => ?_)
  refine q_mv (v := .int .i64 ((0 : Nat) : Int)) ((pm rfl).trans ta_1_2) ?_
  refine q_mv (v := .int .i64 ((0 : Nat) : Int)) ((pm rfl).trans ta_1_1) ?_
  refine q_v 21 (.int .i64 ((0 : Nat) : Int)) (o_eq (o_sub64 (m := 0) (n := 0) rfl (pe hs_1 rfl rfl) (pe hs_1 rfl rfl) (by omega) (by omega)) rfl) ?_
  refine q_at (v := .int .i64 ((0 : Nat) : Int)) (pe hs_1 rfl rfl) ?_
  refine x_nil (hK_6 _ _ ?_)
  refine w2_seq (fun K_7 hK_7 => ?_)
  refine w2_sr (fun K_8 hK_8 => ?_)
  refine q_mv (v := .int .i64 ((0 : Nat) : Int)) (pe hs_1 rfl rfl) ?_
  refine q_v 23 (.bool (true)) (o_eq (o_leq (m := 0) (n := 12) rfl (pe hs_1 rfl rfl) rfl) rfl) ?_
  refine x_nil (hK_8 _ _ ?_)
  refine w2_condT (pe hs_1 rfl rfl) ?_
  refine w2_sr (fun K_9 hK_9 => ?_)
  refine q_mv ((pm rfl).trans ta_1_0) ?_
  refine q_mv (v := .int .i64 ((0 : Nat) : Int)) ((pm rfl).trans ta_1_1) ?_
  refine q_mv (v := .int .i64 ((0 : Nat) : Int)) ((pm rfl).trans ta_1_2) ?_
  refine q_ca (vs := #[.slice none (0) (0), .int .i64 ((0 : Nat) : Int), .int .i64 ((0 : Nat) : Int)]) Tryz.func195 (args3 (pe hs_1 rfl rfl) (pe hs_1 rfl rfl) (pe hs_1 rfl rfl)) (insort_nil _) (fun e_1 w_2 hR_1 => ?_)
  obtain ⟨rfl, rfl⟩ := hR_1
  refine ⟨_, rfl, ?_⟩
  refine x_nil (hK_9 _ _ ?_)
  refine w2_ret ?_
  refine thn_ret ?_
  refine exb_ret ?_
  refine thn_ret ?_
  refine exb_ret ?_
  refine ret0 rfl hd_1 ?_
  exact ⟨rfl, rfl⟩
section
variable {o : Oper} {ev : Operand → Value} {w : World} {x y z : Operand} {T U t : TypeId} {g k : Nat}
/-- The first byte of a text. -/
theorem o_idxS0 {s : ByteArray} {kd : IntKind} (ho : o.op = .index T x y) (hx : ev x = .string s) (hy : ev y = .int kd 0) (hT : Tryz.prog.underlying T = some .string) (hs : s[0]? = some (0 : UInt8)) : (execOp ev o).run Tryz.prog w = .ok (.value (.int .u8 0)) w := by
 simp [execOp, ho, hx, hy, Instr.index, asIntOf, run_underlying hT, hs, Sem.run_bind, Sem.run_pure]
end
theorem Len64_0 (w : World) :
  Calls Tryz.prog 205 #[.int .u64 ((0 : Nat) : Int)] w fun e w' => e = .returned (.int .i64 ((0 : Nat) : Int)) ∧ w = w' := by
 refine x_enter 25 Tryz.func205 rfl rfl (fun a hs hd ha0 => ?_)
 have t0 : a.eval (.tmp 0) = .int .u64 ((0 : Nat) : Int) := ha0 0 _ rfl
 clear ha0
 refine w2_sr (fun K_1 hK_1 => ?_)
 refine q_as (.int .i64 ((0 : Nat) : Int)) rfl ?_
 refine x_nil (hK_1 _ _ ?_)
 refine w2_seq (fun K_2 hK_2 => ?_)
 refine w2_sr (fun K_3 hK_3 => ?_)
 refine q_mv (v := .int .u64 ((0 : Nat) : Int)) ((pm rfl).trans t0) ?_
 refine q_v 4 (.bool (false)) (o_eq (o_geq (m := 0) (n := 4294967296) rfl (pe hs rfl rfl) rfl) rfl) ?_
 refine x_nil (hK_3 _ _ ?_)
 refine w2_condF (pe hs rfl rfl) ?_
 refine w2_skip ?_
 refine hK_2 _ _ ?_
 refine w2_seq (fun K_4 hK_4 => ?_)
 refine w2_sr (fun K_5 hK_5 => ?_)
 refine q_mv (v := .int .u64 ((0 : Nat) : Int)) ((pm rfl).trans t0) ?_
 refine q_v 8 (.bool (false)) (o_eq (o_geq (m := 0) (n := 65536) rfl (pe hs rfl rfl) rfl) rfl) ?_
 refine x_nil (hK_5 _ _ ?_)
 refine w2_condF (pe hs rfl rfl) ?_
 refine w2_skip ?_
 refine hK_4 _ _ ?_
 refine w2_seq (fun K_6 hK_6 => ?_)
 refine w2_sr (fun K_7 hK_7 => ?_)
 refine q_mv (v := .int .u64 ((0 : Nat) : Int)) ((pm rfl).trans t0) ?_
 refine q_v 14 (.bool (false)) (o_eq (o_geq (m := 0) (n := 256) rfl (pe hs rfl rfl) rfl) rfl) ?_
 refine x_nil (hK_7 _ _ ?_)
 refine w2_condF (pe hs rfl rfl) ?_
 refine w2_skip ?_
 refine hK_6 _ _ ?_
 refine w2_sr (fun K_8 hK_8 => ?_)
 refine q_mv (v := .int .i64 ((0 : Nat) : Int)) (pe hs rfl rfl) ?_
 refine q_mv (v := .int .u64 ((0 : Nat) : Int)) ((pm rfl).trans t0) ?_
 refine q_v 21 (.int .u8 ((0 % 256 : Nat) : Int)) (o_conv (m := 0) (r := 0 % 256) rfl (pe hs rfl rfl) ⟨.int .u64, fun _ => by kernel_rfl⟩ (fun _ => by kernel_rfl) (by rw [IntKind.wrap_u8]; omega)) ?_
 refine q_v 22 (.int .u8 ((0 : Nat) : Int)) (o_idxS0 rfl rfl (pe hs rfl rfl) (by kernel_rfl) (by kernel_rfl)) ?_
 refine q_v 23 (.int .i64 ((0 : Nat) : Int)) (o_conv (m := 0) (r := 0) rfl (pe hs rfl rfl) ⟨.int .u8, fun _ => by kernel_rfl⟩ (fun _ => by kernel_rfl) (IntWalk.i64_in _ (by omega))) ?_
 refine q_v 24 (.int .i64 ((0 + 0 : Nat) : Int)) (o_add64 (m := 0) (n := 0) rfl (pe hs rfl rfl) (pe hs rfl rfl) (by omega)) ?_
 refine q_at (pe hs rfl rfl) ?_
 refine x_nil (hK_8 _ _ ?_)
 refine w2_ret ?_
 refine ret1 rfl hd (pe hs rfl rfl) ?_
 exact ⟨rfl, rfl⟩
theorem Len_0 (w : World) :
  Calls Tryz.prog 170 #[.int .u64 ((0 : Nat) : Int)] w fun e w' => e = .returned (.int .i64 ((0 : Nat) : Int)) ∧ w = w' := by
 refine x_enter 8 Tryz.func170 rfl rfl (fun a hs hd ha0 => ?_)
 have t0 : a.eval (.tmp 0) = .int .u64 ((0 : Nat) : Int) := ha0 0 _ rfl
 clear ha0
 refine w2_sr (fun K_1 hK_1 => ?_)
 refine q_as (.int .i64 ((0 : Nat) : Int)) rfl ?_
 refine x_nil (hK_1 _ _ ?_)
 refine w2_seq (fun K_2 hK_2 => ?_)
 refine w2_condF rfl ?_
 refine w2_skip ?_
 refine hK_2 _ _ ?_
 refine w2_sr (fun K_3 hK_3 => ?_)
 refine q_mv (v := .int .u64 ((0 : Nat) : Int)) ((pm rfl).trans t0) ?_
 refine q_ca (vs := #[.int .u64 ((0 : Nat) : Int)]) Tryz.func205 (args1 (pe hs rfl rfl)) (Len64_0 _) (fun e_1 w_1 hR_1 => ?_)
 obtain ⟨rfl, rfl⟩ := hR_1
 refine ⟨_, rfl, ?_⟩
 refine q_at (v := .int .i64 ((0 : Nat) : Int)) (pe hs rfl rfl) ?_
 refine x_nil (hK_3 _ _ ?_)
 refine w2_ret ?_
 refine ret1 rfl hd (pe hs rfl rfl) ?_
 exact ⟨rfl, rfl⟩
section
variable {o : Oper} {ev : Operand → Value} {w : World} {x y z : Operand} {T U t : TypeId} {g k : Nat}
theorem o_lenI0 {A : Option Addr} {n c : Nat} (ho : o.op = .call { callee := .builtin .len, args := #[x], argTypes := #[102] }) (hx : ev x = .slice A n c) : (execOp ev o).run Tryz.prog w = .ok (.value (.int .i64 (n : Int))) w := by
 simp [execOp, ho, hx, go_sem, resolve, invoke, builtin]
end
theorem Sort_nil (w : World) :
  Calls Tryz.prog 133 #[.slice none (0) (0)] w fun e w' => e = .returned (.tuple #[]) ∧ w = w' := by
 refine x_enter 11 Tryz.func133 rfl rfl (fun a hs hd ha0 => ?_)
 have t0 : a.eval (.tmp 0) = .slice none (0) (0) := ha0 0 _ rfl
 clear ha0
 refine w2_sr (fun K_1 hK_1 => ?_)
 refine q_mv ((pm rfl).trans t0) ?_
 refine q_v 4 (.int .i64 ((0 : Nat) : Int)) (o_lenI0 rfl (pe hs rfl rfl)) ?_
 refine q_at (v := .int .i64 ((0 : Nat) : Int)) (pe hs rfl rfl) ?_
 refine x_nil (hK_1 _ _ ?_)
 refine x_region (by kernel_rfl) ?_
 refine q_mv ((pm rfl).trans t0) ?_
 refine q_mv (v := .int .i64 ((0 : Nat) : Int)) (pe hs rfl rfl) ?_
 refine q_mv (v := .int .i64 ((0 : Nat) : Int)) (pe hs rfl rfl) ?_
 refine q_v 8 (.int .u64 ((0 % 18446744073709551616 : Nat) : Int)) (o_conv (m := 0) (r := 0 % 18446744073709551616) rfl (pe hs rfl rfl) ⟨.int .i64, fun _ => by kernel_rfl⟩ (fun _ => by kernel_rfl) (by rw [IntKind.wrap_u64]; omega)) ?_
 refine q_ca (vs := #[.int .u64 ((0 % 18446744073709551616 : Nat) : Int)]) Tryz.func170 (args1 (pe hs rfl rfl)) (Len_0 _) (fun e_1 w_1 hR_1 => ?_)
 obtain ⟨rfl, rfl⟩ := hR_1
 refine ⟨_, rfl, ?_⟩
 refine q_ca (vs := #[.slice none (0) (0), .int .i64 ((0 : Nat) : Int), .int .i64 ((0 : Nat) : Int), .int .i64 ((0 : Nat) : Int)]) Tryz.func169 (args4 (pe hs rfl rfl) rfl (pe hs rfl rfl) (pe hs rfl rfl)) (pdq_nil _) (fun e_2 w_2 hR_2 => ?_)
 obtain ⟨rfl, rfl⟩ := hR_2
 refine ⟨_, rfl, ?_⟩
 refine x_nil ?_
 refine end0 rfl hd ?_
 exact ⟨rfl, rfl⟩
theorem Keys_any {g : Nat} (w : World) :
  Calls Tryz.prog 92 #[.map (some g)] w fun e w' => ∃ g2, e = .returned (.func (.func 134) #[] #[.pointer (some ⟨g2, 0, none⟩)]) ∧ w.heap.size ≤ g2 ∧ Blk w' g2 #[.map (some g)] 53 ∧ Below w.heap.size w w' := by
 refine x_enter 4 Tryz.func92 rfl rfl (fun a hs hd ha0 => ?_)
 have t0 : a.eval (.tmp 0) = .map (some g) := ha0 0 _ rfl
 clear ha0
 refine w2_sr (fun K_1 hK_1 => ?_)
 refine op_ex (d := 1) rfl rfl (o_box rfl ((pm rfl).trans t0) rfl) (fun v_1 w_1 hR_1 => ?_)
 obtain ⟨g_1, rfl, hle_1, hB_1, hb_1⟩ := hR_1
 have ge_1 : w.heap.size ≤ g_1 := hle_1
 refine q_as ((Value.nilFunc)) rfl ?_
 refine x_nil (hK_1 _ _ ?_)
 refine w2_seq (fun K_2 hK_2 => ?_)
 refine x_region (by kernel_rfl) ?_
 refine q_v 3 (.func (.func 134) #[] #[.pointer (some ⟨g_1, 0, none⟩)]) (o_makeFunc rfl (args1 (pe hs rfl rfl))) ?_
 refine q_at (pe hs rfl rfl) ?_
 refine x_nil (hK_2 _ _ ?_)
 refine w2_ret ?_
 refine ret1 rfl hd (pe hs rfl rfl) ?_
 exact ⟨g_1, rfl, ge_1, hB_1, hb_1⟩
theorem Keys1_any {g g2 l : Nat} (w : World) (hB : Blk w g2 #[.map (some g)] 53) (hM : MapZ w g) :
  Calls Tryz.prog 134 #[.func (.yield l) #[] #[], .pointer (some ⟨g2, 0, none⟩)] w fun e w' => (∃ v, e = .returned v) ∧ Below w.heap.size w w' := by
 refine x_enter 14 Tryz.func134 rfl rfl (fun a hs hd ha0 => ?_)
 have t0 : a.eval (.tmp 0) = .func (.yield l) #[] #[] := ha0 0 _ rfl
 have t1 : a.eval (.tmp 1) = .pointer (some ⟨g2, 0, none⟩) := ha0 1 _ rfl
 clear ha0
 refine w2_sr (fun K_1 hK_1 => ?_)
 refine q_ld (v := .map (some g)) ((pm rfl).trans t1) hB rfl ?_
 refine op_ex (d := 5) rfl rfl (o_rangeM (kt := 3) (et := 65) rfl (pe hs rfl rfl) (by kernel_rfl) hM) (fun v_1 w_1 hR_1 => ?_)
 obtain ⟨g_1, rfl, hle_1, hI_1, hb_1⟩ := hR_1
 refine x_nil (hK_1 _ _ ?_)
 refine w2_block (fun K_2 hK_2 => ?_)
 refine x_loop (fun nn aa ww => nn = 0 ∧ aa.tmps.size = 14 ∧ aa.defers = [] ∧ aa.eval (.tmp 0) = .func (.yield l) #[] #[] ∧ aa.eval (.tmp 1) = .pointer (some ⟨g2, 0, none⟩) ∧ aa.eval (.tmp 4) = .map (some g) ∧ aa.eval (.tmp 5) = .pointer (some ⟨g_1, 0, none⟩) ∧ IterZ ww g_1 g ∧ Below w.heap.size w ww) (0) ?_ ?_
 ·exact ⟨rfl, (by rw [putsR_size]; exact hs), (by rw [putsR_defers]; exact hd), ((pm rfl).trans t0), ((pm rfl).trans t1), (pe hs rfl rfl), (pe hs rfl rfl), hI_1, hb_1⟩
 ·skip
  clear t0 t1 hd hI_1 hb_1
  rintro nna_1 a_1 w_2 ⟨hm_1, hs_1, hd_1, ta_1_0, ta_1_1, ta_1_4, ta_1_5, hIt, HBL⟩ K_3 hK_3
  subst hm_1
  refine w2_sr (fun K_4 hK_4 => ?_)
  refine q_v 6 (.tuple #[.bool (false)]) (o_nextM rfl ((pm rfl).trans ta_1_5) hIt (hM.nx HBL)) ?_
  refine q_ex (v := .bool (false)) (pe hs_1 rfl rfl) rfl ?_
  refine x_nil (hK_4 _ _ ?_)
  refine w2_seq (fun K_5 hK_5 => ?_)
  refine w2_condF (pe hs_1 rfl rfl) ?_
  refine w2_exit ?_
  refine thn_exit ?_
  refine thn_exit ?_
  refine exb_hit ?_
  refine hK_2 _ _ ?_
  refine end0 rfl hd_1 ?_
  exact ⟨⟨_, rfl⟩, HBL⟩
theorem AppendSeq_0 {g g2 : Nat} (w : World) (hB : Blk w g2 #[.map (some g)] 53) (hM : MapZ w g) :
  Calls Tryz.prog 168 #[.slice none (0) (0), .func (.func 134) #[] #[.pointer (some ⟨g2, 0, none⟩)]] w fun e w' => e = .returned (.slice none 0 0) ∧ Below w.heap.size w w' := by
 refine x_enterM 13 Tryz.func168 rfl rfl (fun a hs hd ha0 => ?_)
 have t0 : a.eval (.tmp 0) = .slice none (0) (0) := ha0 0 _ rfl
 have t1 : a.eval (.tmp 1) = .func (.func 134) #[] #[.pointer (some ⟨g2, 0, none⟩)] := ha0 1 _ rfl
 clear ha0
 refine w2_sr (fun K_1 hK_1 => ?_)
 refine op_ex (d := 2) rfl rfl (o_box rfl ((pm rfl).trans t0) rfl) (fun v_1 w_1 hR_1 => ?_)
 obtain ⟨g_1, rfl, hle_1, hB_1, hb_1⟩ := hR_1
 refine q_as (.slice none (0) (0)) rfl ?_
 refine x_nil (hK_1 _ _ ?_)
 refine w2_seq (fun K_2 hK_2 => ?_)
 refine w2_sr (fun K_3 hK_3 => ?_)
 refine q_mv ((pm rfl).trans t1) ?_
 refine x_nil (hK_3 _ _ ?_)
 refine w2_block (fun K_4 hK_4 => ?_)
 refine x_range0 (pe hs rfl rfl) Tryz.func134 (by kernel_rfl) (by kernel_rfl) (fun l W hb => Keys1_any W (((hB.nx hb_1)).nx hb) (((hM.nx hb_1)).nx hb)) (fun W => (Blk W g_1 #[.slice none (0) (0)] 102) ∧ Below w.heap.size w W) (fun A A' row ⟨hB_1, HBI⟩ hg hr => ⟨hB_1.nc hg hr, below_nc HBI hg hr hb_1.size HBI.size⟩) ⟨hB_1, hb_1⟩ ?_
 clear hB_1
 rintro D_1 w_2 hle_1 ⟨hB_1, HBI⟩ hD_1
 replace hD_1 : MarkD w_2 D_1 := hD_1
 refine hK_4 _ _ ?_
 refine hK_2 _ _ ?_
 refine x_genD hs hd (fun a_1 hs_1 hd_1 he_1 => ?_)
 have ta_1_2 : a_1.eval (.tmp 2) = .pointer (some ⟨g_1, 0, none⟩) := (he_1 2).trans (pe hs rfl rfl)
 clear he_1
 refine w2_sr (fun K_5 hK_5 => ?_)
 refine q_ld (v := .slice none (0) (0)) ((pm rfl).trans ta_1_2) hB_1 rfl ?_
 refine q_at (pe hs_1 rfl rfl) ?_
 refine x_nil (hK_5 _ _ ?_)
 refine w2_ret ?_
 refine retM1 rfl hd_1 hD_1 (pe hs_1 rfl rfl) ?_
 have hg := grownBy_putObj' w_2 D_1 (.deferred none)
 have hr := hD_1.row (B := w.heap.size) (Nat.le_trans (by have := hb_1.size; omega) hle_1)
 exact ⟨rfl, below_nc HBI hg hr (Nat.le_refl _) HBI.size⟩
theorem Collect_0 {g g2 : Nat} (w : World) (hB : Blk w g2 #[.map (some g)] 53) (hM : MapZ w g) :
  Calls Tryz.prog 132 #[.func (.func 134) #[] #[.pointer (some ⟨g2, 0, none⟩)]] w fun e w' => e = .returned (.slice none 0 0) ∧ Below w.heap.size w w' := by
 refine x_enter 5 Tryz.func132 rfl rfl (fun a hs hd ha0 => ?_)
 have t0 : a.eval (.tmp 0) = .func (.func 134) #[] #[.pointer (some ⟨g2, 0, none⟩)] := ha0 0 _ rfl
 clear ha0
 refine w2_sr (fun K_1 hK_1 => ?_)
 refine q_as (.slice none (0) (0)) rfl ?_
 refine x_nil (hK_1 _ _ ?_)
 refine w2_sr (fun K_2 hK_2 => ?_)
 refine q_mv ((pm rfl).trans t0) ?_
 refine q_ca (vs := #[.slice none (0) (0), .func (.func 134) #[] #[.pointer (some ⟨g2, 0, none⟩)]]) Tryz.func168 (args2 rfl (pe hs rfl rfl)) (AppendSeq_0 _ hB hM) (fun e_1 w_1 hR_1 => ?_)
 obtain ⟨rfl, hb_2⟩ := hR_1
 refine ⟨_, rfl, ?_⟩
 refine q_at (pe hs rfl rfl) ?_
 refine x_nil (hK_2 _ _ ?_)
 refine w2_ret ?_
 refine ret1 rfl hd (pe hs rfl rfl) ?_
 exact ⟨rfl, hb_2⟩
theorem Sorted_0 {g g2 : Nat} (w : World) (hB : Blk w g2 #[.map (some g)] 53) (hM : MapZ w g) :
  Calls Tryz.prog 91 #[.func (.func 134) #[] #[.pointer (some ⟨g2, 0, none⟩)]] w fun e w' => e = .returned (.slice none 0 0) ∧ Below w.heap.size w w' := by
 refine x_enter 9 Tryz.func91 rfl rfl (fun a hs hd ha0 => ?_)
 have t0 : a.eval (.tmp 0) = .func (.func 134) #[] #[.pointer (some ⟨g2, 0, none⟩)] := ha0 0 _ rfl
 clear ha0
 refine w2_sr (fun K_1 hK_1 => ?_)
 refine q_as (.slice none (0) (0)) rfl ?_
 refine x_nil (hK_1 _ _ ?_)
 refine w2_sr (fun K_2 hK_2 => ?_)
 refine q_mv ((pm rfl).trans t0) ?_
 refine q_ca (vs := #[.func (.func 134) #[] #[.pointer (some ⟨g2, 0, none⟩)]]) Tryz.func132 (args1 (pe hs rfl rfl)) (Collect_0 _ hB hM) (fun e_1 w_1 hR_1 => ?_)
 obtain ⟨rfl, hb_2⟩ := hR_1
 refine ⟨_, rfl, ?_⟩
 refine q_at (pe hs rfl rfl) ?_
 refine x_nil (hK_2 _ _ ?_)
 refine w2_sr (fun K_3 hK_3 => ?_)
 refine q_mv (pe hs rfl rfl) ?_
 refine q_ca (vs := #[.slice none (0) (0)]) Tryz.func133 (args1 (pe hs rfl rfl)) (Sort_nil _) (fun e_2 w_2 hR_2 => ?_)
 obtain ⟨rfl, rfl⟩ := hR_2
 refine ⟨_, rfl, ?_⟩
 refine x_nil (hK_3 _ _ ?_)
 refine w2_sr (fun K_4 hK_4 => ?_)
 refine q_mv (pe hs rfl rfl) ?_
 refine q_at (pe hs rfl rfl) ?_
 refine x_nil (hK_4 _ _ ?_)
 refine w2_ret ?_
 refine ret1 rfl hd (pe hs rfl rfl) ?_
 exact ⟨rfl, hb_2⟩
theorem ids1_any {g g3 gc l : Nat} {v0 v1 v2 v3 v4 v5 v6 v7 v8 v10 v11 v12 v13 v14 v15 v16 : Value} (w : World) (hP : Blk w g3 #[.pointer (some ⟨gc, 0, none⟩)] 24) (hC : Blk w gc #[v0, v1, v2, v3, v4, v5, v6, v7, v8, .map (some g), v10, v11, v12, v13, v14, v15, v16] 58) (hM : MapZ w g) :
  Calls Tryz.prog 90 #[.func (.yield l) #[] #[], .pointer (some ⟨g3, 0, none⟩)] w fun e w' => (∃ v, e = .returned v) ∧ Below w.heap.size w w' := by
 refine x_enter 27 Tryz.func90 rfl rfl (fun a hs hd ha0 => ?_)
 have t0 : a.eval (.tmp 0) = .func (.yield l) #[] #[] := ha0 0 _ rfl
 have t1 : a.eval (.tmp 1) = .pointer (some ⟨g3, 0, none⟩) := ha0 1 _ rfl
 clear ha0
 refine w2_sr (fun K_1 hK_1 => ?_)
 refine q_ld (v := .pointer (some ⟨gc, 0, none⟩)) ((pm rfl).trans t1) hP rfl ?_
 refine q_nc (pe hs rfl rfl) ?_
 refine q_fa 9 (pe hs rfl rfl) ?_
 refine q_ld (v := .map (some g)) (pe hs rfl rfl) hC rfl ?_
 refine q_ca (vs := #[.map (some g)]) Tryz.func92 (args1 (pe hs rfl rfl)) (Keys_any _) (fun e_1 w_1 hR_1 => ?_)
 obtain ⟨g_1, rfl, hl_1, hB_1, hb_1⟩ := hR_1
 refine ⟨_, rfl, ?_⟩
 refine q_ca (vs := #[.func (.func 134) #[] #[.pointer (some ⟨g_1, 0, none⟩)]]) Tryz.func91 (args1 (pe hs rfl rfl)) (Sorted_0 _ hB_1 (hM.nx hb_1)) (fun e_2 w_2 hR_2 => ?_)
 obtain ⟨rfl, hb_3⟩ := hR_2
 replace hB_1 := hB_1.nx hb_3
 have HB_1 := below_from hb_1 hb_3
 refine ⟨_, rfl, ?_⟩
 refine q_v 11 (.int .i64 ((0 : Nat) : Int)) (o_lenI0 rfl (pe hs rfl rfl)) ?_
 refine q_v 12 (.int .i64 ((0 : Nat) : Int)) (o_move rfl rfl) ?_
 refine x_nil (hK_1 _ _ ?_)
 refine w2_block (fun K_2 hK_2 => ?_)
 refine x_loop (fun nn aa ww => nn = 0 ∧ aa.tmps.size = 27 ∧ aa.defers = [] ∧ aa.eval (.tmp 0) = .func (.yield l) #[] #[] ∧ aa.eval (.tmp 1) = .pointer (some ⟨g3, 0, none⟩) ∧ aa.eval (.tmp 5) = .pointer (some ⟨gc, 0, none⟩) ∧ aa.eval (.tmp 6) = .pointer (some ⟨gc, 0, none⟩) ∧ aa.eval (.tmp 7) = .pointer (some ⟨gc, 9, none⟩) ∧ aa.eval (.tmp 8) = .map (some g) ∧ aa.eval (.tmp 9) = .func (.func 134) #[] #[.pointer (some ⟨g_1, 0, none⟩)] ∧ aa.eval (.tmp 10) = .slice none (0) (0) ∧ aa.eval (.tmp 11) = .int .i64 ((0 : Nat) : Int) ∧ aa.eval (.tmp 12) = .int .i64 ((0 : Nat) : Int) ∧ Below w.heap.size w ww) (0) ?_ ?_
 ·exact ⟨rfl, (by rw [putsR_size]; exact hs), (by rw [putsR_defers]; exact hd), ((pm rfl).trans t0), ((pm rfl).trans t1), (pe hs rfl rfl), (pe hs rfl rfl), (pe hs rfl rfl), (pe hs rfl rfl), (pe hs rfl rfl), (pe hs rfl rfl), (pe hs rfl rfl), (pe hs rfl rfl), HB_1⟩
 ·skip
  clear t0 t1 hd hB_1 HB_1
  rintro nna_1 a_1 w_3 ⟨hm_1, hs_1, hd_1, ta_1_0, ta_1_1, ta_1_5, ta_1_6, ta_1_7, ta_1_8, ta_1_9, ta_1_10, ta_1_11, ta_1_12, HBL⟩ K_3 hK_3
  subst hm_1
  refine w2_sr (fun K_4 hK_4 => ?_)
  refine q_v 13 (.bool (false)) (o_eq (o_lss (m := 0) (n := 0) rfl ((pm rfl).trans ta_1_12) ((pm rfl).trans ta_1_11)) rfl) ?_
  refine x_nil (hK_4 _ _ ?_)
  refine w2_seq (fun K_5 hK_5 => ?_)
  refine w2_condF (pe hs_1 rfl rfl) ?_
  refine w2_exit ?_
  refine thn_exit ?_
  refine thn_exit ?_
  refine exb_hit ?_
  refine hK_2 _ _ ?_
  refine end0 rfl hd_1 ?_
  exact ⟨⟨_, rfl⟩, HBL⟩
theorem ids_any {gc : Nat} (w : World) :
  Calls Tryz.prog 53 #[.pointer (some ⟨gc, 0, none⟩)] w fun e w' => ∃ g3, e = .returned (.func (.func 90) #[] #[.pointer (some ⟨g3, 0, none⟩)]) ∧ w.heap.size ≤ g3 ∧ Blk w' g3 #[.pointer (some ⟨gc, 0, none⟩)] 24 ∧ Below w.heap.size w w' := by
 refine x_enter 4 Tryz.func53 rfl rfl (fun a hs hd ha0 => ?_)
 have t0 : a.eval (.tmp 0) = .pointer (some ⟨gc, 0, none⟩) := ha0 0 _ rfl
 clear ha0
 refine w2_sr (fun K_1 hK_1 => ?_)
 refine op_ex (d := 1) rfl rfl (o_box rfl ((pm rfl).trans t0) rfl) (fun v_1 w_1 hR_1 => ?_)
 obtain ⟨g_1, rfl, hle_1, hB_1, hb_1⟩ := hR_1
 have ge_1 : w.heap.size ≤ g_1 := hle_1
 refine q_as ((Value.nilFunc)) rfl ?_
 refine x_nil (hK_1 _ _ ?_)
 refine w2_seq (fun K_2 hK_2 => ?_)
 refine x_region (by kernel_rfl) ?_
 refine q_v 3 (.func (.func 90) #[] #[.pointer (some ⟨g_1, 0, none⟩)]) (o_makeFunc rfl (args1 (pe hs rfl rfl))) ?_
 refine q_at (pe hs rfl rfl) ?_
 refine x_nil (hK_2 _ _ ?_)
 refine w2_ret ?_
 refine ret1 rfl hd (pe hs rfl rfl) ?_
 exact ⟨g_1, rfl, ge_1, hB_1, hb_1⟩
end Go.Proofs.YtodhdajelnfhpaaGreat
/-
 OPERATIONS on whole numbers that may be below nought.
-/
namespace Go.Proofs.YtodhdajelnfhpaaGreat
open Go.RowKit
set_option linter.unusedVariables false
set_option linter.unusedSimpArgs false
section
variable {o : Oper} {ev : Operand → Value} {w : World} {x y z : Operand} {T U : TypeId} {m n : Int}
theorem o_subZZ (ho : o.op = .binOp .sub T x y U) (hx : ev x = .int .i64 m) (hy : ev y = .int .i64 n) (h : -9223372036854775808 ≤ m - n ∧ m - n ≤ 9223372036854775807) : (execOp ev o).run Tryz.prog w = .ok (.value (.int .i64 (m - n))) w := by
 have e : IntKind.i64.wrap (m - n) = m - n := IntWalk.i64_in _ h
 simp [execOp, ho, hx, hy, go_sem, e]
theorem o_geqZZ (ho : o.op = .binOp .geq T x y U) (hx : ev x = .int .i64 m) (hy : ev y = .int .i64 n) : (execOp ev o).run Tryz.prog w = .ok (.value (.bool (decide (n ≤ m)))) w := by simp [execOp, ho, hx, hy, go_sem]
theorem o_lssZZ (ho : o.op = .binOp .lss T x y U) (hx : ev x = .int .i64 m) (hy : ev y = .int .i64 n) : (execOp ev o).run Tryz.prog w = .ok (.value (.bool (decide (m < n)))) w := by simp [execOp, ho, hx, hy, go_sem]
end
end Go.Proofs.YtodhdajelnfhpaaGreat
