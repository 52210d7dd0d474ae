/-
 OPERATIONS on cells: variables, fields, arrays of whole numbers; aggregates.
-/
import Derived.Test.YtkhbihnnkflfkaaGreatOps
import Derived.Test.YtkhbihnnkflfkaaGreatAgg
namespace Go.Proofs.YtkhbihnnkflfkaaGreat
open Go.RowKit
set_option linter.unusedVariables false
set_option linter.unusedSimpArgs false
set_option maxRecDepth 100000

variable {v : Value} {cur : Array Value} {f i : Nat} {kd : IntKind} {s : List Nat} {Q : Exit → Act → World → Prop} {a : Act}
def IsOne (t : TypeId) : Prop := (Tryz.prog.underlying t).map aggDesc = some false ∧ (Tryz.prog.info? t).map (·.size) = some 1
theorem one_runs {t : TypeId} (h : IsOne t) (w : World) : (isAgg t).run Tryz.prog w = .ok false w ∧ (sizeOf t).run Tryz.prog w = .ok 1 w := by
 obtain ⟨h1, h2⟩ := h
 constructor
 ·cases hu : Tryz.prog.underlying t with
  | none => rw [hu] at h1; cases h1
  | some d =>
   rw [hu] at h1
   cases d <;> simp [aggDesc] at h1 <;> simp [isAgg, Sem.run_bind, run_underlying hu, Sem.run_pure]
 ·cases hu : Tryz.prog.info? t with
  | none => rw [hu] at h2; cases h2
  | some i =>
   rw [hu] at h2
   have h3 : i.size = 1 := by simpa using h2
   have e : (typeInfo t).run Tryz.prog w = .ok i w := by simp [typeInfo, hu]
   simp only [sizeOf, Sem.run_bind, e, Result.andThen_ok, Sem.run_pure, h3]

def iws (k : IntKind) (s : List Nat) : List Value := s.map fun (x : Nat) => Value.int k (x : Int)
theorem iws_length (k : IntKind) (s : List Nat) : (iws k s).length = s.length := by simp [iws]
theorem iws_get (k : IntKind) (s : List Nat) (i : Nat) (hi : i < s.length) : (iws k s).toArray[i]? = some (.int k ((s.getD i 0 : Nat) : Int)) := by simp [iws, hi]
theorem iws_one (k : IntKind) (s : List Nat) : ∀ u ∈ iws k s, u.oneCell' = true := by
 intro u hu
 obtain ⟨y, _, rfl⟩ := List.mem_map.1 hu
 rfl

section
variable {o : Oper} {ev : Operand → Value} {w : World} {x y z : Operand} {T U t : TypeId} {g k : Nat}

theorem o_load1 (ho : o.op = .load t x) (hx : ev x = .pointer (some ⟨g, k, none⟩)) (hB : Blk w g cur T) (hv : cur[k]? = some v) (ht : IsOne t) : (execOp ev o).run Tryz.prog w = .ok (.value v) w := by
 have hc : w.cell? ⟨g, k, none⟩ = some v := by rw [hB.cell, hv]
 simp [execOp, ho, hx, go_sem, loadVar, (one_runs ht w).1, hc]
theorem o_store1 {l : List Value} (ho : o.op = .store t x y) (hx : ev x = .pointer (some ⟨g, k, none⟩)) (hy : ev y = v) (hv : v.cells = #[v]) (hv1 : v.oneCell' = true) (hB : Blk w g l.toArray T) (hk : k < l.length) (ht : IsOne t) :
  ∃ w', (execOp ev o).run Tryz.prog w = .ok .skip w' ∧ Blk w' g (l.set k v).toArray T ∧ BelowX (fun k => k = g) w w' := by
 obtain ⟨_, h2⟩ := one_runs ht w
 have hst := run_storeCells_at (P := Tryz.prog) g k T [v] 0 l.toArray w hB (by simp; omega) (by simpa using hv1)
 have hs : (Instr.sureAddr (ev x)).run Tryz.prog w = .ok ⟨g, k, none⟩ w := by rw [hx]; rfl
 simp only [Nat.add_zero, List.toList_toArray] at hst
 have e : l.take k ++ [v] ++ l.drop (k + [v].length) = l.set k v := by
  rw [List.set_eq_take_append_cons_drop, if_pos hk]; simp
 rw [e] at hst
 refine ⟨_, ?_, blk_setRow hB, chg_setRow hB⟩
 simp only [execOp, ho, Instr.storeAt, storeVar, Sem.run_bind, hs, Result.andThen_ok, h2, hy, hv, List.size_toArray, List.length_cons, List.length_nil, Nat.zero_add, ne_eq, not_true, if_false, Sem.run_pure, hst]
theorem o_alloc {zs : Array Value} (ho : o.op = .alloc t) (hz : ∀ w : World, (Instr.alloc t true (.tuple #[])).run Tryz.prog w = .ok (.pointer (some ⟨w.heap.size, 0, none⟩)) (w.alloc (.cells zs t))) :
  ∃ v w', (execOp ev o).run Tryz.prog w = .ok (.value v) w' ∧ ∃ g, v = .pointer (some ⟨g, 0, none⟩) ∧ w.heap.size ≤ g ∧ Blk w' g zs t ∧ Below w.heap.size w w' := by
 refine ⟨_, w.alloc (.cells zs t), ?_, w.heap.size, rfl, Nat.le_refl _, Blk.new w _ _, (Below.refl _ _).alloc (Nat.le_refl _) _⟩
 simp [execOp, ho, hz, Sem.run_bind, Sem.run_pure]
theorem o_field {k' : Nat} (ho : o.op = .fieldAddr T x f) (hx : ev x = .pointer (some ⟨g, k, none⟩)) (hf : ∀ w : World, (Instr.fieldAt T (.pointer (some ⟨g, k, none⟩)) f).run Tryz.prog w = .ok (.pointer (some ⟨g, k', none⟩)) w) :
  (execOp ev o).run Tryz.prog w = .ok (.value (.pointer (some ⟨g, k', none⟩))) w := by
 simp [execOp, ho, hx, hf, Sem.run_bind, Sem.run_pure]
theorem o_ixA {n : Nat} {e : TypeId} (ho : o.op = .indexAddr T x y) (hx : ev x = .pointer (some ⟨g, k, none⟩)) (hy : ev y = .int .i64 (i : Int)) (hi : i < n) (hT : ∀ w : World, (underlying T).run Tryz.prog w = .ok (.array n e) w) (he : ∀ w : World, (sizeOf e).run Tryz.prog w = .ok 1 w) :
  (execOp ev o).run Tryz.prog w = .ok (.value (.pointer (some ⟨g, k + i, none⟩))) w := by
 have h1 : (i : Int) < (n : Int) := by omega
 simp [execOp, ho, hx, hy, Instr.indexAt, Instr.sureAddr, asIntOf, hT, he, h1, Sem.run_bind, Sem.run_pure, Addr.add_lit]
 exact fun h => absurd h (by omega)
theorem zero_off (h : (execOp ev o).run Tryz.prog w = .ok (.value (.pointer (some ⟨g, 0 + i, none⟩))) w) : (execOp ev o).run Tryz.prog w = .ok (.value (.pointer (some ⟨g, i, none⟩))) w := by rwa [Nat.zero_add] at h
theorem o_loadW {v : Nat} (ho : o.op = .load t x) (hx : ev x = .pointer (some ⟨g, i, none⟩)) (hB : Blk w g (iws kd s).toArray T) (hi : i < s.length) (hv : s.getD i 0 = v) (ht : IsOne t) : (execOp ev o).run Tryz.prog w = .ok (.value (.int kd (v : Int))) w :=
 o_load1 ho hx hB (by rw [iws_get kd s i hi, hv]) ht
theorem o_storeW {v : Nat} (ho : o.op = .store t x y) (hx : ev x = .pointer (some ⟨g, i, none⟩)) (hy : ev y = .int kd (v : Int)) (hB : Blk w g (iws kd s).toArray T) (hi : i < s.length) (ht : IsOne t) :
  ∃ w', (execOp ev o).run Tryz.prog w = .ok .skip w' ∧ Blk w' g (iws kd (s.set i v)).toArray T ∧ BelowX (fun k => k = g) w w' := by
 obtain ⟨w', h1, h2, h3⟩ := o_store1 ho hx hy rfl rfl hB (by simpa [iws] using hi) ht
 refine ⟨w', h1, ?_, h3⟩
 have e : (iws kd s).set i (.int kd (v : Int)) = iws kd (s.set i v) := by simp [iws, List.map_set]
 rw [e] at h2
 exact h2
theorem o_loadA {l : List Value} (vs : List Value) (ho : o.op = .load t x) (hx : ev x = .pointer (some ⟨g, k, none⟩)) (hB : Blk w g l.toArray T) (ht : IsAgg t vs.length) (hl : (l.drop k).take vs.length = vs) : (execOp ev o).run Tryz.prog w = .ok (.value (.agg vs.toArray)) w := by
 obtain ⟨h1, h2⟩ := agg_runs ht w
 have hld : (loadCells ⟨g, k, none⟩ vs.length).run Tryz.prog w = .ok vs.toArray w := run_loadCells_list w _ vs (fun j v hj => by
  have e : (⟨g, k, none⟩ : Addr).add j = ⟨g, k + j, none⟩ := by unfold Addr.add; split <;> simp_all
  rw [e, hB.cell]
  have hjl : j < vs.length := (List.getElem?_eq_some_iff.1 hj).1
  rw [← hl, List.getElem?_take, if_pos hjl, List.getElem?_drop] at hj
  simpa using hj)
 have hs : (Instr.sureAddr (ev x)).run Tryz.prog w = .ok ⟨g, k, none⟩ w := by rw [hx]; rfl
 simp only [execOp, ho, Instr.loadAt, loadVar, Sem.run_bind, hs, Result.andThen_ok, h1, if_true, h2, hld, Sem.run_pure]
theorem o_storeA {l vs : List Value} (ho : o.op = .store t x y) (hx : ev x = .pointer (some ⟨g, k, none⟩)) (hy : ev y = .agg vs.toArray) (hB : Blk w g l.toArray T) (ht : IsAgg t vs.length) (hfit : k + vs.length ≤ l.length) (h1 : ∀ v ∈ vs, v.oneCell' = true) :
  ∃ w', (execOp ev o).run Tryz.prog w = .ok .skip w' ∧ Blk w' g (l.take k ++ vs ++ l.drop (k + vs.length)).toArray T ∧ BelowX (fun k => k = g) w w' := by
 obtain ⟨_, h2⟩ := agg_runs ht w
 have hst := run_storeCells_at (P := Tryz.prog) g k T vs 0 l.toArray w hB (by simpa using hfit) h1
 have hs : (Instr.sureAddr (ev x)).run Tryz.prog w = .ok ⟨g, k, none⟩ w := by rw [hx]; rfl
 have hc : (Value.agg vs.toArray).cells = vs.toArray := by simp [Value.cells]
 simp only [Nat.add_zero, List.toList_toArray] at hst
 refine ⟨_, ?_, blk_setRow hB, chg_setRow hB⟩
 simp only [execOp, ho, Instr.storeAt, storeVar, Sem.run_bind, hs, Result.andThen_ok, h2, hy, hc, List.size_toArray, ne_eq, not_true, if_false, Sem.run_pure, List.toList_toArray, hst]
theorem o_storeI {l : List Value} (ho : o.op = .store t x y) (hx : ev x = .pointer (some ⟨g, 0, none⟩)) (hy : ev y = .agg (iws kd s).toArray) (hB : Blk w g l.toArray T) (ht : IsAgg t s.length) (hl : l.length = s.length) :
  ∃ w', (execOp ev o).run Tryz.prog w = .ok .skip w' ∧ Blk w' g (iws kd s).toArray T ∧ BelowX (fun k => k = g) w w' := by
 obtain ⟨w', h1, h2, h3⟩ := o_storeA ho hx hy hB (by rw [iws_length]; exact ht) (by rw [iws_length, hl]; omega) (iws_one kd s)
 refine ⟨w', h1, ?_, h3⟩
 have e : l.take 0 ++ iws kd s ++ l.drop (0 + (iws kd s).length) = iws kd s := by
  rw [iws_length, Nat.zero_add, ← hl, List.drop_length]; simp
 rw [e] at h2
 exact h2
theorem o_loadI (ho : o.op = .load t x) (hx : ev x = .pointer (some ⟨g, 0, none⟩)) (hB : Blk w g (iws kd s).toArray T) (ht : IsAgg t s.length) : (execOp ev o).run Tryz.prog w = .ok (.value (.agg (iws kd s).toArray)) w :=
 o_loadA (iws kd s) ho hx hB (by rw [iws_length]; exact ht) (by rw [List.drop_zero]; exact List.take_length)
theorem Own.keepX {w' : World} {B c : Nat} {A : Option Addr} {xs : List Nat} (h : Own w B A c xs) (hB : Blk w g cur T) (hT : T ≠ 5) (hb : BelowX (fun k => k = g) w w') : Own w' B A c xs := by
 refine ⟨⟨h.row.1, ?_⟩, h.b8⟩
 rcases h.row.2 with h0 | ⟨q, cap, cu, hv, hq, hh, r⟩
 ·exact .inl h0
 ·refine .inr ⟨q, cap, cu, hv, hq, ?_, r⟩
  refine (hb.block q (Array.getElem?_eq_some_iff.1 hh).1 (fun e => ?_)).trans hh
  subst e
  unfold Blk at hB
  rw [hh] at hB
  simp only [Option.some.injEq, Obj.cells.injEq] at hB
  exact hT hB.2.1.symm
theorem op_do {P : Program} {ops : Array Oper} {rest : List Oper} {l : List (Tmp × Value)} {R : World → Prop} (hd : o.dst = none) (hg : o.guard = none) (hr : ∃ w', (execOp (putsR a l).eval o).run P w = .ok .skip w' ∧ R w') (h : ∀ w', R w' → wpList P ops Q rest (putsR a l) w') : wpList P ops Q (o :: rest) (putsR a l) w := by
 obtain ⟨w', hr, hR⟩ := hr
 exact op_skip hd hg hr (h w' hR)
end

theorem x_hot {b : Bool} {P : Program} {l : List Oper} {r : List (Tmp × Value)} {N : Nat} {dl : List Deferred} {w0 : World} {id : Nat} (n : Nat) (kd : Nat → HK) (S : Nat → World → Value → Prop) (H : (Nat → Bool) → World → Prop) (X : Nat → Prop)
  (hs : a.tmps.size = N) (hdf : a.defers = dl) (hm : P.follows .mixedOrders = true) (hnd : noDef l.toArray = true) (hd : dstsB2 l kd n N = true) (ht : tailB2 l n = true)
  (hS : ∀ i w w' v, S i w v → BelowX X w w' → S i w' v)
  (hHb : ∀ L w w', H L w → Below w.heap.size w w' → H L w')
  (hHv : ∀ L i w, kd i ≠ .hot → H L w → H (fun k => L k || k == i) w)
  (hfr : ∀ i w v, kd i = .fresh → S i w v → ∃ g, v = .pointer (some ⟨g, 0, none⟩) ∧ g < w.heap.size)
  (h0 : H (fun _ => false) w0)
  (hstep : ∀ i o, i < n → l[i]? = some o → StepHot P l kd S H X Q n (putsR a r) w0 i o)
  (hend : ∀ (L : Nat → Bool) (a' : Act) (w' : World), a'.tmps.size = N → a'.defers = dl → BelowX X w0 w' → (∀ t, (∀ j, j < n → dstOf l j ≠ some t) → a'.eval (.tmp t) = (putsR a r).eval (.tmp t)) →
   (∀ i, i < n → kd i ≠ .hot → ∀ d, dstOf l i = some d → S i w' (a'.eval (.tmp d))) → (∀ i, i < n → L i = true) → H L w' → wpList P l.toArray Q (l.drop n) (putsR a' []) w') :
  WP2 b P (.region id l.toArray true) Q (putsR a r) w0 := by
 refine w2_any hm hnd (region_hotA n kd S H X hm (by rw [putsR_size, hs]; exact hd) ht hS hHb hHv hfr h0 hstep (fun L a' w' hb hsz hdf' hO hV hall hH hap => ?_))
 exact hend L a' w' (by rw [hsz, putsR_size, hs]) (by rw [hdf', putsR_defers, hdf]) hb hO hV hall hH
section
variable {Q : Exit → Act → World → Prop} {a : Act} {w : World} {ops : Array Oper} {rest : List Oper} {l : List (Tmp × Value)} {d : Tmp} {x : Operand} {ty t T : TypeId} {ps : String} {af : Array Edge} {v : Value} {g k : Nat}
theorem q_ld (hx : (putsR a l).eval x = .pointer (some ⟨g, k, none⟩)) (hB : Blk w g cur T) (hv : cur[k]? = some v)
  (h : wpList Tryz.prog ops Q rest (putsR a ((d, v) :: l)) w) (ht : IsOne t := by exact ⟨by kernel_rfl, by kernel_rfl⟩) : wpList Tryz.prog ops Q (⟨some d, .load t x, ty, ps, af, none⟩ :: rest) (putsR a l) w := op_val rfl rfl (o_load1 rfl hx hB hv ht) h
end
end Go.Proofs.YtkhbihnnkflfkaaGreat
