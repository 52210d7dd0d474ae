/-
 OPERATIONS: words of 64 bits; arrays by value.
-/
import Derived.Test.YtkhbihnnkflfkaaGreatOps2
import Derived.Test.YtkhbihnnkflfkaaGreatHaM
namespace Go.Proofs.YtkhbihnnkflfkaaGreat
open Go.RowKit
set_option linter.unusedVariables false
set_option linter.unusedSimpArgs false
set_option maxRecDepth 100000

variable {u v : Value} {kd : IntKind} {s : List Nat} {i j k : Nat} {x y z : Operand} {w : World} {T : TypeId}
section
variable {o : Oper} {ev : Operand → Value} {w : World} {x y z : Operand} {T U t : TypeId} {g k : Nat}

theorem add64N (x y c : Nat) (hc : c ≤ 1) (w : World) : (callFunc 143 #[.int .u64 (x : Int), .int .u64 (y : Int), .int .u64 (c : Int)]).run Tryz.prog w =
  .ok (.value (.tuple #[.int .u64 (((x + y + c) % 18446744073709551616 : Nat) : Int), .int .u64 (((x + y + c) / 18446744073709551616 : Nat) : Int)])) w := by
 rw [Add64_run x y c (by omega) (by omega) (by omega) (by omega)]
 have e1 : ((x : Int) + y + c) % 18446744073709551616 = (((x + y + c) % 18446744073709551616 : Nat) : Int) := by omega
 have e2 : ((x : Int) + y + c) / 18446744073709551616 = (((x + y + c) / 18446744073709551616 : Nat) : Int) := by omega
 rw [e1, e2]
theorem o_ext {f : FuncId} {args : Array Operand} {tys : Array TypeId} {vs : Array Value} (ho : o.op = .call { callee := .value (.func f), args := args, argTypes := tys }) (hf : ev (.func f) = .func (.func f) #[] #[]) (ha : args.map ev = vs) (hr : (callFunc f vs).run Tryz.prog w = .ok (.value v) w) :
  (execOp ev o).run Tryz.prog w = .ok (.value v) w := by
 subst ha
 simp only [execOp, ho, resolve, hf, invoke, Deferred.ofValue, Sem.run_bind, Sem.run_pure, Result.andThen_ok, Array.empty_append]
 simpa [Sem.run_bind, Sem.run_pure, Result.andThen_ok] using hr
theorem mul64N (x y : Nat) (w : World) (hx : x < 18446744073709551616) (hy : y < 18446744073709551616) :
  Calls Tryz.prog 142 #[.int .u64 (x : Int), .int .u64 (y : Int)] w fun e w' => e = .returned (.tuple #[.int .u64 ((x * y / 18446744073709551616 : Nat) : Int), .int .u64 ((x * y % 18446744073709551616 : Nat) : Int)]) ∧ w = w' := by
 refine (Mul64_any x y w (by omega) (by omega) (by omega) (by omega)).mono ?_
 rintro e w' ⟨h, l, rfl, hW, rfl⟩
 obtain ⟨h0, h1, l0, l1, hn⟩ := hW
 rw [← Int.natCast_mul] at hn
 generalize x * y = z at *
 have e1 : h = ((z / 18446744073709551616 : Nat) : Int) := by omega
 have e2 : l = ((z % 18446744073709551616 : Nat) : Int) := by omega
 rw [e1, e2]
 exact ⟨rfl, rfl⟩

theorem o_boxI (ho : o.op = .box t x) (hx : ev x = .agg (iws kd s).toArray) :
  ∃ u w', (execOp ev o).run Tryz.prog w = .ok (.value u) w' ∧ ∃ g, u = .pointer (some ⟨g, 0, none⟩) ∧ w.heap.size ≤ g ∧ Blk w' g (iws kd s).toArray t ∧ Below w.heap.size w w' := by
 refine ⟨_, w.alloc (.cells (iws kd s).toArray t), ?_, w.heap.size, rfl, Nat.le_refl _, Blk.new w _ _, (Below.refl _ _).alloc (Nat.le_refl _) _⟩
 have hv : (Value.agg (iws kd s).toArray).cells = (iws kd s).toArray := by simp [Value.cells]
 simp only [execOp, ho, hx, Instr.box, newVar, newRow, hv, Sem.run_bind, Sem.run_pure, run_newObj, Result.andThen_ok]
 rfl
theorem o_bld {parts : Array (Nat × Operand)} {vs : Array (Nat × Value)} (ho : o.op = .build T parts) (hp : parts.map (fun (i, x) => (i, ev x)) = vs) (hb : ∀ w : World, (Instr.build T vs).run Tryz.prog w = .ok v w) : (execOp ev o).run Tryz.prog w = .ok (.value v) w := by
 simp only [execOp, ho, hp, hb, Sem.run_bind, Sem.run_pure, Result.andThen_ok]
theorem o_idx {n v : Nat} {e : TypeId} (ho : o.op = .index T x y) (hx : ev x = .agg (iws kd s).toArray) (hy : ev y = .int .i64 (i : Int)) (hi : i < n) (hs : s.length = n) (hv : s.getD i 0 = v) (hT : ∀ w : World, (underlying T).run Tryz.prog w = .ok (.array n e) w) (he : IsOne e) :
  (execOp ev o).run Tryz.prog w = .ok (.value (.int kd (v : Int))) w := by
 have h1 : (i : Int) < (n : Int) := by omega
 have h2 := one_runs he
 have hg : (iws kd s).toArray[i]? = some (.int kd (v : Int)) := by rw [iws_get kd s i (by omega), hv]
 simp only [List.getElem?_toArray] at hg
 simp [execOp, ho, hx, hy, Instr.index, asIntOf, hT, hi, part, h2, hg, Sem.run_bind, Sem.run_pure]
end
section
variable {ev : Operand → Value}
theorem bld1 (h : ev x = u) : #[(i, x)].map (fun (i, x) => (i, ev x)) = #[(i, u)] := by simp [h]
theorem bld2 (h : ev x = u) (h2 : ev y = v) : #[(i, x), (j, y)].map (fun (i, x) => (i, ev x)) = #[(i, u), (j, v)] := by simp [h, h2]
theorem bld3 {t : Value} (h : ev x = u) (h2 : ev y = v) (h3 : ev z = t) : #[(i, x), (j, y), (k, z)].map (fun (i, x) => (i, ev x)) = #[(i, u), (j, v), (k, t)] := by simp [h, h2, h3]
end
theorem bld4 {ev : Operand → Value} {q : Nat} {p : Operand} {t s : Value} (h : ev x = u) (h2 : ev y = v) (h3 : ev z = t) (h4 : ev p = s) : #[(i, x), (j, y), (k, z), (q, p)].map (fun (i, x) => (i, ev x)) = #[(i, u), (j, v), (k, t), (q, s)] := by simp [h, h2, h3, h4]
theorem retC {P : Program} {fn : Func} {R : Ending → World → Prop} {a : Act} {l : List (Tmp × Value)} {t : Tmp} {p : Addr} (hf : fn.results = #[.cell t T]) (hd : a.defers = []) (hv : (putsR a l).eval (.tmp t) = .pointer (some p)) (hl : (loadVar T p).run P w = .ok v w)
  (hR : R (.returned v) w) : bodyPost P fn R .ret (putsR a l) w := by
 refine ⟨by rw [putsR_defers, hd], v, ?_, hR⟩
 have hv' : (putsR a l).tmps.getD t undef = .pointer (some p) := hv
 generalize (putsR a l).tmps = tm at *
 have hv2 : tm[t]?.getD undef = .pointer (some p) := by simpa [Array.getD_eq_getD_getElem?] using hv'
 simp [results, hf, hv2, asAddr, Sem.run_bind, Sem.run_pure, hl]
theorem loadI {g : Nat} {t : TypeId} (hB : Blk w g (iws kd s).toArray T) (ht : IsAgg t s.length) : (loadVar t ⟨g, 0, none⟩).run Tryz.prog w = .ok (.agg (iws kd s).toArray) w := by
 have ht' : IsAgg t (iws kd s).length := by rw [iws_length]; exact ht
 obtain ⟨h1, h2⟩ := agg_runs ht' w
 have hld : (loadCells ⟨g, 0, none⟩ (iws kd s).length).run Tryz.prog w = .ok (iws kd s).toArray w := run_loadCells_list w _ _ (fun j v hj => by
  have e : (⟨g, 0, none⟩ : Addr).add j = ⟨g, 0 + j, none⟩ := by unfold Addr.add; split <;> simp_all
  rw [e, hB.cell]
  simpa using hj)
 simp only [loadVar, Sem.run_bind, Result.andThen_ok, h1, if_true, h2, hld, Sem.run_pure]
end Go.Proofs.YtkhbihnnkflfkaaGreat
