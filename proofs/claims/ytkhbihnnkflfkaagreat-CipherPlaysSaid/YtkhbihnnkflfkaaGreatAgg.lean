/-
 Aggregates (arrays, structs) whole: what a load and a store of them comes to, as lists of cells.
-/
import Derived.Test.YtkhbihnnkflfkaaGreatRegM
import Derived.Laws.CopyRow
import Derived.ChangeKeysEq
namespace Go.Proofs.YtkhbihnnkflfkaaGreat
open Go.RowKit
set_option maxRecDepth 100000
set_option linter.unusedVariables false
set_option linter.unusedSimpArgs false

variable {T t : TypeId} {o : Oper} {a : Act} {w : World} {x : Operand} {g off : Nat} {l : List Value} {cur cur' : Array Value}
def aggDesc : TypeDesc → Bool
 | .struct _ => true
 | .array _ _ => true
 | _ => false
def IsAgg (t : TypeId) (n : Nat) : Prop := (Tryz.prog.underlying t).map aggDesc = some true ∧ (Tryz.prog.info? t).map (·.size) = some n

theorem agg_runs {n : Nat} (h : IsAgg t n) (w : World) : (isAgg t).run Tryz.prog w = .ok true w ∧ (sizeOf t).run Tryz.prog w = .ok n w := by
 obtain ⟨h1, h2⟩ := h
 constructor
 ·cases hu : Tryz.prog.underlying t with
  | none => rw [hu] at h1; cases h1
  | some d =>
   rw [hu] at h1
   cases d <;> simp [aggDesc] at h1 <;> simp [isAgg, Sem.run_bind, run_underlying hu, Sem.run_pure]
 ·cases hu : Tryz.prog.info? t with
  | none => rw [hu] at h2; cases h2
  | some i =>
   rw [hu] at h2
   have h3 : i.size = n := by simpa using h2
   have e : (typeInfo t).run Tryz.prog w = .ok i w := by simp [typeInfo, hu]
   simp only [sizeOf, Sem.run_bind, e, Result.andThen_ok, Sem.run_pure, h3]

theorem ld_agg (vs : List Value) (ho : o.op = .load t x) (hx : a.eval x = .pointer (some ⟨g, off, none⟩)) (hB : Blk w g l.toArray T)
  (ht : IsAgg t vs.length) (hl : (l.drop off).take vs.length = vs) : (execOp a.eval o).run Tryz.prog w = .ok (.value (.agg vs.toArray)) w := by
 obtain ⟨h1, h2⟩ := agg_runs ht w
 have hld : (loadCells ⟨g, off, none⟩ vs.length).run Tryz.prog w = .ok vs.toArray w := run_loadCells_list w _ vs (fun j v hj => by
  have e : (⟨g, off, none⟩ : Addr).add j = ⟨g, off + j, none⟩ := by unfold Addr.add; split <;> simp_all
  rw [e, hB.cell]
  have hjl : j < vs.length := (List.getElem?_eq_some_iff.1 hj).1
  rw [← hl, List.getElem?_take, if_pos hjl, List.getElem?_drop] at hj
  simpa using hj)
 have hs : (Instr.sureAddr (a.eval x)).run Tryz.prog w = .ok ⟨g, off, none⟩ w := by rw [hx]; rfl
 simp only [execOp, ho, Instr.loadAt, loadVar, Sem.run_bind, hs, Result.andThen_ok, h1, if_true, h2, hld, Sem.run_pure]

theorem blk_setRow (h : Blk w g cur T) : Blk (w.setRow g cur') g cur' T := setRow_heap w g cur cur' T (0, 0) h

theorem chg_setRow (h : Blk w g cur T) : BelowX (fun k => k = g) w (w.setRow g cur') :=
 ⟨rfl, rfl, rfl, by simp [World.setRow], fun k hk hx => by
  have hx' : ¬ g = k := fun e => hx e.symm
  simp [World.setRow, Array.getElem?_modify, hx']⟩

theorem st_agg {y : Operand} {vs : List Value} (ho : o.op = .store t x y) (hx : a.eval x = .pointer (some ⟨g, off, none⟩)) (hy : a.eval y = .agg vs.toArray)
  (hB : Blk w g l.toArray T) (ht : IsAgg t vs.length) (hfit : off + vs.length ≤ l.length) (h1 : ∀ v ∈ vs, v.oneCell' = true) :
  (execOp a.eval o).run Tryz.prog w = .ok .skip (w.setRow g (l.take off ++ vs ++ l.drop (off + vs.length)).toArray) := by
 obtain ⟨_, h2⟩ := agg_runs ht w
 have hst := run_storeCells_at (P := Tryz.prog) g off T vs 0 l.toArray w hB (by simpa using hfit) h1
 have hs : (Instr.sureAddr (a.eval x)).run Tryz.prog w = .ok ⟨g, off, none⟩ w := by rw [hx]; rfl
 have hc : (Value.agg vs.toArray).cells = vs.toArray := by simp [Value.cells]
 simp only [Nat.add_zero, List.toList_toArray] at hst
 simp only [execOp, ho, Instr.storeAt, storeVar, Sem.run_bind, hs, Result.andThen_ok, h2, hy, hc, List.size_toArray, ne_eq, not_true, if_false, Sem.run_pure, List.toList_toArray, hst]
end Go.Proofs.YtkhbihnnkflfkaaGreat
