/-
 MapZ · Keys0 · OpsZ, IN ONE TEXT.
-/
import Derived.Test.YtodhdajelnfhpaaGreatCiph
import Derived.Test.YtodhdajelnfhpaaGreatRange
import Derived.Laws.IdiomRangeMap
import Derived.Maps.RangeRun
import Derived.Test.YtodhdajelnfhpaaGreatOps3
/-
 EMPTY MAPS; A RANGE OVER A FUNCTION THAT YIELDS NOTHING; A ROW OF ONE STRUCT.
-/
namespace Go.Proofs.YtodhdajelnfhpaaGreat
open Go.RowKit
set_option linter.unusedVariables false
set_option linter.unusedSimpArgs false
set_option maxRecDepth 100000
/-- An empty map lies at g. -/
def MapZ (w : World) (g : Nat) : Prop := ∃ clock, w.heap[g]? = some (.map #[] clock)
theorem MapZ.lt {w : World} {g : Nat} (h : MapZ w g) : g < w.heap.size := by
 obtain ⟨c, h⟩ := h
 exact (Array.getElem?_eq_some_iff.1 h).1
theorem MapZ.nx {w w' : World} {g : Nat} (h : MapZ w g) (hb : Below w.heap.size w w') : MapZ w' g := by
 have hl := h.lt
 obtain ⟨c, h⟩ := h
 exact ⟨c, (hb.block g hl).trans h⟩
theorem MapZ.keepM {w w' : World} {X : Nat → Prop} {g : Nat} (h : MapZ w g) (hb : BelowX X w w') (hn : ¬ X g) : MapZ w' g := by
 have hl := h.lt
 obtain ⟨c, h⟩ := h
 exact ⟨c, (hb.block g hl hn).trans h⟩
theorem MapZ.ne {w : World} {g k : Nat} {cur : Array Value} {T : TypeId} (h : MapZ w g) (hB : Blk w k cur T) : g ≠ k := by
 rintro rfl
 obtain ⟨c, h⟩ := h
 unfold Blk at hB
 rw [h] at hB
 cases hB
theorem MapZ.nc {B : Nat} {W W' : World} {row : Option Nat} {g : Nat} (h : MapZ W g) (hl : g < B) (hg : W.grownBy W' row) (hr : RowNC B W row) : MapZ W' g := by
 have hlt := h.lt
 obtain ⟨c, h⟩ := h
 exact ⟨c, (hg.block g hlt (fun e => absurd (hr g e.symm).1 (Nat.not_le.2 hl))).trans h⟩
/-- A walk over the map at g has begun at r. -/
def IterZ (w : World) (r g : Nat) : Prop := ∃ c, w.heap[r]? = some (.mapIter (some g) c #[] c)
theorem IterZ.nx {w w' : World} {r g : Nat} (h : IterZ w r g) (hb : Below w.heap.size w w') : IterZ w' r g := by
 obtain ⟨c, h⟩ := h
 exact ⟨c, (hb.block r (Array.getElem?_eq_some_iff.1 h).1).trans h⟩
section
variable {o : Oper} {ev : Operand → Value} {w : World} {x y z : Operand} {T U t : TypeId} {g k : Nat}
theorem o_makeMap (ho : o.op = .makeMap T none) : ∃ u w', (execOp ev o).run Tryz.prog w = .ok (.value u) w' ∧ ∃ g, u = .map (some g) ∧ w.heap.size ≤ g ∧ MapZ w' g ∧ Below w.heap.size w w' := by
 refine ⟨_, w.alloc (.map #[] 0), ?_, w.heap.size, rfl, Nat.le_refl _, ⟨0, heap_alloc_new w _⟩, (Below.refl _ _).alloc (Nat.le_refl _) _⟩
 simp only [execOp, ho, Option.map_none, Sem.run_bind, run_makeMap, Result.andThen_ok, Sem.run_pure]
theorem o_lenM {kt et : TypeId} (ho : o.op = .call { callee := .builtin .len, args := #[x], argTypes := #[T] }) (hx : ev x = .map (some g)) (hT : Tryz.prog.underlying T = some (.map kt et)) (hB : MapZ w g) : (execOp ev o).run Tryz.prog w = .ok (.value (.int .i64 0)) w := by
 obtain ⟨c, hB⟩ := hB
 simp [execOp, ho, hx, go_sem, resolve, invoke, builtin, Builtin.len_, Builtin.lenOf, run_underlying hT, MapKept.run_getObj_map hB]
end
section
variable {b : Bool} {P : Program} {Q : Exit → Act → World → Prop} {a : Act} {w : World}
end
end Go.Proofs.YtodhdajelnfhpaaGreat
/-
 WALKS: the sorted keys of an empty map.
-/
namespace Go.Proofs.YtodhdajelnfhpaaGreat
open Go.RowKit
set_option linter.unusedVariables false
set_option linter.unusedSimpArgs false
set_option maxRecDepth 100000
attribute [local irreducible] wpList wpListIn putsR

section
variable {o : Oper} {ev : Operand → Value} {w : World} {x y z : Operand} {T U t : TypeId} {g k : Nat}
end
section
variable {o : Oper} {ev : Operand → Value} {w : World} {x y z : Operand} {T U t : TypeId} {g k : Nat}
end
end Go.Proofs.YtodhdajelnfhpaaGreat
/-
 OPERATIONS on whole numbers that may be below nought.
-/
namespace Go.Proofs.YtodhdajelnfhpaaGreat
open Go.RowKit
set_option linter.unusedVariables false
set_option linter.unusedSimpArgs false
section
variable {o : Oper} {ev : Operand → Value} {w : World} {x y z : Operand} {T U : TypeId} {m n : Int}
theorem o_subZZ (ho : o.op = .binOp .sub T x y U) (hx : ev x = .int .i64 m) (hy : ev y = .int .i64 n) (h : -9223372036854775808 ≤ m - n ∧ m - n ≤ 9223372036854775807) : (execOp ev o).run Tryz.prog w = .ok (.value (.int .i64 (m - n))) w := by
 have e : IntKind.i64.wrap (m - n) = m - n := IntWalk.i64_in _ h
 simp [execOp, ho, hx, hy, go_sem, e]
theorem o_geqZZ (ho : o.op = .binOp .geq T x y U) (hx : ev x = .int .i64 m) (hy : ev y = .int .i64 n) : (execOp ev o).run Tryz.prog w = .ok (.value (.bool (decide (n ≤ m)))) w := by simp [execOp, ho, hx, hy, go_sem]
end
end Go.Proofs.YtodhdajelnfhpaaGreat
