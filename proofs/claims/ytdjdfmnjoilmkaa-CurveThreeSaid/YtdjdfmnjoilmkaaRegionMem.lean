/-
  A REGION THAT DRAWS ITS ORDER: loads and calls that yield values, new variables of field elements, and what is stored into them.
-/
import Derived.Test.YtdjdfmnjoilmkaaRegionInv
import Derived.Test.YtdjdfmnjoilmkaaFieldV
namespace Go.Proofs.Ytdjdfmnjoilmkaa
open Go.RowKit
set_option linter.unusedVariables false

/-- Cells that are an element's. -/
def ElC (x : F) (cur : Array Value) : Prop := ∃ a0 a1 a2 a3 a4 : Int, cur = #[.int .u64 a0, .int .u64 a1, .int .u64 a2, .int .u64 a3, .int .u64 a4] ∧ El x a0 a1 a2 a3 a4

theorem exec_alloc_elem {o : Oper} (ho : o.op = .alloc 26) (a : Act) (w : World) :
    (execOp a.eval o).run Try.prog w = .ok (.value (.pointer (some ⟨w.heap.size, 0, none⟩))) (w.alloc (.cells #[.int .u64 0, .int .u64 0, .int .u64 0, .int .u64 0, .int .u64 0] 26)) := by
  generalize a.eval = ev
  simp [execOp, ho, go_sem]

set_option maxHeartbeats 2000000 in
theorem exec_store_elem {o : Oper} {a : Act} {w : World} {x y : Operand} {g : Nat} {a0 a1 a2 a3 a4 : Int} {c0 c1 c2 c3 c4 : Value} (ho : o.op = .store 26 x y) (hx : a.eval x = .pointer (some ⟨g, 0, none⟩))
    (hy : a.eval y = .agg #[.int .u64 a0, .int .u64 a1, .int .u64 a2, .int .u64 a3, .int .u64 a4]) (hB : Blk w g #[c0, c1, c2, c3, c4] 26) :
    ∃ w', (execOp a.eval o).run Try.prog w = .ok .skip w' ∧ Blk w' g #[.int .u64 a0, .int .u64 a1, .int .u64 a2, .int .u64 a3, .int .u64 a4] 26 ∧
      w'.os = w.os ∧ w'.tape = w.tape ∧ w'.output = w.output ∧ w'.heap.size = w.heap.size ∧ ∀ k, k ≠ g → w'.heap[k]? = w.heap[k]? := by
  have hc := hB.cell
  have hf := hB.free
  generalize a.eval = ev at hx hy ⊢
  refine ⟨(((((w.setCell ⟨g, 0, none⟩ (.int .u64 a0)).setCell ⟨g, 1, none⟩ (.int .u64 a1)).setCell ⟨g, 2, none⟩ (.int .u64 a2)).setCell ⟨g, 3, none⟩ (.int .u64 a3)).setCell ⟨g, 4, none⟩ (.int .u64 a4)), ?_, ?_, rfl, rfl, rfl, by simp [World.setCell], fun k hk => ?_⟩
  · simp [execOp, ho, hx, hy, go_sem, hc, hf]
  · have h := ((((hB.set 0 (.int .u64 a0)).set 1 (.int .u64 a1)).set 2 (.int .u64 a2)).set 3 (.int .u64 a3)).set 4 (.int .u64 a4)
    simpa using h
  · rw [Below.heap_setCell _ _ _ _ hk, Below.heap_setCell _ _ _ _ hk, Below.heap_setCell _ _ _ _ hk, Below.heap_setCell _ _ _ _ hk, Below.heap_setCell _ _ _ _ hk]

end Go.Proofs.Ytdjdfmnjoilmkaa
