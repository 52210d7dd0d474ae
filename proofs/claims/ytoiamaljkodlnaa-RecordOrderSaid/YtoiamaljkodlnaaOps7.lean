/-
  OPERATIONS: rows of no bytes, of sixteen; strings one behind the other.
-/
import Derived.Test.YtoiamaljkodlnaaOps6
namespace Go.Proofs.Ytoiamaljkodlnaa
open Go.RowKit
set_option linter.unusedVariables false
set_option linter.unusedSimpArgs false
set_option maxRecDepth 100000
theorem strB_append (xs ys : List Nat) : strB (xs ++ ys) = strB xs ++ strB ys := by
  have h : (strB (xs ++ ys)).data = (strB xs ++ strB ys).data := by simp [strB, ByteArray.data_append]
  cases h1 : strB (xs ++ ys); cases h2 : strB xs ++ strB ys
  rw [h1, h2] at h
  simpa using h
section
variable {o : Oper} {ev : Operand → Value} {w : World} {x y z : Operand} {T U t : TypeId} {g k : Nat}
theorem o_build0 (ho : o.op = .buildSlice 22 0 #[]) :
    ∃ v w', (execOp ev o).run Try.prog w = .ok (.value v) w' ∧ ∃ g, v = .slice (some ⟨g, 0, none⟩) 0 0 ∧ Own w' w.heap.size (some ⟨g, 0, none⟩) 0 [] ∧ Below w.heap.size w w' := by
  refine ⟨_, w.alloc (.cells #[] 5), ?_, w.heap.size, rfl, Own.empty (Blk.new w _ _) (Nat.le_refl _), (Below.refl _ _).alloc (Nat.le_refl _) _⟩
  simp [execOp, ho, go_sem]
theorem o_build16 {m n : Nat} (ho : o.op = .buildSlice 22 16 #[(0, .const (.int .u8 0)), (1, .const (.int .u8 0)), (2, .const (.int .u8 0)), (3, .const (.int .u8 0)), (4, .const (.int .u8 0)), (5, .const (.int .u8 0)), (6, .const (.int .u8 0)), (7, .const (.int .u8 0)), (8, x), (9, y), (10, .const (.int .u8 0)), (11, .const (.int .u8 0)), (12, .const (.int .u8 0)), (13, .const (.int .u8 0)), (14, .const (.int .u8 0)), (15, .const (.int .u8 0))])
    (hc : ev (.const (.int .u8 0)) = .int .u8 0) (hx : ev x = .int .u8 (m : Int)) (hy : ev y = .int .u8 (n : Int)) (hm : m < 256) (hn : n < 256) :
    ∃ v w', (execOp ev o).run Try.prog w = .ok (.value v) w' ∧ ∃ g, v = .slice (some ⟨g, 0, none⟩) 16 16 ∧ Own w' w.heap.size (some ⟨g, 0, none⟩) 16 [0, 0, 0, 0, 0, 0, 0, 0, m, n, 0, 0, 0, 0, 0, 0] ∧ Below w.heap.size w w' := by
  refine ⟨_, w.alloc (.cells (u8s [0, 0, 0, 0, 0, 0, 0, 0, m, n, 0, 0, 0, 0, 0, 0]).toArray 5), ?_, w.heap.size, rfl, ?_, (Below.refl _ _).alloc (Nat.le_refl _) _⟩
  · simp [execOp, ho, hx, hy, hc, go_sem, u8s]
  · exact Own.of_blk (xs := [0, 0, 0, 0, 0, 0, 0, 0, m, n, 0, 0, 0, 0, 0, 0]) (Blk.new w _ _) (Nat.le_refl _) (by simp [hm, hn]) (by simp)
theorem o_addS {s r : ByteArray} (ho : o.op = .binOp .add T x y U) (hx : ev x = .string s) (hy : ev y = .string r) (hl : (s ++ r).size ≤ 1000000) : (execOp ev o).run Try.prog w = .ok (.value (.string (s ++ r))) w := by
  rw [ByteArray.size_append] at hl
  have h : s.size + r.size ≤ 9223372036854775807 := by omega
  simp [execOp, ho, hx, hy, go_sem, h]
end
end Go.Proofs.Ytoiamaljkodlnaa
