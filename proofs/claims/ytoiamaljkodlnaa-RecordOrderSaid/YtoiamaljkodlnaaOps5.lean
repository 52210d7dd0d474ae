/-
  OPERATIONS: a text's bytes written out, strings of bytes, their equality.
-/
import Derived.Test.YtoiamaljkodlnaaOps4
import Derived.Lib.SlBytesConst
namespace Go.Proofs.Ytoiamaljkodlnaa
open Go.RowKit
set_option linter.unusedVariables false
set_option linter.unusedSimpArgs false
set_option maxRecDepth 100000
section
variable {o : Oper} {ev : Operand → Value} {w : World} {x y z : Operand} {T U t : TypeId} {g k : Nat}
/-- A row of bytes written out, its mark to come. -/
theorem o_lit {n : Nat} {ps : Array (Nat × Operand)} {C : Array Value} (ho : o.op = .buildSlice 22 n ps) (hr : (execOp ev o).run Try.prog w = .ok (.value (.slice (some ⟨w.heap.size, 0, none⟩) n n)) (w.alloc (.cells C 5))) :
    ∃ v w', (execOp ev o).run Try.prog w = .ok (.value v) w' ∧ (v = .slice (some ⟨w.heap.size, 0, none⟩) n n ∧ w' = w.alloc (.cells C 5)) := ⟨_, _, hr, rfl, rfl⟩
theorem o_lit3 {m n p : Nat} (ho : o.op = .buildSlice 22 3 #[(0, x), (1, y), (2, z)]) (hx : ev x = .int .u8 (m : Int)) (hy : ev y = .int .u8 (n : Int)) (hz : ev z = .int .u8 (p : Int)) :
    ∃ v w', (execOp ev o).run Try.prog w = .ok (.value v) w' ∧ (v = .slice (some ⟨w.heap.size, 0, none⟩) 3 3 ∧ w' = w.alloc (.cells (u8s [m, n, p]).toArray 5)) := by
  refine o_lit ho ?_
  simp [execOp, ho, hx, hy, hz, go_sem, u8s]
/-- .. and marked. -/
theorem o_mark {n : Nat} {xs : List Nat} (ho : o.op = .convert 22 22 x) (hx : ev x = .slice (some ⟨w.heap.size, 0, none⟩) n n) (hn : xs.length = n) (h8 : ∀ q ∈ xs, q < 256) (hl : n ≤ 1000000) :
    ∃ v w', (execOp ev o).run Try.prog (w.alloc (.cells (u8s xs).toArray 5)) = .ok (.value v) w' ∧ ∃ A, v = .slice A n n ∧ Bs w' A n xs ∧ Below w.heap.size w w' := by
  have h := Lib.run_convert_bytes_const (P := Try.prog) w 22 5 (u8s xs).toArray n n (by kernel_rfl) (by kernel_rfl)
  refine ⟨_, w.alloc (.cells (u8s xs).toArray 5 ((u8s xs).toArray.size, (u8s xs).toArray.size + 1)), ?_, some ⟨w.heap.size, 0, none⟩, rfl, ⟨by omega, by unfold maxLen; omega, h8, .inr ⟨w.heap.size, 0, rfl, fun i hi => ?_⟩⟩, (Below.refl _ _).alloc (Nat.le_refl _) _⟩
  · simp only [execOp, ho, hx, Sem.run_bind, h]
    rfl
  · rw [Go.World.cell?_alloc_mark]
    simp only [u8s, List.getElem?_toArray, List.getElem?_map, Nat.zero_add, List.getElem?_eq_getElem hi, List.getD_eq_getElem?_getD, Option.map_some, Option.getD_some]
theorem o_str {A : Option Addr} {n c : Nat} {xs : List Nat} (ho : o.op = .convert 22 9 x) (hx : ev x = .slice A n c) (hB : Bs w A c xs) (hn : xs.length = n) :
    (execOp ev o).run Try.prog w = .ok (.value (.string (strB xs))) w := by
  subst hn
  have h := conv_str hB
  simp only [execOp, ho, hx, Sem.run_bind, h]
  rfl
theorem o_eqS {s r : ByteArray} (ho : o.op = .binOp .eql T x y U) (hx : ev x = .string s) (hy : ev y = .string r) (hb : s = r) : (execOp ev o).run Try.prog w = .ok (.value (.bool true)) w := by
  subst hb
  simp [execOp, ho, hx, hy, go_sem]
theorem o_neS {s r : ByteArray} (ho : o.op = .binOp .neq T x y U) (hx : ev x = .string s) (hy : ev y = .string r) (hb : s = r) : (execOp ev o).run Try.prog w = .ok (.value (.bool false)) w := by
  subst hb
  simp [execOp, ho, hx, hy, go_sem]
end
end Go.Proofs.Ytoiamaljkodlnaa
