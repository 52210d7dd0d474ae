/-
  OPERATIONS: a byte stored into a slice of the call's own; an int as a word.
-/
import Derived.Test.YtoiamaljkodlnaaOps7
import Derived.Test.YtoiamaljkodlnaaCell
namespace Go.Proofs.Ytoiamaljkodlnaa
open Go.RowKit
set_option linter.unusedVariables false
set_option linter.unusedSimpArgs false
set_option maxRecDepth 100000
def at64 (z : Int) : Nat := (IntKind.u64.wrap z).toNat
theorem at64_wrap (z : Int) : IntKind.u64.wrap z = ((at64 z : Nat) : Int) := by
  unfold at64
  rw [IntKind.wrap_u64]
  omega
theorem at64_lt (z : Int) : at64 z < 18446744073709551616 := by
  unfold at64
  rw [IntKind.wrap_u64]
  omega
section
variable {o : Oper} {ev : Operand → Value} {w : World} {x y z : Operand} {T U t : TypeId} {g k : Nat}
theorem o_convZ {z : Int} (ho : o.op = .convert T U x) (hx : ev x = .int .i64 z) (hT : ∃ d, ∀ w, (underlying T).run Try.prog w = .ok d w) (hU : ∀ w, (underlying U).run Try.prog w = .ok (.int .u64) w) :
    (execOp ev o).run Try.prog w = .ok (.value (.int .u64 ((at64 z : Nat) : Int))) w := by
  obtain ⟨d, hT⟩ := hT
  rw [← at64_wrap]
  simp [execOp, ho, hx, convert, hT, hU, Sem.run_bind, Sem.run_pure, Conv.intToInt]
theorem o_st8 {A : Option Addr} {base c i v : Nat} {xs : List Nat} (ho : o.op = .store t x y) (hx : ev x = .pointer (atA A i)) (hy : ev y = .int .u8 (v : Int)) (hO : Own w base A c xs) (hi : i < xs.length) (hv : v < 256) (ht : IsOne t) :
    ∃ w', (execOp ev o).run Try.prog w = .ok .skip w' ∧ (Own w' base A c (xs.set i v) ∧ Below base w w') := by
  obtain ⟨g, rfl, hg, hlt, hcell, hfz, hset⟩ := hO.at (by omega)
  obtain ⟨cur, hB, hcur⟩ := hO.blk (by omega)
  have hk : i < cur.size := (Array.getElem?_eq_some_iff.1 (hcur i hi)).1
  have ea : atA (some ⟨g, 0, none⟩) i = some ⟨g, i, none⟩ := by simp [atA, Addr.add_lit]
  rw [ea] at hx
  obtain ⟨_, h2⟩ := one_runs ht w
  have hst := run_storeCells_at (P := Try.prog) g i 5 [Value.int .u8 (v : Int)] 0 cur w hB (by simp; omega) (by simp [Value.oneCell'])
  have hs : (Instr.sureAddr (ev x)).run Try.prog w = .ok ⟨g, i, none⟩ w := by rw [hx]; rfl
  simp only [Nat.add_zero] at hst
  have e : cur.toList.take i ++ [Value.int .u8 (v : Int)] ++ cur.toList.drop (i + [Value.int .u8 (v : Int)].length) = cur.toList.set i (.int .u8 (v : Int)) := by
    rw [List.set_eq_take_append_cons_drop, if_pos (by simpa using hk)]; simp
  rw [e, ← Array.toList_setIfInBounds, Array.toArray_toList, ← setCell_eq_setRow w g i cur 5 (0, 0) _ hB] at hst
  refine ⟨_, ?_, hset i v hi hv, (Below.refl _ _).setCell hg _⟩
  have hvc : (Value.int .u8 (v : Int)).cells = #[.int .u8 (v : Int)] := rfl
  simp only [execOp, ho, Instr.storeAt, storeVar, Sem.run_bind, hs, Result.andThen_ok, h2, hy, hvc, List.size_toArray, List.length_cons, List.length_nil, Nat.zero_add, ne_eq, not_true, if_false, Sem.run_pure, hst]
end
end Go.Proofs.Ytoiamaljkodlnaa
