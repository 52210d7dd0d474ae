/-
  OPERATIONS on whole numbers that may be below nought.
-/
import Derived.Test.YtggalcdkfielkaaOps3
namespace Go.Proofs.Ytggalcdkfielkaa
open Go.RowKit
set_option maxRecDepth 100000
set_option linter.unusedVariables false
set_option linter.unusedSimpArgs false
theorem and_m16 (x : Nat) : x &&& 65535 = x % 65536 := Nat.and_two_pow_sub_one_eq_mod x 16
theorem and_m15 (x : Nat) : x &&& 32767 = x % 32768 := Nat.and_two_pow_sub_one_eq_mod x 15
theorem bits_m16 (z : Int) : bits .and .i64 z 65535 = z % 65536 := by
  have e : bits .and .i64 z 65535 = IntKind.i64.wrap ((BitVec.ofInt 64 z &&& BitVec.ofInt 64 65535).toNat : Int) := rfl
  have h1 : (BitVec.ofInt 64 65535).toNat = 65535 := by decide
  have h2 : (BitVec.ofInt 64 z &&& BitVec.ofInt 64 65535).toNat = (BitVec.ofInt 64 z).toNat % 65536 := by rw [BitVec.toNat_and, h1]; exact and_m16 _
  have h3 : (BitVec.ofInt 64 z).toNat = (z % ((2 ^ 64 : Nat) : Int)).toNat := BitVec.toNat_ofInt ..
  rw [e, h2, h3, IntWalk.i64_in _ (by omega)]
  omega
section
variable {o : Oper} {ev : Operand → Value} {w : World} {x y z : Operand} {T U : TypeId} {m n : Int}
theorem o_addZZ (ho : o.op = .binOp .add T x y U) (hx : ev x = .int .i64 m) (hy : ev y = .int .i64 n) (h : -9223372036854775808 ≤ m + n ∧ m + n ≤ 9223372036854775807) : (execOp ev o).run Try.prog w = .ok (.value (.int .i64 (m + n))) w := by
  have e : IntKind.i64.wrap (m + n) = m + n := IntWalk.i64_in _ h
  simp [execOp, ho, hx, hy, go_sem, e]
theorem o_subZZ (ho : o.op = .binOp .sub T x y U) (hx : ev x = .int .i64 m) (hy : ev y = .int .i64 n) (h : -9223372036854775808 ≤ m - n ∧ m - n ≤ 9223372036854775807) : (execOp ev o).run Try.prog w = .ok (.value (.int .i64 (m - n))) w := by
  have e : IntKind.i64.wrap (m - n) = m - n := IntWalk.i64_in _ h
  simp [execOp, ho, hx, hy, go_sem, e]
theorem o_geqZZ (ho : o.op = .binOp .geq T x y U) (hx : ev x = .int .i64 m) (hy : ev y = .int .i64 n) : (execOp ev o).run Try.prog w = .ok (.value (.bool (decide (n ≤ m)))) w := by simp [execOp, ho, hx, hy, go_sem]
theorem o_lssZZ (ho : o.op = .binOp .lss T x y U) (hx : ev x = .int .i64 m) (hy : ev y = .int .i64 n) : (execOp ev o).run Try.prog w = .ok (.value (.bool (decide (m < n)))) w := by simp [execOp, ho, hx, hy, go_sem]
theorem o_andZ (ho : o.op = .binOp .and T x y U) (hx : ev x = .int .i64 m) (hy : ev y = .int .i64 65535) : (execOp ev o).run Try.prog w = .ok (.value (.int .i64 (m % 65536))) w := by
  have e := bits_m16 m
  simp [execOp, ho, hx, hy, go_sem, e]
theorem o_shrZ {k' : IntKind} (ho : o.op = .binOp .shr T x y U) (hx : ev x = .int .i64 m) (hy : ev y = .int k' 16) : (execOp ev o).run Try.prog w = .ok (.value (.int .i64 (m / 65536))) w := by
  have e : m.fdiv 65536 = m / 65536 := Int.fdiv_eq_ediv_of_nonneg _ (by decide)
  have hmin : min 16 IntKind.i64.bits = 16 := by decide
  simp [execOp, ho, hx, hy, eqGuard, binOp, Op.shift, hmin, e, Sem.run_bind, Sem.run_pure]
theorem o_convZN (ho : o.op = .convert T U x) (hx : ev x = .int .i64 m) (hT : ∃ d, ∀ w, (underlying T).run Try.prog w = .ok d w) (hU : ∀ w, (underlying U).run Try.prog w = .ok (.int .u64) w) (h : 0 ≤ m) (h2 : m < 9223372036854775808) :
    (execOp ev o).run Try.prog w = .ok (.value (.int .u64 ((m.toNat : Nat) : Int))) w := by
  obtain ⟨d, hT⟩ := hT
  have e : IntKind.u64.wrap m = ((m.toNat : Nat) : Int) := by rw [IntKind.wrap_u64]; omega
  simp only [execOp, ho, hx, convert, hT, hU, Sem.run_bind, Sem.run_pure, Conv.intToInt, Result.andThen_ok, e]
end
end Go.Proofs.Ytggalcdkfielkaa
