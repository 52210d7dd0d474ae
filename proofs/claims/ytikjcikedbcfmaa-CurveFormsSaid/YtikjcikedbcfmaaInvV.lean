/-
  What 'Inv' yields is the number to the p - 2: what undoes it.
-/
import Derived.Test.YtikjcikedbcfmaaInv
import Derived.Test.YtikjcikedbcfmaaPrime
namespace Go.Proofs.Ytikjcikedbcfmaa
open Go.RowKit
set_option maxRecDepth 100000

/-- The exponent that 'Inv' has reached. -/
def expA : Nat → Nat
  | 0 => 0
  | k + 1 => expA k + expA k + bif bitP (254 - k) then 1 else 0
theorem invAt_pow (x : F) (k : Nat) : invAt x k = fpow x (expA k) := by
  induction k with
  | zero => rfl
  | succ k ih =>
    cases h : bitP (254 - k) with
    | true => rw [invAt_set x k h, ih]; simp only [expA, h, cond_true, fpow, fpow_add]; grind
    | false => rw [invAt_not x k h, ih]; simp only [expA, h, cond_false, Nat.add_zero, fpow_add]
theorem finv_eq (x : F) : finv x = fi x := by
  have e : expA 255 = P - 2 := by decide +kernel
  unfold finv fi
  rw [invAt_pow, e]

theorem Inv_V {x : F} {u : Value} (hu : ElV x u) (w : World) : Calls Try.prog 18 #[u] w fun e w' => ∃ r, e = .returned r ∧ ElV (fi x) r ∧ Below w.heap.size w w' := by
  obtain ⟨a0, a1, a2, a3, a4, rfl, ha⟩ := hu
  exact (Inv_any ha w).mono fun e w' ⟨r0, r1, r2, r3, r4, he, hE, hB⟩ => ⟨_, he, ⟨_, _, _, _, _, rfl, by rw [← finv_eq]; exact hE⟩, hB⟩
end Go.Proofs.Ytikjcikedbcfmaa
