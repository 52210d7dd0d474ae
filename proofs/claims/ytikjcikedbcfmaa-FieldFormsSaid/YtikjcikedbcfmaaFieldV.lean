/-
  Contracts of package field, said of values: 'ElV x v': v is the value of an element that is x.
-/
import Derived.Test.YtikjcikedbcfmaaFieldG
namespace Go.Proofs.Ytikjcikedbcfmaa
open Go.RowKit
set_option maxRecDepth 100000
set_option linter.unusedVariables false
set_option linter.unusedSimpArgs false

theorem Add_V {x y : F} {u v : Value} (hu : ElV x u) (hv : ElV y v) (w : World) : Calls Try.prog 12 #[u, v] w fun e w' => ∃ r, e = .returned r ∧ ElV (x + y) r ∧ Below w.heap.size w w' := by
  obtain ⟨a0, a1, a2, a3, a4, rfl, ha⟩ := hu
  obtain ⟨b0, b1, b2, b3, b4, rfl, hb⟩ := hv
  exact (Add_any ha hb w).mono fun e w' ⟨r0, r1, r2, r3, r4, he, hE, hB⟩ => ⟨_, he, ⟨_, _, _, _, _, rfl, hE⟩, hB⟩
theorem Sub_V {x y : F} {u v : Value} (hu : ElV x u) (hv : ElV y v) (w : World) : Calls Try.prog 14 #[u, v] w fun e w' => ∃ r, e = .returned r ∧ ElV (x - y) r ∧ Below w.heap.size w w' := by
  obtain ⟨a0, a1, a2, a3, a4, rfl, ha⟩ := hu
  obtain ⟨b0, b1, b2, b3, b4, rfl, hb⟩ := hv
  exact (Sub_any ha hb w).mono fun e w' ⟨r0, r1, r2, r3, r4, he, hE, hB⟩ => ⟨_, he, ⟨_, _, _, _, _, rfl, hE⟩, hB⟩
theorem Mul_V {x y : F} {u v : Value} (hu : ElV x u) (hv : ElV y v) (w : World) : Calls Try.prog 16 #[u, v] w fun e w' => ∃ r, e = .returned r ∧ ElV (x * y) r ∧ Below w.heap.size w w' := by
  obtain ⟨a0, a1, a2, a3, a4, rfl, ha⟩ := hu
  obtain ⟨b0, b1, b2, b3, b4, rfl, hb⟩ := hv
  exact (Mul_any ha hb w).mono fun e w' ⟨r0, r1, r2, r3, r4, he, hE, hB⟩ => ⟨_, he, ⟨_, _, _, _, _, rfl, hE⟩, hB⟩
theorem Of_V (n : Int) (w : World) (h0 : 0 ≤ n) (h1 : n < 18446744073709551616) : Calls Try.prog 9 #[.int .u64 n] w fun e w' => ∃ r, e = .returned r ∧ ElV (toF n) r ∧ Below w.heap.size w w' :=
  (Of_any n w h0 h1).mono fun e w' ⟨r0, r1, r2, r3, r4, he, hE, hB⟩ => ⟨_, he, ⟨_, _, _, _, _, rfl, hE⟩, hB⟩
theorem Same_V {x y : F} {u v : Value} (hu : ElV x u) (hv : ElV y v) (w : World) : Calls Try.prog 20 #[u, v] w fun e w' => ∃ r, e = .returned r ∧ r = .bool (decide (x = y)) ∧ Below w.heap.size w w' := by
  obtain ⟨a0, a1, a2, a3, a4, rfl, ha⟩ := hu
  obtain ⟨b0, b1, b2, b3, b4, rfl, hb⟩ := hv
  exact (Same_any ha hb w).mono fun e w' ⟨he, hB⟩ => ⟨_, he, rfl, hB⟩
theorem Same_T {x y : F} {u v : Value} (hu : ElV x u) (hv : ElV y v) (w : World) (h : x = y) : Calls Try.prog 20 #[u, v] w fun e w' => ∃ r, e = .returned r ∧ r = .bool true ∧ Below w.heap.size w w' := by
  have H := Same_V hu hv w
  rwa [decide_eq_true h] at H
theorem awake5_V (w : World) : Calls Try.prog 5 #[] w fun e w' => ∃ r, e = .returned r ∧ r = .bool true ∧ Below w.heap.size w w' :=
  (awake5_any w).mono fun e w' ⟨he, hB⟩ => ⟨_, he, rfl, hB⟩

theorem toF_small {a b : Int} (ha : 0 ≤ a) (ha' : a < 18446744073709551616) (hb : 0 ≤ b) (hb' : b < 18446744073709551616) : (toF a = toF b) = (a = b) := by
  apply propext
  constructor
  · intro h
    have h1 := toF_val a
    have h2 := toF_val b
    rw [h] at h1
    omega
  · intro h; rw [h]

end Go.Proofs.Ytikjcikedbcfmaa
