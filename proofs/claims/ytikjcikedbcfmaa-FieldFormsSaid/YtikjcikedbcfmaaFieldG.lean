/-
  WALKS: sapperlaw5.awake.
-/
import Derived.Test.YtikjcikedbcfmaaFieldF
namespace Go.Proofs.Ytikjcikedbcfmaa
open Go.RowKit
set_option maxRecDepth 100000

theorem toF_258 : (toF 258).val = 258 := by decide +kernel
theorem toF_42 : decide (toF 6 * toF 7 = toF 42) = true := by decide +kernel

set_option maxHeartbeats 2000000 in
theorem awake5_any (w : World) : Calls Try.prog 5 #[] w fun e w' => e = .returned (.bool true) ∧ Below w.heap.size w w' := by
  go_enter Try.func5, Try.ntmps5
  go_wp2_with fail
  refine Calls.mono (Of_any 258 _ (by omega) (by omega)) ?_
  rintro e w1 ⟨a0, a1, a2, a3, a4, rfl, h1, hb1⟩
  dsimp only
  go_wp2_with fail
  refine Calls.mono (Bytes_any h1 _) ?_
  rintro e w2 ⟨g, rfl, hg, B, hb2⟩
  have c0 : w2.cell? ⟨g, 0, none⟩ = some (.int .u8 2) := (B.cell 0).trans ((byteA_get _ _ 0 (by omega)).trans (by rw [toF_258]; rfl))
  have c1 : w2.cell? ⟨g, 1, none⟩ = some (.int .u8 1) := (B.cell 1).trans ((byteA_get _ _ 1 (by omega)).trans (by rw [toF_258]; rfl))
  clear B
  dsimp only
  go_wp2_with fail
  refine Calls.mono (Of_any 6 _ (by omega) (by omega)) ?_
  rintro e w3 ⟨p0, p1, p2, p3, p4, rfl, h6, hb3⟩
  dsimp only
  go_wp2_with fail
  refine Calls.mono (Of_any 7 _ (by omega) (by omega)) ?_
  rintro e w4 ⟨q0, q1, q2, q3, q4, rfl, h7, hb4⟩
  dsimp only
  go_wp2_with fail
  refine Calls.mono (Mul_any h6 h7 _) ?_
  rintro e w5 ⟨r0, r1, r2, r3, r4, rfl, h67, hb5⟩
  dsimp only
  go_wp2_with fail
  refine Calls.mono (Of_any 42 _ (by omega) (by omega)) ?_
  rintro e w6 ⟨s0, s1, s2, s3, s4, rfl, h42, hb6⟩
  dsimp only
  go_wp2_with fail
  refine Calls.mono (Same_any h67 h42 _) ?_
  rintro e w7 ⟨rfl, hb7⟩
  rw [toF_42]
  have HB : Below w.heap.size w w7 := hb1.trans ((hb2.mono hb1.size).trans ((hb3.mono (Nat.le_trans hb1.size hb2.size)).trans ((hb4.mono (Nat.le_trans hb1.size (Nat.le_trans hb2.size hb3.size))).trans ((hb5.mono (Nat.le_trans hb1.size (Nat.le_trans hb2.size (Nat.le_trans hb3.size hb4.size)))).trans ((hb6.mono (Nat.le_trans hb1.size (Nat.le_trans hb2.size (Nat.le_trans hb3.size (Nat.le_trans hb4.size hb5.size))))).trans (hb7.mono (Nat.le_trans hb1.size (Nat.le_trans hb2.size (Nat.le_trans hb3.size (Nat.le_trans hb4.size (Nat.le_trans hb5.size hb6.size)))))))))))
  dsimp only
  go_wp2_with fail
  go_ret
  exact ⟨rfl, HB⟩

end Go.Proofs.Ytikjcikedbcfmaa
