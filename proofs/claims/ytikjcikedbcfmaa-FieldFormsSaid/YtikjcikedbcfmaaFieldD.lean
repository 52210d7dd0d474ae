/-
  WALKS: package field: reduced.
-/
import Derived.Test.YtikjcikedbcfmaaFieldC
namespace Go.Proofs.Ytikjcikedbcfmaa
open Go.RowKit
set_option maxRecDepth 100000

/-- What 'reduced' comes to, by limbs. -/
def q5 (r0 r1 r2 r3 r4 : Int) : Int := (r4 + (r3 + (r2 + (r1 + (r0 + 19) / 2251799813685248) / 2251799813685248) / 2251799813685248) / 2251799813685248) / 2251799813685248

theorem divB (x : Int) : ∃ u v : Int, x = 2251799813685248 * u + v ∧ 0 ≤ v ∧ v < 2251799813685248 ∧ x / 2251799813685248 = u := ⟨x / 2251799813685248, x % 2251799813685248, by omega, by omega, by omega, rfl⟩

theorem reduced_num (r0 r1 r2 r3 r4 : Int) (l0 : 0 ≤ r0) (h0 : r0 < 2251799813685267) (l1 : 0 ≤ r1) (h1 : r1 < 2251799813685249) (l2 : 0 ≤ r2) (h2 : r2 < 2251799813685249) (l3 : 0 ≤ r3) (h3 : r3 < 2251799813685249) (l4 : 0 ≤ r4) (h4 : r4 < 2251799813685249) :
    S5 ((r0 + q5 r0 r1 r2 r3 r4 * 19) % 2251799813685248) ((r1 + (r0 + q5 r0 r1 r2 r3 r4 * 19) / 2251799813685248) % 2251799813685248) ((r2 + (r1 + (r0 + q5 r0 r1 r2 r3 r4 * 19) / 2251799813685248) / 2251799813685248) % 2251799813685248)
      ((r3 + (r2 + (r1 + (r0 + q5 r0 r1 r2 r3 r4 * 19) / 2251799813685248) / 2251799813685248) / 2251799813685248) % 2251799813685248) ((r4 + (r3 + (r2 + (r1 + (r0 + q5 r0 r1 r2 r3 r4 * 19) / 2251799813685248) / 2251799813685248) / 2251799813685248) / 2251799813685248) % 2251799813685248)
      = S5 r0 r1 r2 r3 r4 % 57896044618658097711785492504343953926634992332820282019728792003956564819949 := by
  have hq : q5 r0 r1 r2 r3 r4 = (S5 r0 r1 r2 r3 r4 + 19) / 57896044618658097711785492504343953926634992332820282019728792003956564819968 ∧ 0 ≤ q5 r0 r1 r2 r3 r4 ∧ q5 r0 r1 r2 r3 r4 ≤ 1 := by
    unfold q5
    obtain ⟨u1, v0, e1, p1, p2, f1⟩ := divB (r0 + 19)
    rw [f1]
    obtain ⟨u2, v1, e2, p3, p4, f2⟩ := divB (r1 + u1)
    rw [f2]
    obtain ⟨u3, v2, e3, p5, p6, f3⟩ := divB (r2 + u2)
    rw [f3]
    obtain ⟨u4, v3, e4, p7, p8, f4⟩ := divB (r3 + u3)
    rw [f4]
    obtain ⟨u5, v4, e5, p9, p10, f5⟩ := divB (r4 + u4)
    rw [f5]
    clear f1 f2 f3 f4 f5
    refine ⟨?_, by omega, by omega⟩
    have hN : S5 r0 r1 r2 r3 r4 + 19 = 57896044618658097711785492504343953926634992332820282019728792003956564819968 * u5 + (v0 + 2251799813685248 * v1 + 5070602400912917605986812821504 * v2 + 11417981541647679048466287755595961091061972992 * v3 + 25711008708143844408671393477458601640355247900524685364822016 * v4) := by
      unfold S5; omega
    rw [hN]
    have b1 : 0 ≤ v0 + 2251799813685248 * v1 + 5070602400912917605986812821504 * v2 + 11417981541647679048466287755595961091061972992 * v3 + 25711008708143844408671393477458601640355247900524685364822016 * v4 := by omega
    have b2 : v0 + 2251799813685248 * v1 + 5070602400912917605986812821504 * v2 + 11417981541647679048466287755595961091061972992 * v3 + 25711008708143844408671393477458601640355247900524685364822016 * v4 < 57896044618658097711785492504343953926634992332820282019728792003956564819968 := by omega
    generalize v0 + 2251799813685248 * v1 + 5070602400912917605986812821504 * v2 + 11417981541647679048466287755595961091061972992 * v3 + 25711008708143844408671393477458601640355247900524685364822016 * v4 = V at *
    clear hN e1 e2 e3 e4 e5
    omega
  obtain ⟨hq, hq0, hq2⟩ := hq
  have hS : S5 r0 r1 r2 r3 r4 < 58000000000000000000000000000000000000000000000000000000000000000000000000000 := by unfold S5; omega
  have hS0 : 0 ≤ S5 r0 r1 r2 r3 r4 := by unfold S5; omega
  have hm : S5 r0 r1 r2 r3 r4 % 57896044618658097711785492504343953926634992332820282019728792003956564819949 = (S5 r0 r1 r2 r3 r4 + 19 * q5 r0 r1 r2 r3 r4) % 57896044618658097711785492504343953926634992332820282019728792003956564819968 := by
    generalize q5 r0 r1 r2 r3 r4 = q at *
    generalize S5 r0 r1 r2 r3 r4 = s at *
    clear l0 h0 l1 h1 l2 h2 l3 h3 l4 h4
    have : q = 0 ∨ q = 1 := by omega
    rcases this with rfl | rfl <;> omega
  rw [hm]
  generalize q5 r0 r1 r2 r3 r4 = q at *
  clear hm hq hS hS0
  obtain ⟨u1, v0, e1, p1, p2, f1⟩ := divB (r0 + q * 19)
  obtain ⟨u2, v1, e2, p3, p4, f2⟩ := divB (r1 + u1)
  obtain ⟨u3, v2, e3, p5, p6, f3⟩ := divB (r2 + u2)
  obtain ⟨u4, v3, e4, p7, p8, f4⟩ := divB (r3 + u3)
  obtain ⟨u5, v4, e5, p9, p10, f5⟩ := divB (r4 + u4)
  rw [f1, f2, f3, f4]
  have m1 : (r0 + q * 19) % 2251799813685248 = v0 := by omega
  have m2 : (r1 + u1) % 2251799813685248 = v1 := by omega
  have m3 : (r2 + u2) % 2251799813685248 = v2 := by omega
  have m4 : (r3 + u3) % 2251799813685248 = v3 := by omega
  have m5 : (r4 + u4) % 2251799813685248 = v4 := by omega
  rw [m1, m2, m3, m4, m5]
  clear f1 f2 f3 f4 f5 m1 m2 m3 m4 m5
  have hN : S5 r0 r1 r2 r3 r4 + 19 * q = 57896044618658097711785492504343953926634992332820282019728792003956564819968 * u5 + S5 v0 v1 v2 v3 v4 := by
    unfold S5; omega
  rw [hN]
  have b1 : 0 ≤ S5 v0 v1 v2 v3 v4 := by unfold S5; omega
  have b2 : S5 v0 v1 v2 v3 v4 < 57896044618658097711785492504343953926634992332820282019728792003956564819968 := by unfold S5; omega
  generalize S5 v0 v1 v2 v3 v4 = V at *
  clear hN e1 e2 e3 e4 e5
  omega

theorem fld_l (x0 x1 x2 x3 x4 : Int) (w : World) : (Instr.field 27 (.agg #[.int .u64 x0, .int .u64 x1, .int .u64 x2, .int .u64 x3, .int .u64 x4]) 0).run Try.prog w = .ok (.agg #[.int .u64 x0, .int .u64 x1, .int .u64 x2, .int .u64 x3, .int .u64 x4]) w := by kernel_rfl

/-- The least limbs of a number of the field. -/
structure Can (x : F) (r0 r1 r2 r3 r4 : Int) : Prop where
  l0 : 0 ≤ r0
  h0 : r0 < 2251799813685248
  l1 : 0 ≤ r1
  h1 : r1 < 2251799813685248
  l2 : 0 ≤ r2
  h2 : r2 < 2251799813685248
  l3 : 0 ≤ r3
  h3 : r3 < 2251799813685248
  l4 : 0 ≤ r4
  h4 : r4 < 2251799813685248
  num : S5 r0 r1 r2 r3 r4 = (x.val : Nat)

theorem carried_tight {x : F} {a0 a1 a2 a3 a4 : Int} (ha : El x a0 a1 a2 a3 a4) (w : World) :
    Calls Try.prog 34 #[.agg #[.int .u64 a0, .int .u64 a1, .int .u64 a2, .int .u64 a3, .int .u64 a4]] w fun e w' =>
      ∃ r0 r1 r2 r3 r4 : Int, e = .returned (.agg #[.int .u64 r0, .int .u64 r1, .int .u64 r2, .int .u64 r3, .int .u64 r4]) ∧ (0 ≤ r0 ∧ r0 < 2251799813685267 ∧ 0 ≤ r1 ∧ r1 < 2251799813685249 ∧ 0 ≤ r2 ∧ r2 < 2251799813685249 ∧ 0 ≤ r3 ∧ r3 < 2251799813685249 ∧ 0 ≤ r4 ∧ r4 < 2251799813685249) ∧ Hid (toF (S5 r0 r1 r2 r3 r4) = x) ∧ Below w.heap.size w w' :=
  (carried_raw a0 a1 a2 a3 a4 w).mono fun _ _ ⟨he, hb⟩ => ⟨_, _, _, _, _, he, by
    obtain ⟨la0, ha0, la1, ha1, la2, ha2, la3, ha3, la4, ha4, hx⟩ := ha
    have e0 : c0 a0 a4 = a0 % 2251799813685248 + a4 / 2251799813685248 * 19 := by unfold c0; rw [and51 a0 la0 (by omega), wrap64u, wrap64u]; omega
    have ec : ∀ x y : Int, 0 ≤ x → x < 18446744073709551616 → 0 ≤ y → y < 18446744073709551616 → c1 x y = x % 2251799813685248 + y / 2251799813685248 := by
      intro x y a b c d
      unfold c1; rw [and51 x a b, wrap64u]; omega
    rw [e0, ec a1 a0 la1 (by omega) la0 (by omega), ec a2 a1 la2 (by omega) la1 (by omega), ec a3 a2 la3 (by omega) la2 (by omega), ec a4 a3 la4 (by omega) la3 (by omega)]
    refine ⟨by omega, by omega, by omega, by omega, by omega, by omega, by omega, by omega, by omega, by omega⟩, by
    obtain ⟨la0, ha0, la1, ha1, la2, ha2, la3, ha3, la4, ha4, hx⟩ := ha
    have h := carried_El a0 a1 a2 a3 a4 la0 (by omega) la1 (by omega) la2 (by omega) la3 (by omega) la4 (by omega)
    exact h.num.trans hx, hb⟩

set_option maxHeartbeats 4000000 in
theorem reduced_any {x : F} {a0 a1 a2 a3 a4 : Int} (ha : El x a0 a1 a2 a3 a4) (w : World) :
    Calls Try.prog 43 #[.agg #[.int .u64 a0, .int .u64 a1, .int .u64 a2, .int .u64 a3, .int .u64 a4]] w fun e w' =>
      ∃ r0 r1 r2 r3 r4 : Int, e = .returned (.agg #[.int .u64 r0, .int .u64 r1, .int .u64 r2, .int .u64 r3, .int .u64 r4]) ∧ Can x r0 r1 r2 r3 r4 ∧ Below w.heap.size w w' := by
  go_enter Try.func43, Try.ntmps43
  go_wp2_with fail
  refine Calls.mono (carried_tight ha _) ?_
  rintro e w1 ⟨r0, r1, r2, r3, r4, rfl, ⟨l0, h0, l1, h1, l2, h2, l3, h3, l4, h4⟩, hx, hb⟩
  have B2 : Blk w1 (w.heap.size + 1) #[.int .u64 0, .int .u64 0, .int .u64 0, .int .u64 0, .int .u64 0] 25 := hb.blk (Blk.at (w := w.alloc _) _ _ (by simp)) (by simp)
  have HB : Below w.heap.size w w1 := by repeat' first | (with_reducible exact Below.refl _ _) | (with_reducible refine Below.setCell ?_ (by first | (simp; done) | (simp; omega) | omega) _) | (with_reducible refine Below.alloc ?_ (by first | (simp; done) | (simp; omega) | omega) _) | (with_reducible refine Below.drew ?_) | (with_reducible refine Below.trans ?_ (Below.mono (by assumption) (by first | (simp; done) | (simp; omega) | omega)))
  have z1 := B2.lt
  have c2 := B2.cell
  have f2 := B2.free
  have fl := fld_l r0 r1 r2 r3 r4
  have i0 := idx5_0 r0 r1 r2 r3 r4
  have i1 := idx5_1 r0 r1 r2 r3 r4
  have i2 := idx5_2 r0 r1 r2 r3 r4
  have i3 := idx5_3 r0 r1 r2 r3 r4
  have i4 := idx5_4 r0 r1 r2 r3 r4
  clear hb
  dsimp only
  go_wp2_with fail
  refine wp_loop_rounds 6 ?_
  refine rounds_step ?_
  go_wp2_with fail
  refine rounds_step ?_
  go_wp2_with fail
  refine rounds_step ?_
  go_wp2_with fail
  refine rounds_step ?_
  go_wp2_with fail
  refine rounds_step ?_
  go_wp2_with fail
  refine rounds_step ?_
  go_wp2_with fail
  refine wp_loop_rounds 6 ?_
  refine rounds_step ?_
  go_wp2_with fail
  refine rounds_step ?_
  go_wp2_with fail
  refine rounds_step ?_
  go_wp2_with fail
  refine rounds_step ?_
  go_wp2_with fail
  refine rounds_step ?_
  go_wp2_with fail
  refine rounds_step ?_
  go_wp2_with fail
  refine bodyPost_ret (v := .agg #[.int .u64 (bits .and .u64 (r0 + q5 r0 r1 r2 r3 r4 * 19) 2251799813685247), .int .u64 (bits .and .u64 (r1 + (r0 + q5 r0 r1 r2 r3 r4 * 19) / 2251799813685248) 2251799813685247), .int .u64 (bits .and .u64 (r2 + (r1 + (r0 + q5 r0 r1 r2 r3 r4 * 19) / 2251799813685248) / 2251799813685248) 2251799813685247), .int .u64 (bits .and .u64 (r3 + (r2 + (r1 + (r0 + q5 r0 r1 r2 r3 r4 * 19) / 2251799813685248) / 2251799813685248) / 2251799813685248) 2251799813685247), .int .u64 (bits .and .u64 (r4 + (r3 + (r2 + (r1 + (r0 + q5 r0 r1 r2 r3 r4 * 19) / 2251799813685248) / 2251799813685248) / 2251799813685248) / 2251799813685248) 2251799813685247)]) ?_ rfl ⟨_, _, _, _, _, rfl, ?_, ?_⟩
  · simp [results, Try.results43, go_sem, c2, z1, q5]
  · have hn := reduced_num r0 r1 r2 r3 r4 l0 h0 l1 h1 l2 h2 l3 h3 l4 h4
    have hv : ((x.val : Nat) : Int) = S5 r0 r1 r2 r3 r4 % 57896044618658097711785492504343953926634992332820282019728792003956564819949 := by
      rw [← hx.out]; exact toF_val _
    have q0 : 0 ≤ q5 r0 r1 r2 r3 r4 := by unfold q5; omega
    have q1 : q5 r0 r1 r2 r3 r4 < 100 := by unfold q5; omega
    rw [← hv] at hn
    clear hv c2 f2 fl i0 i1 i2 i3 i4
    generalize q5 r0 r1 r2 r3 r4 = q at *
    rw [and51 (r0 + q * 19) (by omega) (by omega), and51 (r1 + (r0 + q * 19) / 2251799813685248) (by omega) (by omega), and51 (r2 + (r1 + (r0 + q * 19) / 2251799813685248) / 2251799813685248) (by omega) (by omega), and51 (r3 + (r2 + (r1 + (r0 + q * 19) / 2251799813685248) / 2251799813685248) / 2251799813685248) (by omega) (by omega), and51 (r4 + (r3 + (r2 + (r1 + (r0 + q * 19) / 2251799813685248) / 2251799813685248) / 2251799813685248) / 2251799813685248) (by omega) (by omega)]
    exact ⟨by omega, by omega, by omega, by omega, by omega, by omega, by omega, by omega, by omega, by omega, hn⟩
  · repeat' first | (with_reducible exact Below.refl _ _) | (with_reducible refine Below.setCell ?_ (by first | (simp; done) | (simp; omega) | omega) _) | (with_reducible refine Below.alloc ?_ (by first | (simp; done) | (simp; omega) | omega) _) | (with_reducible refine Below.drew ?_) | (with_reducible refine Below.trans ?_ (Below.mono (by assumption) (by first | (simp; done) | (simp; omega) | omega)))

end Go.Proofs.Ytikjcikedbcfmaa
