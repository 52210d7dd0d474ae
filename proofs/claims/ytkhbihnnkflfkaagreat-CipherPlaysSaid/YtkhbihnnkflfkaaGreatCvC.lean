/-
 FieldD · BytesMath · FieldE · Equal · FieldF · FieldG · FieldV · Inv · InvV: WHAT Mult_pl, Base_any NEED OF THEM (printed by sub.py).
-/
import Derived.Test.YtkhbihnnkflfkaaGreatHaM
import Derived.Test.YtkhbihnnkflfkaaGreatBytes1
import Derived.Test.YtkhbihnnkflfkaaGreatAnyM
import Derived.Test.YtkhbihnnkflfkaaGreatCvB
namespace Go.Proofs.YtkhbihnnkflfkaaGreat
open Go.RowKit
set_option linter.unusedVariables false
set_option linter.unusedSimpArgs false
set_option maxRecDepth 100000
set_option linter.constructorNameAsVariable false

variable {a0 a1 a2 a3 a4 : Int} {u v : Value} {w : World} {g' : Nat} {T : TypeId}
def q5 (r0 r1 r2 r3 r4 : Int) : Int := (r4 + (r3 + (r2 + (r1 + (r0 + 19) / 2251799813685248) / 2251799813685248) / 2251799813685248) / 2251799813685248) / 2251799813685248
theorem divB (x : Int) : ∃ u v : Int, x = 2251799813685248 * u + v ∧ 0 ≤ v ∧ v < 2251799813685248 ∧ x / 2251799813685248 = u := ⟨x / 2251799813685248, x % 2251799813685248, by omega, by omega, by omega, rfl⟩
theorem reduced_num (r0 r1 r2 r3 r4 : Int) (l0 : 0 ≤ r0) (h0 : r0 < 2251799813685267) (l1 : 0 ≤ r1) (h1 : r1 < 2251799813685249) (l2 : 0 ≤ r2) (h2 : r2 < 2251799813685249) (l3 : 0 ≤ r3) (h3 : r3 < 2251799813685249) (l4 : 0 ≤ r4) (h4 : r4 < 2251799813685249) :
  S5 ((r0 + q5 r0 r1 r2 r3 r4 * 19) % 2251799813685248) ((r1 + (r0 + q5 r0 r1 r2 r3 r4 * 19) / 2251799813685248) % 2251799813685248) ((r2 + (r1 + (r0 + q5 r0 r1 r2 r3 r4 * 19) / 2251799813685248) / 2251799813685248) % 2251799813685248)
   ((r3 + (r2 + (r1 + (r0 + q5 r0 r1 r2 r3 r4 * 19) / 2251799813685248) / 2251799813685248) / 2251799813685248) % 2251799813685248) ((r4 + (r3 + (r2 + (r1 + (r0 + q5 r0 r1 r2 r3 r4 * 19) / 2251799813685248) / 2251799813685248) / 2251799813685248) / 2251799813685248) % 2251799813685248)
   = S5 r0 r1 r2 r3 r4 % 57896044618658097711785492504343953926634992332820282019728792003956564819949 := by
 have hq : q5 r0 r1 r2 r3 r4 = (S5 r0 r1 r2 r3 r4 + 19) / 57896044618658097711785492504343953926634992332820282019728792003956564819968 ∧ 0 ≤ q5 r0 r1 r2 r3 r4 ∧ q5 r0 r1 r2 r3 r4 ≤ 1 := by
  unfold q5
  obtain ⟨u1, v0, e1, p1, p2, f1⟩ := divB (r0 + 19)
  rw [f1]
  obtain ⟨u2, v1, e2, p3, p4, f2⟩ := divB (r1 + u1)
  rw [f2]
  obtain ⟨u3, v2, e3, p5, p6, f3⟩ := divB (r2 + u2)
  rw [f3]
  obtain ⟨u4, v3, e4, p7, p8, f4⟩ := divB (r3 + u3)
  rw [f4]
  obtain ⟨u5, v4, e5, p9, p10, f5⟩ := divB (r4 + u4)
  rw [f5]
  clear f1 f2 f3 f4 f5
  refine ⟨?_, by omega, by omega⟩
  have hN : S5 r0 r1 r2 r3 r4 + 19 = 57896044618658097711785492504343953926634992332820282019728792003956564819968 * u5 + (v0 + 2251799813685248 * v1 + 5070602400912917605986812821504 * v2 + 11417981541647679048466287755595961091061972992 * v3 + 25711008708143844408671393477458601640355247900524685364822016 * v4) := by
   unfold S5; omega
  rw [hN]
  have b1 : 0 ≤ v0 + 2251799813685248 * v1 + 5070602400912917605986812821504 * v2 + 11417981541647679048466287755595961091061972992 * v3 + 25711008708143844408671393477458601640355247900524685364822016 * v4 := by omega
  have b2 : v0 + 2251799813685248 * v1 + 5070602400912917605986812821504 * v2 + 11417981541647679048466287755595961091061972992 * v3 + 25711008708143844408671393477458601640355247900524685364822016 * v4 < 57896044618658097711785492504343953926634992332820282019728792003956564819968 := by omega
  generalize v0 + 2251799813685248 * v1 + 5070602400912917605986812821504 * v2 + 11417981541647679048466287755595961091061972992 * v3 + 25711008708143844408671393477458601640355247900524685364822016 * v4 = V at *
  clear hN e1 e2 e3 e4 e5
  omega
 obtain ⟨hq, hq0, hq2⟩ := hq
 have hS : S5 r0 r1 r2 r3 r4 < 58000000000000000000000000000000000000000000000000000000000000000000000000000 := by unfold S5; omega
 have hS0 : 0 ≤ S5 r0 r1 r2 r3 r4 := by unfold S5; omega
 have hm : S5 r0 r1 r2 r3 r4 % 57896044618658097711785492504343953926634992332820282019728792003956564819949 = (S5 r0 r1 r2 r3 r4 + 19 * q5 r0 r1 r2 r3 r4) % 57896044618658097711785492504343953926634992332820282019728792003956564819968 := by
  generalize q5 r0 r1 r2 r3 r4 = q at *
  generalize S5 r0 r1 r2 r3 r4 = s at *
  clear l0 h0 l1 h1 l2 h2 l3 h3 l4 h4
  have : q = 0 ∨ q = 1 := by omega
  rcases this with rfl | rfl <;> omega
 rw [hm]
 generalize q5 r0 r1 r2 r3 r4 = q at *
 clear hm hq hS hS0
 obtain ⟨u1, v0, e1, p1, p2, f1⟩ := divB (r0 + q * 19)
 obtain ⟨u2, v1, e2, p3, p4, f2⟩ := divB (r1 + u1)
 obtain ⟨u3, v2, e3, p5, p6, f3⟩ := divB (r2 + u2)
 obtain ⟨u4, v3, e4, p7, p8, f4⟩ := divB (r3 + u3)
 obtain ⟨u5, v4, e5, p9, p10, f5⟩ := divB (r4 + u4)
 rw [f1, f2, f3, f4]
 have m1 : (r0 + q * 19) % 2251799813685248 = v0 := by omega
 have m2 : (r1 + u1) % 2251799813685248 = v1 := by omega
 have m3 : (r2 + u2) % 2251799813685248 = v2 := by omega
 have m4 : (r3 + u3) % 2251799813685248 = v3 := by omega
 have m5 : (r4 + u4) % 2251799813685248 = v4 := by omega
 rw [m1, m2, m3, m4, m5]
 clear f1 f2 f3 f4 f5 m1 m2 m3 m4 m5
 have hN : S5 r0 r1 r2 r3 r4 + 19 * q = 57896044618658097711785492504343953926634992332820282019728792003956564819968 * u5 + S5 v0 v1 v2 v3 v4 := by
  unfold S5; omega
 rw [hN]
 have b1 : 0 ≤ S5 v0 v1 v2 v3 v4 := by unfold S5; omega
 have b2 : S5 v0 v1 v2 v3 v4 < 57896044618658097711785492504343953926634992332820282019728792003956564819968 := by unfold S5; omega
 generalize S5 v0 v1 v2 v3 v4 = V at *
 clear hN e1 e2 e3 e4 e5
 omega
theorem fld_l (x0 x1 x2 x3 x4 : Int) (w : World) : (Instr.field 104 (.agg #[.int .u64 x0, .int .u64 x1, .int .u64 x2, .int .u64 x3, .int .u64 x4]) 0).run Tryz.prog w = .ok (.agg #[.int .u64 x0, .int .u64 x1, .int .u64 x2, .int .u64 x3, .int .u64 x4]) w := by kernel_rfl
structure Can (x : F) (r0 r1 r2 r3 r4 : Int) : Prop where
 l0 : 0 ≤ r0
 h0 : r0 < 2251799813685248
 l1 : 0 ≤ r1
 h1 : r1 < 2251799813685248
 l2 : 0 ≤ r2
 h2 : r2 < 2251799813685248
 l3 : 0 ≤ r3
 h3 : r3 < 2251799813685248
 l4 : 0 ≤ r4
 h4 : r4 < 2251799813685248
 num : S5 r0 r1 r2 r3 r4 = (x.val : Nat)
theorem carried_tight {x : F} (ha : El x a0 a1 a2 a3 a4) (w : World) :
  Calls Tryz.prog 120 #[.agg #[.int .u64 a0, .int .u64 a1, .int .u64 a2, .int .u64 a3, .int .u64 a4]] w fun e w' =>
   ∃ r0 r1 r2 r3 r4 : Int, e = .returned (.agg #[.int .u64 r0, .int .u64 r1, .int .u64 r2, .int .u64 r3, .int .u64 r4]) ∧ (0 ≤ r0 ∧ r0 < 2251799813685267 ∧ 0 ≤ r1 ∧ r1 < 2251799813685249 ∧ 0 ≤ r2 ∧ r2 < 2251799813685249 ∧ 0 ≤ r3 ∧ r3 < 2251799813685249 ∧ 0 ≤ r4 ∧ r4 < 2251799813685249) ∧ Hid (toF (S5 r0 r1 r2 r3 r4) = x) ∧ Below w.heap.size w w' :=
 (carried_raw a0 a1 a2 a3 a4 w).mono fun _ _ ⟨he, hb⟩ => ⟨_, _, _, _, _, he, by
  obtain ⟨la0, ha0, la1, ha1, la2, ha2, la3, ha3, la4, ha4, hx⟩ := ha
  have e0 : c0 a0 a4 = a0 % 2251799813685248 + a4 / 2251799813685248 * 19 := by unfold c0; rw [and51 a0 la0 (by omega), wrap64u, wrap64u]; omega
  have ec : ∀ x y : Int, 0 ≤ x → x < 18446744073709551616 → 0 ≤ y → y < 18446744073709551616 → c1 x y = x % 2251799813685248 + y / 2251799813685248 := by
   intro x y a b c d
   unfold c1; rw [and51 x a b, wrap64u]; omega
  rw [e0, ec a1 a0 la1 (by omega) la0 (by omega), ec a2 a1 la2 (by omega) la1 (by omega), ec a3 a2 la3 (by omega) la2 (by omega), ec a4 a3 la4 (by omega) la3 (by omega)]
  refine ⟨by omega, by omega, by omega, by omega, by omega, by omega, by omega, by omega, by omega, by omega⟩, by
  obtain ⟨la0, ha0, la1, ha1, la2, ha2, la3, ha3, la4, ha4, hx⟩ := ha
  have h := carried_El a0 a1 a2 a3 a4 la0 (by omega) la1 (by omega) la2 (by omega) la3 (by omega) la4 (by omega)
  exact h.num.trans hx, hb⟩
set_option maxHeartbeats 4000000 in
theorem reducedF_any {x : F} (ha : El x a0 a1 a2 a3 a4) (w : World) :
  Calls Tryz.prog 124 #[.agg #[.int .u64 a0, .int .u64 a1, .int .u64 a2, .int .u64 a3, .int .u64 a4]] w fun e w' =>
   ∃ r0 r1 r2 r3 r4 : Int, e = .returned (.agg #[.int .u64 r0, .int .u64 r1, .int .u64 r2, .int .u64 r3, .int .u64 r4]) ∧ Can x r0 r1 r2 r3 r4 ∧ Below w.heap.size w w' := by
 go_enter Tryz.func124, Tryz.ntmps124
 go_wp2_with fail
 refine Calls.mono (carried_tight ha _) ?_
 rintro e w1 ⟨r0, r1, r2, r3, r4, rfl, ⟨l0, h0, l1, h1, l2, h2, l3, h3, l4, h4⟩, hx, hb⟩
 have B2 : Blk w1 (w.heap.size + 1) #[.int .u64 0, .int .u64 0, .int .u64 0, .int .u64 0, .int .u64 0] 102 := hb.blk (Blk.at (w := w.alloc _) _ _ (by simp)) (by simp)
 have HB : Below w.heap.size w w1 := by repeat' first | (with_reducible exact Below.refl _ _) | (with_reducible refine Below.setCell ?_ (by first | (simp; done) | (simp; omega) | omega) _) | (with_reducible refine Below.alloc ?_ (by first | (simp; done) | (simp; omega) | omega) _) | (with_reducible refine Below.drew ?_) | (with_reducible refine Below.trans ?_ (Below.mono (by assumption) (by first | (simp; done) | (simp; omega) | omega)))
 have z1 := B2.lt
 have c2 := B2.cell
 have f2 := B2.free
 have fl := fld_l r0 r1 r2 r3 r4
 have i0 := idx5_0 r0 r1 r2 r3 r4
 have i1 := idx5_1 r0 r1 r2 r3 r4
 have i2 := idx5_2 r0 r1 r2 r3 r4
 have i3 := idx5_3 r0 r1 r2 r3 r4
 have i4 := idx5_4 r0 r1 r2 r3 r4
 clear hb
 dsimp only
 go_wp2_with fail
 refine wp_loop_rounds 6 ?_
 refine rounds_step ?_
 go_wp2_with fail
 refine rounds_step ?_
 go_wp2_with fail
 refine rounds_step ?_
 go_wp2_with fail
 refine rounds_step ?_
 go_wp2_with fail
 refine rounds_step ?_
 go_wp2_with fail
 refine rounds_step ?_
 go_wp2_with fail
 refine wp_loop_rounds 6 ?_
 refine rounds_step ?_
 go_wp2_with fail
 refine rounds_step ?_
 go_wp2_with fail
 refine rounds_step ?_
 go_wp2_with fail
 refine rounds_step ?_
 go_wp2_with fail
 refine rounds_step ?_
 go_wp2_with fail
 refine rounds_step ?_
 go_wp2_with fail
 refine bodyPost_ret (v := .agg #[.int .u64 (bits .and .u64 (r0 + q5 r0 r1 r2 r3 r4 * 19) 2251799813685247), .int .u64 (bits .and .u64 (r1 + (r0 + q5 r0 r1 r2 r3 r4 * 19) / 2251799813685248) 2251799813685247), .int .u64 (bits .and .u64 (r2 + (r1 + (r0 + q5 r0 r1 r2 r3 r4 * 19) / 2251799813685248) / 2251799813685248) 2251799813685247), .int .u64 (bits .and .u64 (r3 + (r2 + (r1 + (r0 + q5 r0 r1 r2 r3 r4 * 19) / 2251799813685248) / 2251799813685248) / 2251799813685248) 2251799813685247), .int .u64 (bits .and .u64 (r4 + (r3 + (r2 + (r1 + (r0 + q5 r0 r1 r2 r3 r4 * 19) / 2251799813685248) / 2251799813685248) / 2251799813685248) / 2251799813685248) 2251799813685247)]) ?_ rfl ⟨_, _, _, _, _, rfl, ?_, ?_⟩
 ·simp [results, Tryz.results124, go_sem, c2, z1, q5]
 ·have hn := reduced_num r0 r1 r2 r3 r4 l0 h0 l1 h1 l2 h2 l3 h3 l4 h4
  have hv : ((x.val : Nat) : Int) = S5 r0 r1 r2 r3 r4 % 57896044618658097711785492504343953926634992332820282019728792003956564819949 := by
   rw [← hx.out]; exact toF_val _
  have q0 : 0 ≤ q5 r0 r1 r2 r3 r4 := by unfold q5; omega
  have q1 : q5 r0 r1 r2 r3 r4 < 100 := by unfold q5; omega
  rw [← hv] at hn
  clear hv c2 f2 fl i0 i1 i2 i3 i4
  generalize q5 r0 r1 r2 r3 r4 = q at *
  rw [and51 (r0 + q * 19) (by omega) (by omega), and51 (r1 + (r0 + q * 19) / 2251799813685248) (by omega) (by omega), and51 (r2 + (r1 + (r0 + q * 19) / 2251799813685248) / 2251799813685248) (by omega) (by omega), and51 (r3 + (r2 + (r1 + (r0 + q * 19) / 2251799813685248) / 2251799813685248) / 2251799813685248) (by omega) (by omega), and51 (r4 + (r3 + (r2 + (r1 + (r0 + q * 19) / 2251799813685248) / 2251799813685248) / 2251799813685248) / 2251799813685248) (by omega) (by omega)]
  exact ⟨by omega, by omega, by omega, by omega, by omega, by omega, by omega, by omega, by omega, by omega, hn⟩
 ·repeat' first | (with_reducible exact Below.refl _ _) | (with_reducible refine Below.setCell ?_ (by first | (simp; done) | (simp; omega) | omega) _) | (with_reducible refine Below.alloc ?_ (by first | (simp; done) | (simp; omega) | omega) _) | (with_reducible refine Below.drew ?_) | (with_reducible refine Below.trans ?_ (Below.mono (by assumption) (by first | (simp; done) | (simp; omega) | omega)))
def byteOf (N k j : Nat) : Nat := N % 2 ^ k / 2 ^ (8 * j) % 256
def byteA (N k : Nat) : Array Value := ((List.range 32).map fun j => Value.int .u8 ((byteOf N k j : Nat) : Int)).toArray
theorem byteOf_lt (N k j : Nat) : byteOf N k j < 256 := Nat.mod_lt _ (by omega)
theorem byteOf_testBit (N k j i : Nat) : (byteOf N k j).testBit i = (decide (i < 8) && (decide (8 * j + i < k) && N.testBit (8 * j + i))) := by
 unfold byteOf
 rw [show (256 : Nat) = 2 ^ 8 from rfl, Nat.testBit_mod_two_pow, Nat.testBit_div_two_pow, Nat.testBit_mod_two_pow, Nat.add_comm i (8 * j)]
theorem byteOf_other (N k j : Nat) (h : k / 8 ≠ j) : byteOf N (k + 1) j = byteOf N k j := by
 apply Nat.eq_of_testBit_eq
 intro i
 rw [byteOf_testBit, byteOf_testBit]
 by_cases hi : i < 8
 ·have : decide (8 * j + i < k + 1) = decide (8 * j + i < k) := by
   have : 8 * j + i ≠ k := by omega
   simp; omega
  rw [this]
 ·simp [hi]
theorem byteOf_bit (N k j m b : Nat) (hj : k / 8 = j) (hm : k % 8 = m) (hb : b = N / 2 ^ k % 2) : byteOf N k j ||| b * 2 ^ m = byteOf N (k + 1) j := by
 apply Nat.eq_of_testBit_eq
 intro i
 have hb2 : b * 2 ^ m = b <<< m := by rw [Nat.shiftLeft_eq]
 rw [Nat.testBit_or, byteOf_testBit, byteOf_testBit, hb2, Nat.testBit_shiftLeft]
 have hbt : ∀ t, b.testBit t = (decide (t = 0) && N.testBit k) := by
  intro t
  rw [hb]
  cases t with
  | zero => simp [Nat.testBit, Nat.shiftRight_eq_div_pow]
  | succ t =>
   have : N / 2 ^ k % 2 < 2 ^ (t + 1) := by
    have h1 : N / 2 ^ k % 2 < 2 := Nat.mod_lt _ (by omega)
    have h2 : 2 ^ 1 ≤ 2 ^ (t + 1) := Nat.pow_le_pow_right (by omega) (by omega)
    omega
   rw [Nat.testBit_lt_two_pow this]; simp
 rw [hbt]
 by_cases hi : i < 8
 ·by_cases h1 : 8 * j + i = k
  ·have : i = m := by omega
   subst this
   have e : 8 * j + i = k := h1
   rw [e]
   simp [hi]
  ·have e1 : decide (8 * j + i < k + 1) = decide (8 * j + i < k) := by simp; omega
   have e2 : (decide (m ≤ i) && (decide (i - m = 0) && N.testBit k)) = false := by
    by_cases h2 : m ≤ i
    ·have : ¬ (i - m = 0) := by omega
     simp [this]
    ·simp [h2]
   rw [e1]
   simp only [ge_iff_le, e2, Bool.or_false]
 ·have e2 : (decide (m ≤ i) && (decide (i - m = 0) && N.testBit k)) = false := by
   have : ¬ (i - m = 0) := by omega
   simp [this]
  simp [hi]
  omega
theorem byteA_get (N k j : Nat) (hj : j < 32) : (byteA N k)[j]? = some (.int .u8 ((byteOf N k j : Nat) : Int)) := by
 simp [byteA, hj]
theorem byteA_set (N k : Nat) (_hk : k / 8 < 32) : (byteA N k).setIfInBounds (k / 8) (.int .u8 ((byteOf N (k + 1) (k / 8) : Nat) : Int)) = byteA N (k + 1) := by
 apply Array.ext
 ·simp [byteA]
 ·intro i h1 h2
  have hi : i < 32 := by simpa [byteA] using h2
  rw [Array.getElem_setIfInBounds (by simpa [byteA] using hi)]
  split
  ·rename_i e; subst e; simp [byteA]
  ·rename_i e
   simp [byteA, byteOf_other N k i e]
theorem bit_step (N k j m K : Nat) (r : Int) (hj : k / 8 = j) (hm : k % 8 = m) (hr0 : 0 ≤ r) (hr : r < 2251799813685248) (hbit : r.toNat / 2 ^ K % 2 = N / 2 ^ k % 2) :
  bits .or .u8 ((byteOf N k j : Nat) : Int) (bits .and .u64 (r / 2 ^ K) 1 % 256 * 2 ^ m % 256) = ((byteOf N (k + 1) j : Nat) : Int) := by
 obtain ⟨R, rfl⟩ := Int.eq_ofNat_of_zero_le hr0
 have e1 : ((R : Int) / 2 ^ K) = ((R / 2 ^ K : Nat) : Int) := by simp
 have hlt : R / 2 ^ K < 18446744073709551616 := Nat.lt_of_le_of_lt (Nat.div_le_self _ _) (by omega)
 rw [e1, show (1 : Int) = ((1 : Nat) : Int) from rfl, u64_and_nat _ _ hlt (by omega), nat_mask1]
 have hb : R / 2 ^ K % 2 < 2 := Nat.mod_lt _ (by omega)
 have hm8 : m < 8 := by omega
 have hp : 2 ^ m ≤ 2 ^ 7 := Nat.pow_le_pow_right (by omega) (by omega)
 have e2 : (((R / 2 ^ K % 2 : Nat) : Int) % 256 * 2 ^ m % 256) = ((R / 2 ^ K % 2 * 2 ^ m : Nat) : Int) := by
  have h1 : R / 2 ^ K % 2 * 2 ^ m ≤ 1 * 2 ^ 7 := Nat.mul_le_mul (by omega) hp
  have h2 : ((R / 2 ^ K % 2 : Nat) : Int) % 256 = ((R / 2 ^ K % 2 : Nat) : Int) := by omega
  rw [h2, show ((2 : Int) ^ m) = ((2 ^ m : Nat) : Int) by simp, ← Int.natCast_mul]
  omega
 rw [e2]
 have h1 : R / 2 ^ K % 2 * 2 ^ m ≤ 1 * 2 ^ 7 := Nat.mul_le_mul (by omega) hp
 rw [u8_or_nat _ _ (byteOf_lt _ _ _) (by omega)]
 have hbit' : R / 2 ^ K % 2 = N / 2 ^ k % 2 := by simpa using hbit
 rw [byteOf_bit N k j m _ hj hm hbit']
theorem byteA_zero (N : Nat) : byteA N 0 = byteA 0 0 := by unfold byteA byteOf; simp [Nat.mod_one]
theorem mk32 (w : World) : (Instr.makeSlice 22 (.int .i64 32) (.int .i64 32)).run Tryz.prog w = .ok (.slice (some ⟨w.heap.size, 0, none⟩) 32 32) (w.alloc (.cells (byteA 0 0) 5)) := by kernel_rfl
theorem limb_bit (N K c : Nat) (r : Int) (hK : K < 51) (h : N / 2 ^ c % 2251799813685248 = r.toNat) : r.toNat / 2 ^ K % 2 = N / 2 ^ (c + K) % 2 := by
 have h1 : (N / 2 ^ c % 2 ^ 51).testBit K = (N / 2 ^ c).testBit K := by rw [Nat.testBit_mod_two_pow]; simp [hK]
 rw [show (2 : Nat) ^ 51 = 2251799813685248 from rfl, h, Nat.testBit_div_two_pow, Nat.testBit_eq_decide_div_mod_eq, Nat.testBit_eq_decide_div_mod_eq, Nat.add_comm K c] at h1
 have h2 : (r.toNat / 2 ^ K % 2 = 1) ↔ (N / 2 ^ (c + K) % 2 = 1) := by simpa using h1
 have h3 : r.toNat / 2 ^ K % 2 < 2 := Nat.mod_lt _ (by omega)
 have h4 : N / 2 ^ (c + K) % 2 < 2 := Nat.mod_lt _ (by omega)
 omega
set_option maxHeartbeats 8000000 in
theorem Bytes_any {x : F} (ha : El x a0 a1 a2 a3 a4) (w : World) :
  Calls Tryz.prog 93 #[.agg #[.int .u64 a0, .int .u64 a1, .int .u64 a2, .int .u64 a3, .int .u64 a4]] w fun e w' =>
   ∃ g : Nat, e = .returned (.slice (some ⟨g, 0, none⟩) 32 32) ∧ w.heap.size ≤ g ∧ Blk w' g (byteA x.val 255) 5 ∧ Below w.heap.size w w' := by
 have hmk : ∀ w, (Instr.makeSlice 22 (.int .i64 32) (.int .i64 32)).run Tryz.prog w = .ok (.slice (some ⟨w.heap.size, 0, none⟩) 32 32) (w.alloc (.cells (byteA x.val 0) 5)) := fun w => by
  rw [byteA_zero]; exact mk32 w
 go_enter Tryz.func93, Tryz.ntmps93
 go_wp2_with fail
 refine Calls.mono (reducedF_any ha _) ?_
 rintro e w1 ⟨r0, r1, r2, r3, r4, rfl, hC, hb⟩
 have B0 : Blk w1 (w.heap.size + 1) (byteA x.val 0) 5 := hb.blk (Blk.at (w := w.alloc _) _ _ (by simp)) (by simp)
 have HB0 : Below w.heap.size w w1 := by repeat' first | (with_reducible exact Below.refl _ _) | (with_reducible refine Below.setCell ?_ (by first | (simp; done) | (simp; omega) | omega) _) | (with_reducible refine Below.alloc ?_ (by first | (simp; done) | (simp; omega) | omega) _) | (with_reducible refine Below.drew ?_) | (with_reducible refine Below.trans ?_ (Below.mono (by assumption) (by first | (simp; done) | (simp; omega) | omega)))
 have HN : Hid (x.val = (S5 r0 r1 r2 r3 r4).toNat) := by have := hC.num; show _ = _; omega
 obtain ⟨l0, h0, l1, h1, l2, h2, l3, h3, l4, h4, _⟩ := hC
 have L0 : Hid (x.val / 2 ^ 0 % 2251799813685248 = r0.toNat) := by show _ = _; rw [HN.out]; unfold S5; omega
 have L1 : Hid (x.val / 2 ^ 51 % 2251799813685248 = r1.toNat) := by show x.val / 2251799813685248 % 2251799813685248 = _; rw [HN.out]; unfold S5; omega
 have L2 : Hid (x.val / 2 ^ 102 % 2251799813685248 = r2.toNat) := by show x.val / 5070602400912917605986812821504 % 2251799813685248 = _; rw [HN.out]; unfold S5; omega
 have L3 : Hid (x.val / 2 ^ 153 % 2251799813685248 = r3.toNat) := by show x.val / 11417981541647679048466287755595961091061972992 % 2251799813685248 = _; rw [HN.out]; unfold S5; omega
 have L4 : Hid (x.val / 2 ^ 204 % 2251799813685248 = r4.toNat) := by show x.val / 25711008708143844408671393477458601640355247900524685364822016 % 2251799813685248 = _; rw [HN.out]; unfold S5; omega
 have i0 := idx5_0 r0 r1 r2 r3 r4
 have i1 := idx5_1 r0 r1 r2 r3 r4
 have i2 := idx5_2 r0 r1 r2 r3 r4
 have i3 := idx5_3 r0 r1 r2 r3 r4
 have i4 := idx5_4 r0 r1 r2 r3 r4
 clear hb hmk
 dsimp only
 go_wp2_with fail
 refine wp_loop_rounds 6 ?_
 refine rounds_step ?_
 go_wp2_with fail
 go_loopw [15] (fun k wr => ∃ K : Nat, k = .int .i64 K ∧ K ≤ 51 ∧ Blk wr (w.heap.size + 1) (byteA x.val K) 5 ∧ Below w.heap.size w wr) (fun k _ => 51 - (intOf k).toNat)
 case atStart => exact ⟨0, rfl, by omega, B0, HB0⟩
 case round =>
  obtain ⟨K, rfl, hK, BK, HK⟩ := hrel
  by_cases hlt : K < 51
  ·obtain ⟨j, ej⟩ : ∃ j : Nat, (K : Int) / 8 = (j : Int) := ⟨K / 8, by omega⟩
   obtain ⟨m, em⟩ : ∃ m : Nat, (K : Int).tmod 8 = (m : Int) := ⟨K % 8, by rw [Int.tmod_eq_emod_of_nonneg (by omega)]; omega⟩
   have ej2 : Hid (K / 8 = j) := by show _ = _; omega
   have em2 : Hid (K % 8 = m) := by show _ = _; rw [Int.tmod_eq_emod_of_nonneg (by omega)] at em; omega
   have hj : j < 32 := by have := ej2.out; omega
   have hjI : (j : Int) < 32 := by omega
   have hm : m < 8 := by have := em2.out; omega
   have hmI : (m : Int) < 8 := by omega
   have hc : wr.cell? ⟨w.heap.size + 1, j, none⟩ = some (.int .u8 ((byteOf x.val K j : Nat) : Int)) := (BK.cell j).trans (byteA_get _ _ _ hj)
   have hf := BK.free j
   have e8 : IntKind.i64.wrap (j : Int) = (j : Int) := IntWalk.i64_in _ (by omega)
   have e8' : IntKind.i64.wrap (m : Int) = (m : Int) := IntWalk.i64_in _ (by omega)
   go_wp2_with fail
   (refine tail_any 15 (by kernel_rfl) ?_; rintro W rfl; simp only [List.take_succ_cons, List.take_zero, List.drop_succ_cons, List.drop_zero]; (repeat still_step); refine wpStill_nil ?_)
   go_wp2_with fail
   rw [bit_step x.val K j m K r0 ej2.out em2.out l0 h0 (by rw [limb_bit x.val K 0 r0 hlt L0.out]; simp)]
   go_roundw
   case rel => exact ⟨K + 1, by go_num, by omega, by (have q := BK.set (K / 8) (.int .u8 ((byteOf x.val (K + 1) (K / 8) : Nat) : Int)); rw [byteA_set _ _ (by omega), ej2.out] at q; exact q), (HK.setCell (by simp) _).drew⟩
   case measure => simp [intOf]; omega
  ·obtain rfl : K = 51 := by omega
   obtain ⟨wo, rfl⟩ : ∃ wo : World, wo = wr := ⟨_, rfl⟩
   have B1 : Blk wo (w.heap.size + 1) (byteA x.val 51) 5 := BK
   have HB1 := HK
   clear BK HK hlt hK
   go_wp2_with fail
   refine rounds_step ?_
   go_wp2_with fail
   go_loopw [15] (fun k wr => ∃ K : Nat, k = .int .i64 K ∧ K ≤ 51 ∧ Blk wr (w.heap.size + 1) (byteA x.val (51 + K)) 5 ∧ Below w.heap.size w wr) (fun k _ => 51 - (intOf k).toNat)
   case atStart => exact ⟨0, rfl, by omega, B1, HB1⟩
   case round =>
    obtain ⟨K, rfl, hK, BK, HK⟩ := hrel
    by_cases hlt : K < 51
    ·obtain ⟨j, ej⟩ : ∃ j : Nat, (51 + (K : Int)) / 8 = (j : Int) := ⟨(51 + K) / 8, by omega⟩
     obtain ⟨m, em⟩ : ∃ m : Nat, (51 + (K : Int)).tmod 8 = (m : Int) := ⟨(51 + K) % 8, by rw [Int.tmod_eq_emod_of_nonneg (by omega)]; omega⟩
     have ej' : (51 + (K : Int)).tdiv 8 = (j : Int) := by rw [Int.tdiv_eq_ediv_of_nonneg (by omega)]; exact ej
     have ej2 : Hid ((51 + K) / 8 = j) := by show _ = _; omega
     have em2 : Hid ((51 + K) % 8 = m) := by show _ = _; rw [Int.tmod_eq_emod_of_nonneg (by omega)] at em; omega
     have hj : j < 32 := by have := ej2.out; omega
     have hjI : (j : Int) < 32 := by omega
     have hm : m < 8 := by have := em2.out; omega
     have hmI : (m : Int) < 8 := by omega
     have hc : wr.cell? ⟨w.heap.size + 1, j, none⟩ = some (.int .u8 ((byteOf x.val (51 + K) j : Nat) : Int)) := (BK.cell j).trans (byteA_get _ _ _ hj)
     have hf := BK.free j
     have e8 : IntKind.i64.wrap (j : Int) = (j : Int) := IntWalk.i64_in _ (by omega)
     have e8' : IntKind.i64.wrap (m : Int) = (m : Int) := IntWalk.i64_in _ (by omega)
     go_wp2_with fail
     (refine tail_any 15 (by kernel_rfl) ?_; rintro W rfl; simp only [List.take_succ_cons, List.take_zero, List.drop_succ_cons, List.drop_zero]; (repeat still_step); refine wpStill_nil ?_)
     go_wp2_with fail
     rw [bit_step x.val (51 + K) j m K r1 ej2.out em2.out l1 h1 (by rw [limb_bit x.val K 51 r1 hlt L1.out])]
     go_roundw
     case rel => exact ⟨K + 1, by go_num, by omega, by (have q := BK.set ((51 + K) / 8) (.int .u8 ((byteOf x.val ((51 + K) + 1) ((51 + K) / 8) : Nat) : Int)); rw [byteA_set _ _ (by omega), ej2.out] at q; exact q), (HK.setCell (by simp) _).drew⟩
     case measure => simp [intOf]; omega
    ·obtain rfl : K = 51 := by omega
     obtain ⟨wo, rfl⟩ : ∃ wo : World, wo = wr := ⟨_, rfl⟩
     have B2 : Blk wo (w.heap.size + 1) (byteA x.val 102) 5 := BK
     have HB2 := HK
     clear BK HK hlt hK
     go_wp2_with fail
     refine rounds_step ?_
     go_wp2_with fail
     go_loopw [15] (fun k wr => ∃ K : Nat, k = .int .i64 K ∧ K ≤ 51 ∧ Blk wr (w.heap.size + 1) (byteA x.val (102 + K)) 5 ∧ Below w.heap.size w wr) (fun k _ => 51 - (intOf k).toNat)
     case atStart => exact ⟨0, rfl, by omega, B2, HB2⟩
     case round =>
      obtain ⟨K, rfl, hK, BK, HK⟩ := hrel
      by_cases hlt : K < 51
      ·obtain ⟨j, ej⟩ : ∃ j : Nat, (102 + (K : Int)) / 8 = (j : Int) := ⟨(102 + K) / 8, by omega⟩
       obtain ⟨m, em⟩ : ∃ m : Nat, (102 + (K : Int)).tmod 8 = (m : Int) := ⟨(102 + K) % 8, by rw [Int.tmod_eq_emod_of_nonneg (by omega)]; omega⟩
       have ej' : (102 + (K : Int)).tdiv 8 = (j : Int) := by rw [Int.tdiv_eq_ediv_of_nonneg (by omega)]; exact ej
       have ej2 : Hid ((102 + K) / 8 = j) := by show _ = _; omega
       have em2 : Hid ((102 + K) % 8 = m) := by show _ = _; rw [Int.tmod_eq_emod_of_nonneg (by omega)] at em; omega
       have hj : j < 32 := by have := ej2.out; omega
       have hjI : (j : Int) < 32 := by omega
       have hm : m < 8 := by have := em2.out; omega
       have hmI : (m : Int) < 8 := by omega
       have hc : wr.cell? ⟨w.heap.size + 1, j, none⟩ = some (.int .u8 ((byteOf x.val (102 + K) j : Nat) : Int)) := (BK.cell j).trans (byteA_get _ _ _ hj)
       have hf := BK.free j
       have e8 : IntKind.i64.wrap (j : Int) = (j : Int) := IntWalk.i64_in _ (by omega)
       have e8' : IntKind.i64.wrap (m : Int) = (m : Int) := IntWalk.i64_in _ (by omega)
       go_wp2_with fail
       (refine tail_any 15 (by kernel_rfl) ?_; rintro W rfl; simp only [List.take_succ_cons, List.take_zero, List.drop_succ_cons, List.drop_zero]; (repeat still_step); refine wpStill_nil ?_)
       go_wp2_with fail
       rw [bit_step x.val (102 + K) j m K r2 ej2.out em2.out l2 h2 (by rw [limb_bit x.val K 102 r2 hlt L2.out])]
       go_roundw
       case rel => exact ⟨K + 1, by go_num, by omega, by (have q := BK.set ((102 + K) / 8) (.int .u8 ((byteOf x.val ((102 + K) + 1) ((102 + K) / 8) : Nat) : Int)); rw [byteA_set _ _ (by omega), ej2.out] at q; exact q), (HK.setCell (by simp) _).drew⟩
       case measure => simp [intOf]; omega
      ·obtain rfl : K = 51 := by omega
       obtain ⟨wo, rfl⟩ : ∃ wo : World, wo = wr := ⟨_, rfl⟩
       have B3 : Blk wo (w.heap.size + 1) (byteA x.val 153) 5 := BK
       have HB3 := HK
       clear BK HK hlt hK
       go_wp2_with fail
       refine rounds_step ?_
       go_wp2_with fail
       go_loopw [15] (fun k wr => ∃ K : Nat, k = .int .i64 K ∧ K ≤ 51 ∧ Blk wr (w.heap.size + 1) (byteA x.val (153 + K)) 5 ∧ Below w.heap.size w wr) (fun k _ => 51 - (intOf k).toNat)
       case atStart => exact ⟨0, rfl, by omega, B3, HB3⟩
       case round =>
        obtain ⟨K, rfl, hK, BK, HK⟩ := hrel
        by_cases hlt : K < 51
        ·obtain ⟨j, ej⟩ : ∃ j : Nat, (153 + (K : Int)) / 8 = (j : Int) := ⟨(153 + K) / 8, by omega⟩
         obtain ⟨m, em⟩ : ∃ m : Nat, (153 + (K : Int)).tmod 8 = (m : Int) := ⟨(153 + K) % 8, by rw [Int.tmod_eq_emod_of_nonneg (by omega)]; omega⟩
         have ej' : (153 + (K : Int)).tdiv 8 = (j : Int) := by rw [Int.tdiv_eq_ediv_of_nonneg (by omega)]; exact ej
         have ej2 : Hid ((153 + K) / 8 = j) := by show _ = _; omega
         have em2 : Hid ((153 + K) % 8 = m) := by show _ = _; rw [Int.tmod_eq_emod_of_nonneg (by omega)] at em; omega
         have hj : j < 32 := by have := ej2.out; omega
         have hjI : (j : Int) < 32 := by omega
         have hm : m < 8 := by have := em2.out; omega
         have hmI : (m : Int) < 8 := by omega
         have hc : wr.cell? ⟨w.heap.size + 1, j, none⟩ = some (.int .u8 ((byteOf x.val (153 + K) j : Nat) : Int)) := (BK.cell j).trans (byteA_get _ _ _ hj)
         have hf := BK.free j
         have e8 : IntKind.i64.wrap (j : Int) = (j : Int) := IntWalk.i64_in _ (by omega)
         have e8' : IntKind.i64.wrap (m : Int) = (m : Int) := IntWalk.i64_in _ (by omega)
         go_wp2_with fail
         (refine tail_any 15 (by kernel_rfl) ?_; rintro W rfl; simp only [List.take_succ_cons, List.take_zero, List.drop_succ_cons, List.drop_zero]; (repeat still_step); refine wpStill_nil ?_)
         go_wp2_with fail
         rw [bit_step x.val (153 + K) j m K r3 ej2.out em2.out l3 h3 (by rw [limb_bit x.val K 153 r3 hlt L3.out])]
         go_roundw
         case rel => exact ⟨K + 1, by go_num, by omega, by (have q := BK.set ((153 + K) / 8) (.int .u8 ((byteOf x.val ((153 + K) + 1) ((153 + K) / 8) : Nat) : Int)); rw [byteA_set _ _ (by omega), ej2.out] at q; exact q), (HK.setCell (by simp) _).drew⟩
         case measure => simp [intOf]; omega
        ·obtain rfl : K = 51 := by omega
         obtain ⟨wo, rfl⟩ : ∃ wo : World, wo = wr := ⟨_, rfl⟩
         have B4 : Blk wo (w.heap.size + 1) (byteA x.val 204) 5 := BK
         have HB4 := HK
         clear BK HK hlt hK
         go_wp2_with fail
         refine rounds_step ?_
         go_wp2_with fail
         go_loopw [15] (fun k wr => ∃ K : Nat, k = .int .i64 K ∧ K ≤ 51 ∧ Blk wr (w.heap.size + 1) (byteA x.val (204 + K)) 5 ∧ Below w.heap.size w wr) (fun k _ => 51 - (intOf k).toNat)
         case atStart => exact ⟨0, rfl, by omega, B4, HB4⟩
         case round =>
          obtain ⟨K, rfl, hK, BK, HK⟩ := hrel
          by_cases hlt : K < 51
          ·obtain ⟨j, ej⟩ : ∃ j : Nat, (204 + (K : Int)) / 8 = (j : Int) := ⟨(204 + K) / 8, by omega⟩
           obtain ⟨m, em⟩ : ∃ m : Nat, (204 + (K : Int)).tmod 8 = (m : Int) := ⟨(204 + K) % 8, by rw [Int.tmod_eq_emod_of_nonneg (by omega)]; omega⟩
           have ej' : (204 + (K : Int)).tdiv 8 = (j : Int) := by rw [Int.tdiv_eq_ediv_of_nonneg (by omega)]; exact ej
           have ej2 : Hid ((204 + K) / 8 = j) := by show _ = _; omega
           have em2 : Hid ((204 + K) % 8 = m) := by show _ = _; rw [Int.tmod_eq_emod_of_nonneg (by omega)] at em; omega
           have hj : j < 32 := by have := ej2.out; omega
           have hjI : (j : Int) < 32 := by omega
           have hm : m < 8 := by have := em2.out; omega
           have hmI : (m : Int) < 8 := by omega
           have hc : wr.cell? ⟨w.heap.size + 1, j, none⟩ = some (.int .u8 ((byteOf x.val (204 + K) j : Nat) : Int)) := (BK.cell j).trans (byteA_get _ _ _ hj)
           have hf := BK.free j
           have e8 : IntKind.i64.wrap (j : Int) = (j : Int) := IntWalk.i64_in _ (by omega)
           have e8' : IntKind.i64.wrap (m : Int) = (m : Int) := IntWalk.i64_in _ (by omega)
           go_wp2_with fail
           (refine tail_any 15 (by kernel_rfl) ?_; rintro W rfl; simp only [List.take_succ_cons, List.take_zero, List.drop_succ_cons, List.drop_zero]; (repeat still_step); refine wpStill_nil ?_)
           go_wp2_with fail
           rw [bit_step x.val (204 + K) j m K r4 ej2.out em2.out l4 h4 (by rw [limb_bit x.val K 204 r4 hlt L4.out])]
           go_roundw
           case rel => exact ⟨K + 1, by go_num, by omega, by (have q := BK.set ((204 + K) / 8) (.int .u8 ((byteOf x.val ((204 + K) + 1) ((204 + K) / 8) : Nat) : Int)); rw [byteA_set _ _ (by omega), ej2.out] at q; exact q), (HK.setCell (by simp) _).drew⟩
           case measure => simp [intOf]; omega
          ·obtain rfl : K = 51 := by omega
           obtain ⟨wo, rfl⟩ : ∃ wo : World, wo = wr := ⟨_, rfl⟩
           have B5 : Blk wo (w.heap.size + 1) (byteA x.val 255) 5 := BK
           have HB5 := HK
           clear BK HK hlt hK
           go_wp2_with fail
           refine rounds_step ?_
           go_wp2_with fail
           go_ret
           exact ⟨_, rfl, by omega, B5, HB5⟩
def byteL (N : Nat) : List Nat := (List.range 32).map (byteOf N 255)
theorem byteL_length (N : Nat) : (byteL N).length = 32 := by simp [byteL]
theorem byteL_inj {N M : Nat} (hN : N < 2 ^ 255) (hM : M < 2 ^ 255) (h : byteL N = byteL M) : N = M := by
 have hb : ∀ j, j < 32 → byteOf N 255 j = byteOf M 255 j := fun j hj => by
  have := congrArg (fun l => l[j]?) h
  simpa [byteL, hj] using this
 apply Nat.eq_of_testBit_eq
 intro i
 by_cases hi : i < 255
 ·have h1 := congrArg (fun n => n.testBit (i % 8)) (hb (i / 8) (by omega))
  simp only [byteOf_testBit] at h1
  have e : 8 * (i / 8) + i % 8 = i := by omega
  rw [e] at h1
  have h8 : i % 8 < 8 := by omega
  simpa [hi, h8] using h1
 ·have hp : (2 : Nat) ^ 255 ≤ 2 ^ i := Nat.pow_le_pow_right (by omega) (by omega)
  rw [Nat.testBit_lt_two_pow (by omega), Nat.testBit_lt_two_pow (by omega)]
theorem F.lt255 (x : F) : x.val < 2 ^ 255 := by have := x.isLt; simp only [P] at this; omega
theorem Add_V {x y : F} (hu : ElV x u) (hv : ElV y v) (w : World) : Calls Tryz.prog 121 #[u, v] w fun e w' => ∃ r, e = .returned r ∧ ElV (x + y) r ∧ Below w.heap.size w w' := by
 obtain ⟨a0, a1, a2, a3, a4, rfl, ha⟩ := hu
 obtain ⟨b0, b1, b2, b3, b4, rfl, hb⟩ := hv
 exact (Add_any ha hb w).mono fun e w' ⟨r0, r1, r2, r3, r4, he, hE, hB⟩ => ⟨_, he, ⟨_, _, _, _, _, rfl, hE⟩, hB⟩
theorem Sub_V {x y : F} (hu : ElV x u) (hv : ElV y v) (w : World) : Calls Tryz.prog 122 #[u, v] w fun e w' => ∃ r, e = .returned r ∧ ElV (x - y) r ∧ Below w.heap.size w w' := by
 obtain ⟨a0, a1, a2, a3, a4, rfl, ha⟩ := hu
 obtain ⟨b0, b1, b2, b3, b4, rfl, hb⟩ := hv
 exact (Sub_any ha hb w).mono fun e w' ⟨r0, r1, r2, r3, r4, he, hE, hB⟩ => ⟨_, he, ⟨_, _, _, _, _, rfl, hE⟩, hB⟩
theorem Mul_V {x y : F} (hu : ElV x u) (hv : ElV y v) (w : World) : Calls Tryz.prog 94 #[u, v] w fun e w' => ∃ r, e = .returned r ∧ ElV (x * y) r ∧ Below w.heap.size w w' := by
 obtain ⟨a0, a1, a2, a3, a4, rfl, ha⟩ := hu
 obtain ⟨b0, b1, b2, b3, b4, rfl, hb⟩ := hv
 exact (Mul_any ha hb w).mono fun e w' ⟨r0, r1, r2, r3, r4, he, hE, hB⟩ => ⟨_, he, ⟨_, _, _, _, _, rfl, hE⟩, hB⟩
theorem Of_V (n : Int) (w : World) (h0 : 0 ≤ n) (h1 : n < 18446744073709551616) : Calls Tryz.prog 91 #[.int .u64 n] w fun e w' => ∃ r, e = .returned r ∧ ElV (toF n) r ∧ Below w.heap.size w w' :=
 (Of_any n w h0 h1).mono fun e w' ⟨r0, r1, r2, r3, r4, he, hE, hB⟩ => ⟨_, he, ⟨_, _, _, _, _, rfl, hE⟩, hB⟩
def bitP (i : Nat) : Bool := decide (4 < i) || i == 3 || i == 1 || i == 0
def invAt (x : F) : Nat → F
 | 0 => 1
 | k + 1 => if bitP (254 - k) then invAt x k * invAt x k * x else invAt x k * invAt x k
theorem invAt_set (x : F) (K : Nat) (h : bitP (254 - K) = true) : invAt x (K + 1) = invAt x K * invAt x K * x := by rw [invAt, if_pos h]
theorem invAt_not (x : F) (K : Nat) (h : bitP (254 - K) = false) : invAt x (K + 1) = invAt x K * invAt x K := by rw [invAt, if_neg (by rw [h]; simp)]
theorem bitP_high {K : Nat} (h : K < 250) : bitP (254 - K) = true := by
 have : 4 < 254 - K := by omega
 simp [bitP, this]
def finv (x : F) : F := invAt x 255
theorem i_next (K : Nat) : Value.int .i64 (254 - (K : Int) - 1) = Value.int .i64 (254 - ((K + 1 : Nat) : Int)) := by
 have : (254 - (K : Int) - 1) = (254 - ((K + 1 : Nat) : Int)) := by omega
 rw [this]
theorem Blk.set5 {c0 c1 c2 c3 c4 : Value} (v0 v1 v2 v3 v4 : Value) (h : Blk w g' #[c0, c1, c2, c3, c4] T) : Blk (((((w.setCell ⟨g', 0, none⟩ v0).setCell ⟨g', 1, none⟩ v1).setCell ⟨g', 2, none⟩ v2).setCell ⟨g', 3, none⟩ v3).setCell ⟨g', 4, none⟩ v4) g' #[v0, v1, v2, v3, v4] T := by
 have h := ((((h.set 0 v0).set 1 v1).set 2 v2).set 3 v3).set 4 v4
 simpa using h
theorem Blk.other5 {g : Nat} {cur : Array Value} (v0 v1 v2 v3 v4 : Value) (h : Blk w g cur T) (hne : g ≠ g') : Blk (((((w.setCell ⟨g', 0, none⟩ v0).setCell ⟨g', 1, none⟩ v1).setCell ⟨g', 2, none⟩ v2).setCell ⟨g', 3, none⟩ v3).setCell ⟨g', 4, none⟩ v4) g cur T :=
 ((((h.set_other _ _ hne).set_other _ _ hne).set_other _ _ hne).set_other _ _ hne).set_other _ _ hne
theorem below_set5 {B : Nat} {w0 : World} (v0 v1 v2 v3 v4 : Value) (h : Below B w0 w) (hg : B ≤ g') : Below B w0 (((((w.setCell ⟨g', 0, none⟩ v0).setCell ⟨g', 1, none⟩ v1).setCell ⟨g', 2, none⟩ v2).setCell ⟨g', 3, none⟩ v3).setCell ⟨g', 4, none⟩ v4) :=
 ((((h.setCell (p := ⟨g', 0, none⟩) hg _).setCell (p := ⟨g', 1, none⟩) hg _).setCell (p := ⟨g', 2, none⟩) hg _).setCell (p := ⟨g', 3, none⟩) hg _).setCell (p := ⟨g', 4, none⟩) hg _
theorem size_set5 (v0 v1 v2 v3 v4 : Value) : (((((w.setCell ⟨g', 0, none⟩ v0).setCell ⟨g', 1, none⟩ v1).setCell ⟨g', 2, none⟩ v2).setCell ⟨g', 3, none⟩ v3).setCell ⟨g', 4, none⟩ v4).heap.size = w.heap.size := by simp [World.setCell]
set_option maxHeartbeats 4000000 in
theorem Inv_any {x : F} (ha : El x a0 a1 a2 a3 a4) (w : World) :
  Calls Tryz.prog 95 #[.agg #[.int .u64 a0, .int .u64 a1, .int .u64 a2, .int .u64 a3, .int .u64 a4]] w fun e w' =>
   ∃ r0 r1 r2 r3 r4 : Int, e = .returned (.agg #[.int .u64 r0, .int .u64 r1, .int .u64 r2, .int .u64 r3, .int .u64 r4]) ∧ El (finv x) r0 r1 r2 r3 r4 ∧ Below w.heap.size w w' := by
 go_enter Tryz.func95, Tryz.ntmps95
 go_wp2_with fail
 refine Calls.mono (Of_any 1 _ (by omega) (by omega)) ?_
 rintro e w1 ⟨p0, p1, p2, p3, p4, rfl, h1, hb1⟩
 have BA : Blk w1 w.heap.size #[.int .u64 a0, .int .u64 a1, .int .u64 a2, .int .u64 a3, .int .u64 a4] 104 := hb1.blk ((Blk.new _ _ _).alloc _) (by simp; omega)
 have BR : Blk w1 (w.heap.size + 1) #[.int .u64 0, .int .u64 0, .int .u64 0, .int .u64 0, .int .u64 0] 104 := hb1.blk (Blk.at _ _ (by simp)) (by simp)
 have HB : Below w.heap.size w w1 := by repeat' first | (with_reducible exact Below.refl _ _) | (with_reducible refine Below.setCell ?_ (by first | (simp; done) | (simp; omega) | omega) _) | (with_reducible refine Below.alloc ?_ (by first | (simp; done) | (simp; omega) | omega) _) | (with_reducible refine Below.drew ?_) | (with_reducible refine Below.trans ?_ (Below.mono (by assumption) (by first | (simp; done) | (simp; omega) | omega)))
 have zA := BA.lt
 have zR := BR.lt
 clear hb1
 dsimp only
 go_wp2_with fail
 have z0 : w.heap.size ≠ w1.heap.size := by omega
 have z1 : w.heap.size + 1 ≠ w1.heap.size := by omega
 go_loopw [4] (fun i wr => ∃ (K : Nat) (r0 r1 r2 r3 r4 : Int), i = .int .i64 (254 - (K : Int)) ∧ K ≤ 255 ∧ El (invAt x K) r0 r1 r2 r3 r4 ∧ Blk wr w1.heap.size #[.int .u64 r0, .int .u64 r1, .int .u64 r2, .int .u64 r3, .int .u64 r4] 104 ∧
   Blk wr w.heap.size #[.int .u64 a0, .int .u64 a1, .int .u64 a2, .int .u64 a3, .int .u64 a4] 104 ∧ Blk wr (w.heap.size + 1) #[.int .u64 0, .int .u64 0, .int .u64 0, .int .u64 0, .int .u64 0] 104 ∧ Below w.heap.size w wr) (fun i _ => (intOf i + 1).toNat)
 case atStart => exact ⟨0, p0, p1, p2, p3, p4, rfl, by omega, by (have h := h1; rw [toF_one] at h; exact h), Blk.new _ _ _, BA.alloc _, BR.alloc _, HB.alloc HB.size _⟩
 case round =>
  obtain ⟨K, r0, r1, r2, r3, r4, rfl, hK, hE, BO, BA, BR, HW⟩ := hrel
  have cO := BO.cell
  have cA := BA.cell
  by_cases hlt : K < 250
  ·have hI : ((254 : Int) - (K : Int) > 4) := by omega
   have hI2 : ((254 : Int) - (K : Int) ≥ 0) := by omega
   go_wp2_with fail
   refine Calls.mono (Mul_any hE hE _) ?_
   rintro e w2 ⟨s0, s1, s2, s3, s4, rfl, hE2, hb2⟩
   have BA2 := BA.old hb2
   have BR2 := BR.old hb2
   have BO2 := BO.old hb2
   have HB2 : Below w.heap.size w w2 := HW.trans (hb2.mono HW.size)
   have cO2 := BO2.cell
   have fO2 := BO2.free
   have cA2 := BA2.cell
   clear hb2 cA cO
   dsimp only
   go_wp2_with fail
   refine Calls.mono (Mul_any hE2 ha _) ?_
   rintro e w3 ⟨t0, t1, t2, t3, t4, rfl, hE3, hb3⟩
   have BA3 := hb3.blk (BA2.other5 (.int .u64 s0) (.int .u64 s1) (.int .u64 s2) (.int .u64 s3) (.int .u64 s4) z0) (by rw [size_set5]; exact BA2.lt)
   have BR3 := hb3.blk (BR2.other5 (.int .u64 s0) (.int .u64 s1) (.int .u64 s2) (.int .u64 s3) (.int .u64 s4) z1) (by rw [size_set5]; exact BR2.lt)
   have BO3 := hb3.blk (BO2.set5 (.int .u64 s0) (.int .u64 s1) (.int .u64 s2) (.int .u64 s3) (.int .u64 s4)) (by rw [size_set5]; exact BO2.lt)
   have HB3 : Below w.heap.size w w3 := (below_set5 _ _ _ _ _ HB2 (Nat.le_of_lt zA)).trans (hb3.mono (by rw [size_set5]; exact HB2.size))
   have cO3 := BO3.cell
   have fO3 := BO3.free
   clear hb3 cO2 fO2 cA2
   dsimp only
   go_wp2_with fail
   go_roundw
   case rel => exact ⟨K + 1, t0, t1, t2, t3, t4, i_next K, by omega, by rw [invAt_set x K (bitP_high hlt)]; exact hE3, BO3.set5 (.int .u64 t0) (.int .u64 t1) (.int .u64 t2) (.int .u64 t3) (.int .u64 t4), BA3.other5 (.int .u64 t0) (.int .u64 t1) (.int .u64 t2) (.int .u64 t3) (.int .u64 t4) z0, BR3.other5 (.int .u64 t0) (.int .u64 t1) (.int .u64 t2) (.int .u64 t3) (.int .u64 t4) z1, below_set5 _ _ _ _ _ HB3 (Nat.le_of_lt zA)⟩
   case measure => first | (simp [intOf]; done) | (simp [intOf]; omega)
  ·by_cases hend : K = 255
   ·subst hend
    clear hlt hK
    have h0 := BR.cell
    have h0f := BR.free
    go_wp2_with fail
    refine bodyPost_ret (v := .agg #[.int .u64 r0, .int .u64 r1, .int .u64 r2, .int .u64 r3, .int .u64 r4]) ?_ rfl ⟨r0, r1, r2, r3, r4, rfl, hE, ?_⟩
    ·simp [results, Tryz.results95, go_sem, h0]
    ·exact below_set5 _ _ _ _ _ HW (by omega)
   ·have hc : K = 250 ∨ K = 251 ∨ K = 252 ∨ K = 253 ∨ K = 254 := by omega
    clear hend
    rcases hc with hK250 | hK251 | hK252 | hK253 | hK254
    ·subst hK250
     clear hlt hK
     go_wp2_with fail
     refine Calls.mono (Mul_any hE hE _) ?_
     rintro e w2 ⟨s0, s1, s2, s3, s4, rfl, hE2, hb2⟩
     have BA2 := BA.old hb2
     have BR2 := BR.old hb2
     have BO2 := BO.old hb2
     have HB2 : Below w.heap.size w w2 := HW.trans (hb2.mono HW.size)
     have cO2 := BO2.cell
     have fO2 := BO2.free
     have cA2 := BA2.cell
     clear hb2 cA cO
     dsimp only
     go_wp2_with fail
     go_roundw
     case rel => exact ⟨251, s0, s1, s2, s3, s4, (by rfl), by omega, by rw [invAt_not x 250 (by decide)]; exact hE2, BO2.set5 (.int .u64 s0) (.int .u64 s1) (.int .u64 s2) (.int .u64 s3) (.int .u64 s4), BA2.other5 (.int .u64 s0) (.int .u64 s1) (.int .u64 s2) (.int .u64 s3) (.int .u64 s4) z0, BR2.other5 (.int .u64 s0) (.int .u64 s1) (.int .u64 s2) (.int .u64 s3) (.int .u64 s4) z1, below_set5 _ _ _ _ _ HB2 (Nat.le_of_lt zA)⟩
     case measure => simp [intOf]
    ·subst hK251
     clear hlt hK
     go_wp2_with fail
     refine Calls.mono (Mul_any hE hE _) ?_
     rintro e w2 ⟨s0, s1, s2, s3, s4, rfl, hE2, hb2⟩
     have BA2 := BA.old hb2
     have BR2 := BR.old hb2
     have BO2 := BO.old hb2
     have HB2 : Below w.heap.size w w2 := HW.trans (hb2.mono HW.size)
     have cO2 := BO2.cell
     have fO2 := BO2.free
     have cA2 := BA2.cell
     clear hb2 cA cO
     dsimp only
     go_wp2_with fail
     refine Calls.mono (Mul_any hE2 ha _) ?_
     rintro e w3 ⟨t0, t1, t2, t3, t4, rfl, hE3, hb3⟩
     have BA3 := hb3.blk (BA2.other5 (.int .u64 s0) (.int .u64 s1) (.int .u64 s2) (.int .u64 s3) (.int .u64 s4) z0) (by rw [size_set5]; exact BA2.lt)
     have BR3 := hb3.blk (BR2.other5 (.int .u64 s0) (.int .u64 s1) (.int .u64 s2) (.int .u64 s3) (.int .u64 s4) z1) (by rw [size_set5]; exact BR2.lt)
     have BO3 := hb3.blk (BO2.set5 (.int .u64 s0) (.int .u64 s1) (.int .u64 s2) (.int .u64 s3) (.int .u64 s4)) (by rw [size_set5]; exact BO2.lt)
     have HB3 : Below w.heap.size w w3 := (below_set5 _ _ _ _ _ HB2 (Nat.le_of_lt zA)).trans (hb3.mono (by rw [size_set5]; exact HB2.size))
     have cO3 := BO3.cell
     have fO3 := BO3.free
     clear hb3 cO2 fO2 cA2
     dsimp only
     go_wp2_with fail
     go_roundw
     case rel => exact ⟨252, t0, t1, t2, t3, t4, (by rfl), by omega, by rw [invAt_set x 251 (by decide)]; exact hE3, BO3.set5 (.int .u64 t0) (.int .u64 t1) (.int .u64 t2) (.int .u64 t3) (.int .u64 t4), BA3.other5 (.int .u64 t0) (.int .u64 t1) (.int .u64 t2) (.int .u64 t3) (.int .u64 t4) z0, BR3.other5 (.int .u64 t0) (.int .u64 t1) (.int .u64 t2) (.int .u64 t3) (.int .u64 t4) z1, below_set5 _ _ _ _ _ HB3 (Nat.le_of_lt zA)⟩
     case measure => first | (simp [intOf]; done) | (simp [intOf]; omega)
    ·subst hK252
     clear hlt hK
     go_wp2_with fail
     refine Calls.mono (Mul_any hE hE _) ?_
     rintro e w2 ⟨s0, s1, s2, s3, s4, rfl, hE2, hb2⟩
     have BA2 := BA.old hb2
     have BR2 := BR.old hb2
     have BO2 := BO.old hb2
     have HB2 : Below w.heap.size w w2 := HW.trans (hb2.mono HW.size)
     have cO2 := BO2.cell
     have fO2 := BO2.free
     have cA2 := BA2.cell
     clear hb2 cA cO
     dsimp only
     go_wp2_with fail
     go_roundw
     case rel => exact ⟨253, s0, s1, s2, s3, s4, (by rfl), by omega, by rw [invAt_not x 252 (by decide)]; exact hE2, BO2.set5 (.int .u64 s0) (.int .u64 s1) (.int .u64 s2) (.int .u64 s3) (.int .u64 s4), BA2.other5 (.int .u64 s0) (.int .u64 s1) (.int .u64 s2) (.int .u64 s3) (.int .u64 s4) z0, BR2.other5 (.int .u64 s0) (.int .u64 s1) (.int .u64 s2) (.int .u64 s3) (.int .u64 s4) z1, below_set5 _ _ _ _ _ HB2 (Nat.le_of_lt zA)⟩
     case measure => simp [intOf]
    ·subst hK253
     clear hlt hK
     go_wp2_with fail
     refine Calls.mono (Mul_any hE hE _) ?_
     rintro e w2 ⟨s0, s1, s2, s3, s4, rfl, hE2, hb2⟩
     have BA2 := BA.old hb2
     have BR2 := BR.old hb2
     have BO2 := BO.old hb2
     have HB2 : Below w.heap.size w w2 := HW.trans (hb2.mono HW.size)
     have cO2 := BO2.cell
     have fO2 := BO2.free
     have cA2 := BA2.cell
     clear hb2 cA cO
     dsimp only
     go_wp2_with fail
     refine Calls.mono (Mul_any hE2 ha _) ?_
     rintro e w3 ⟨t0, t1, t2, t3, t4, rfl, hE3, hb3⟩
     have BA3 := hb3.blk (BA2.other5 (.int .u64 s0) (.int .u64 s1) (.int .u64 s2) (.int .u64 s3) (.int .u64 s4) z0) (by rw [size_set5]; exact BA2.lt)
     have BR3 := hb3.blk (BR2.other5 (.int .u64 s0) (.int .u64 s1) (.int .u64 s2) (.int .u64 s3) (.int .u64 s4) z1) (by rw [size_set5]; exact BR2.lt)
     have BO3 := hb3.blk (BO2.set5 (.int .u64 s0) (.int .u64 s1) (.int .u64 s2) (.int .u64 s3) (.int .u64 s4)) (by rw [size_set5]; exact BO2.lt)
     have HB3 : Below w.heap.size w w3 := (below_set5 _ _ _ _ _ HB2 (Nat.le_of_lt zA)).trans (hb3.mono (by rw [size_set5]; exact HB2.size))
     have cO3 := BO3.cell
     have fO3 := BO3.free
     clear hb3 cO2 fO2 cA2
     dsimp only
     go_wp2_with fail
     go_roundw
     case rel => exact ⟨254, t0, t1, t2, t3, t4, (by rfl), by omega, by rw [invAt_set x 253 (by decide)]; exact hE3, BO3.set5 (.int .u64 t0) (.int .u64 t1) (.int .u64 t2) (.int .u64 t3) (.int .u64 t4), BA3.other5 (.int .u64 t0) (.int .u64 t1) (.int .u64 t2) (.int .u64 t3) (.int .u64 t4) z0, BR3.other5 (.int .u64 t0) (.int .u64 t1) (.int .u64 t2) (.int .u64 t3) (.int .u64 t4) z1, below_set5 _ _ _ _ _ HB3 (Nat.le_of_lt zA)⟩
     case measure => first | (simp [intOf]; done) | (simp [intOf]; omega)
    ·subst hK254
     clear hlt hK
     go_wp2_with fail
     refine Calls.mono (Mul_any hE hE _) ?_
     rintro e w2 ⟨s0, s1, s2, s3, s4, rfl, hE2, hb2⟩
     have BA2 := BA.old hb2
     have BR2 := BR.old hb2
     have BO2 := BO.old hb2
     have HB2 : Below w.heap.size w w2 := HW.trans (hb2.mono HW.size)
     have cO2 := BO2.cell
     have fO2 := BO2.free
     have cA2 := BA2.cell
     clear hb2 cA cO
     dsimp only
     go_wp2_with fail
     refine Calls.mono (Mul_any hE2 ha _) ?_
     rintro e w3 ⟨t0, t1, t2, t3, t4, rfl, hE3, hb3⟩
     have BA3 := hb3.blk (BA2.other5 (.int .u64 s0) (.int .u64 s1) (.int .u64 s2) (.int .u64 s3) (.int .u64 s4) z0) (by rw [size_set5]; exact BA2.lt)
     have BR3 := hb3.blk (BR2.other5 (.int .u64 s0) (.int .u64 s1) (.int .u64 s2) (.int .u64 s3) (.int .u64 s4) z1) (by rw [size_set5]; exact BR2.lt)
     have BO3 := hb3.blk (BO2.set5 (.int .u64 s0) (.int .u64 s1) (.int .u64 s2) (.int .u64 s3) (.int .u64 s4)) (by rw [size_set5]; exact BO2.lt)
     have HB3 : Below w.heap.size w w3 := (below_set5 _ _ _ _ _ HB2 (Nat.le_of_lt zA)).trans (hb3.mono (by rw [size_set5]; exact HB2.size))
     have cO3 := BO3.cell
     have fO3 := BO3.free
     clear hb3 cO2 fO2 cA2
     dsimp only
     go_wp2_with fail
     go_roundw
     case rel => exact ⟨255, t0, t1, t2, t3, t4, (by rfl), by omega, by rw [invAt_set x 254 (by decide)]; exact hE3, BO3.set5 (.int .u64 t0) (.int .u64 t1) (.int .u64 t2) (.int .u64 t3) (.int .u64 t4), BA3.other5 (.int .u64 t0) (.int .u64 t1) (.int .u64 t2) (.int .u64 t3) (.int .u64 t4) z0, BR3.other5 (.int .u64 t0) (.int .u64 t1) (.int .u64 t2) (.int .u64 t3) (.int .u64 t4) z1, below_set5 _ _ _ _ _ HB3 (Nat.le_of_lt zA)⟩
     case measure => first | (simp [intOf]; done) | (simp [intOf]; omega)
def expA : Nat → Nat
 | 0 => 0
 | k + 1 => expA k + expA k + bif bitP (254 - k) then 1 else 0
theorem invAt_pow (x : F) (k : Nat) : invAt x k = fpow x (expA k) := by
 induction k with
 | zero => rfl
 | succ k ih =>
  cases h : bitP (254 - k) with
  | true => rw [invAt_set x k h, ih]; simp only [expA, h, cond_true, fpow, fpow_add]; grind
  | false => rw [invAt_not x k h, ih]; simp only [expA, h, cond_false, Nat.add_zero, fpow_add]
theorem finv_eq (x : F) : finv x = fi x := by
 have e : expA 255 = P - 2 := by decide +kernel
 unfold finv fi
 rw [invAt_pow, e]
theorem Inv_V {x : F} (hu : ElV x u) (w : World) : Calls Tryz.prog 95 #[u] w fun e w' => ∃ r, e = .returned r ∧ ElV (fi x) r ∧ Below w.heap.size w w' := by
 obtain ⟨a0, a1, a2, a3, a4, rfl, ha⟩ := hu
 exact (Inv_any ha w).mono fun e w' ⟨r0, r1, r2, r3, r4, he, hE, hB⟩ => ⟨_, he, ⟨_, _, _, _, _, rfl, by rw [← finv_eq]; exact hE⟩, hB⟩
end Go.Proofs.YtkhbihnnkflfkaaGreat
