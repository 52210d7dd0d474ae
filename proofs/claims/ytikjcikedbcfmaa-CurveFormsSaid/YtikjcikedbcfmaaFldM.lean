/-
  FieldA · FieldB · FieldC · FieldD · BytesMath · FieldE · Equal · FieldF · FieldG · FieldV, IN ONE TEXT.
-/
import Derived.Test.YtikjcikedbcfmaaBase
import Derived.Test.YtikjcikedbcfmaaMath
import Derived.Test.YtikjcikedbcfmaaBits64
import Derived.Test.YtikjcikedbcfmaaBytes1
import Derived.Test.YtikjcikedbcfmaaAnyM
/-
  WALKS: package field: carried, Of, Add, Sub.
-/
namespace Go.Proofs.Ytikjcikedbcfmaa
open Go.RowKit
set_option maxRecDepth 100000

set_option maxHeartbeats 1000000 in
theorem carried_raw (a0 a1 a2 a3 a4 : Int) (w : World) :
    Calls Try.prog 34 #[.agg #[.int .u64 a0, .int .u64 a1, .int .u64 a2, .int .u64 a3, .int .u64 a4]] w fun e w' =>
      e = .returned (.agg #[.int .u64 (c0 a0 a4), .int .u64 (c1 a1 a0), .int .u64 (c1 a2 a1), .int .u64 (c1 a3 a2), .int .u64 (c1 a4 a3)]) ∧ Below w.heap.size w w' := by
  go_enter Try.func34, Try.ntmps34
  go_wp2
  go_rounds 6
  go_rounds 6
  refine bodyPost_ret (v := .agg #[.int .u64 (c0 a0 a4), .int .u64 (c1 a1 a0), .int .u64 (c1 a2 a1), .int .u64 (c1 a3 a2), .int .u64 (c1 a4 a3)]) ?_ rfl ⟨rfl, ?_⟩
  · simp [results, Try.results34, go_sem]
    exact ⟨rfl, rfl, rfl, rfl, rfl⟩
  · exact (((Below.refl _ _).alloc (Nat.le_refl _) _).alloc (by simp) _).alloc (by simp; omega) _

/-- An element's value, of a number. -/
def ElV (x : F) (v : Value) : Prop := ∃ a0 a1 a2 a3 a4 : Int, v = .agg #[.int .u64 a0, .int .u64 a1, .int .u64 a2, .int .u64 a3, .int .u64 a4] ∧ El x a0 a1 a2 a3 a4

theorem carried_any (a0 a1 a2 a3 a4 : Int) (w : World) (l0 : 0 ≤ a0) (h0 : a0 < 18446744073709551616) (l1 : 0 ≤ a1) (h1 : a1 < 18446744073709551616)
    (l2 : 0 ≤ a2) (h2 : a2 < 18446744073709551616) (l3 : 0 ≤ a3) (h3 : a3 < 18446744073709551616) (l4 : 0 ≤ a4) (h4 : a4 < 18446744073709551616) :
    Calls Try.prog 34 #[.agg #[.int .u64 a0, .int .u64 a1, .int .u64 a2, .int .u64 a3, .int .u64 a4]] w fun e w' =>
      ∃ r0 r1 r2 r3 r4 : Int, e = .returned (.agg #[.int .u64 r0, .int .u64 r1, .int .u64 r2, .int .u64 r3, .int .u64 r4]) ∧ El (toF (S5 a0 a1 a2 a3 a4)) r0 r1 r2 r3 r4 ∧ Below w.heap.size w w' :=
  (carried_raw a0 a1 a2 a3 a4 w).mono fun _ _ ⟨he, hb⟩ => ⟨_, _, _, _, _, he, carried_El a0 a1 a2 a3 a4 l0 h0 l1 h1 l2 h2 l3 h3 l4 h4, hb⟩

set_option maxHeartbeats 1000000 in
theorem Of_raw (n : Int) (w : World) :
    Calls Try.prog 9 #[.int .u64 n] w fun e w' =>
      e = .returned (.agg #[.int .u64 (c0 n 0), .int .u64 (c1 0 n), .int .u64 (c1 0 0), .int .u64 (c1 0 0), .int .u64 (c1 0 0)]) ∧ Below w.heap.size w w' := by
  go_enter Try.func9, Try.ntmps9
  go_wp2_with (go_at_call 34; refine (carried_raw _ _ _ _ _ _).mono ?_; rintro e w' ⟨rfl, hb⟩; obtain ⟨hc, hf⟩ := bcell hb)
  refine bodyPost_ret (v := .agg #[.int .u64 (c0 n 0), .int .u64 (c1 0 n), .int .u64 (c1 0 0), .int .u64 (c1 0 0), .int .u64 (c1 0 0)]) ?_ rfl ⟨rfl, ?_⟩
  · simp [results, Try.results9, go_sem, hc]
  · repeat' first | (with_reducible exact Below.refl _ _) | (with_reducible refine Below.setCell ?_ (by first | (simp; done) | (simp; omega) | omega) _) | (with_reducible refine Below.alloc ?_ (by first | (simp; done) | (simp; omega) | omega) _) | (with_reducible refine Below.drew ?_) | (with_reducible refine Below.trans ?_ (Below.mono (by assumption) (by first | (simp; done) | (simp; omega) | omega)))

set_option maxHeartbeats 2000000 in
theorem Add_raw (a0 a1 a2 a3 a4 b0 b1 b2 b3 b4 : Int) (w : World) :
    Calls Try.prog 12 #[.agg #[.int .u64 a0, .int .u64 a1, .int .u64 a2, .int .u64 a3, .int .u64 a4], .agg #[.int .u64 b0, .int .u64 b1, .int .u64 b2, .int .u64 b3, .int .u64 b4]] w fun e w' =>
      e = .returned (.agg #[.int .u64 (c0 (IntKind.u64.wrap (a0 + b0)) (IntKind.u64.wrap (a4 + b4))), .int .u64 (c1 (IntKind.u64.wrap (a1 + b1)) (IntKind.u64.wrap (a0 + b0))), .int .u64 (c1 (IntKind.u64.wrap (a2 + b2)) (IntKind.u64.wrap (a1 + b1))),
        .int .u64 (c1 (IntKind.u64.wrap (a3 + b3)) (IntKind.u64.wrap (a2 + b2))), .int .u64 (c1 (IntKind.u64.wrap (a4 + b4)) (IntKind.u64.wrap (a3 + b3)))]) ∧ Below w.heap.size w w' := by
  go_enter Try.func12, Try.ntmps12
  go_wp2
  refine wp_loop_rounds 6 ?_
  iterate 5 (rw [rounds_succ]; go_wp2; (refine tail_any 11 (by kernel_rfl) ?_; rintro W rfl; simp only [List.take_succ_cons, List.take_zero, List.drop_succ_cons, List.drop_zero]; (repeat still_step); refine wpStill_nil ?_); go_wp2)
  rw [rounds_succ]
  go_wp2_with (go_at_call 34; refine (carried_raw _ _ _ _ _ _).mono ?_; rintro e w' ⟨rfl, hb⟩; obtain ⟨hc, hf⟩ := bcell hb)
  refine bodyPost_ret (v := .agg #[.int .u64 (c0 (IntKind.u64.wrap (a0 + b0)) (IntKind.u64.wrap (a4 + b4))), .int .u64 (c1 (IntKind.u64.wrap (a1 + b1)) (IntKind.u64.wrap (a0 + b0))), .int .u64 (c1 (IntKind.u64.wrap (a2 + b2)) (IntKind.u64.wrap (a1 + b1))),
        .int .u64 (c1 (IntKind.u64.wrap (a3 + b3)) (IntKind.u64.wrap (a2 + b2))), .int .u64 (c1 (IntKind.u64.wrap (a4 + b4)) (IntKind.u64.wrap (a3 + b3)))]) ?_ rfl ⟨rfl, ?_⟩
  · simp [results, Try.results12, go_sem, hc]
  · repeat' first | (with_reducible exact Below.refl _ _) | (with_reducible refine Below.setCell ?_ (by first | (simp; done) | (simp; omega) | omega) _) | (with_reducible refine Below.alloc ?_ (by first | (simp; done) | (simp; omega) | omega) _) | (with_reducible refine Below.drew ?_) | (with_reducible refine Below.trans ?_ (Below.mono (by assumption) (by first | (simp; done) | (simp; omega) | omega)))

set_option maxHeartbeats 2000000 in
theorem Sub_raw (a0 a1 a2 a3 a4 b0 b1 b2 b3 b4 : Int) (w : World) :
    Calls Try.prog 14 #[.agg #[.int .u64 a0, .int .u64 a1, .int .u64 a2, .int .u64 a3, .int .u64 a4], .agg #[.int .u64 b0, .int .u64 b1, .int .u64 b2, .int .u64 b3, .int .u64 b4]] w fun e w' =>
      e = .returned (.agg #[.int .u64 (c0 (IntKind.u64.wrap (a0 + IntKind.u64.wrap (9007199254740916 - b0))) (IntKind.u64.wrap (a4 + IntKind.u64.wrap (9007199254740988 - b4)))), .int .u64 (c1 (IntKind.u64.wrap (a1 + IntKind.u64.wrap (9007199254740988 - b1))) (IntKind.u64.wrap (a0 + IntKind.u64.wrap (9007199254740916 - b0)))), .int .u64 (c1 (IntKind.u64.wrap (a2 + IntKind.u64.wrap (9007199254740988 - b2))) (IntKind.u64.wrap (a1 + IntKind.u64.wrap (9007199254740988 - b1)))), .int .u64 (c1 (IntKind.u64.wrap (a3 + IntKind.u64.wrap (9007199254740988 - b3))) (IntKind.u64.wrap (a2 + IntKind.u64.wrap (9007199254740988 - b2)))), .int .u64 (c1 (IntKind.u64.wrap (a4 + IntKind.u64.wrap (9007199254740988 - b4))) (IntKind.u64.wrap (a3 + IntKind.u64.wrap (9007199254740988 - b3))))]) ∧ Below w.heap.size w w' := by
  go_enter Try.func14, Try.ntmps14
  go_wp2
  refine wp_loop_rounds 6 ?_
  iterate 5 (rw [rounds_succ]; go_wp2; (refine tail_any 13 (by kernel_rfl) ?_; rintro W rfl; simp only [List.take_succ_cons, List.take_zero, List.drop_succ_cons, List.drop_zero]; (repeat still_step); refine wpStill_nil ?_); go_wp2)
  rw [rounds_succ]
  go_wp2_with (go_at_call 34; refine (carried_raw _ _ _ _ _ _).mono ?_; rintro e w' ⟨rfl, hb⟩; obtain ⟨hc, hf⟩ := bcell hb)
  refine bodyPost_ret (v := .agg #[.int .u64 (c0 (IntKind.u64.wrap (a0 + IntKind.u64.wrap (9007199254740916 - b0))) (IntKind.u64.wrap (a4 + IntKind.u64.wrap (9007199254740988 - b4)))), .int .u64 (c1 (IntKind.u64.wrap (a1 + IntKind.u64.wrap (9007199254740988 - b1))) (IntKind.u64.wrap (a0 + IntKind.u64.wrap (9007199254740916 - b0)))), .int .u64 (c1 (IntKind.u64.wrap (a2 + IntKind.u64.wrap (9007199254740988 - b2))) (IntKind.u64.wrap (a1 + IntKind.u64.wrap (9007199254740988 - b1)))), .int .u64 (c1 (IntKind.u64.wrap (a3 + IntKind.u64.wrap (9007199254740988 - b3))) (IntKind.u64.wrap (a2 + IntKind.u64.wrap (9007199254740988 - b2)))), .int .u64 (c1 (IntKind.u64.wrap (a4 + IntKind.u64.wrap (9007199254740988 - b4))) (IntKind.u64.wrap (a3 + IntKind.u64.wrap (9007199254740988 - b3))))]) ?_ rfl ⟨rfl, ?_⟩
  · simp [results, Try.results14, go_sem, hc]
  · repeat' first | (with_reducible exact Below.refl _ _) | (with_reducible refine Below.setCell ?_ (by first | (simp; done) | (simp; omega) | omega) _) | (with_reducible refine Below.alloc ?_ (by first | (simp; done) | (simp; omega) | omega) _) | (with_reducible refine Below.drew ?_) | (with_reducible refine Below.trans ?_ (Below.mono (by assumption) (by first | (simp; done) | (simp; omega) | omega)))

theorem Of_any (n : Int) (w : World) (h0 : 0 ≤ n) (h1 : n < 18446744073709551616) :
    Calls Try.prog 9 #[.int .u64 n] w fun e w' =>
      ∃ r0 r1 r2 r3 r4 : Int, e = .returned (.agg #[.int .u64 r0, .int .u64 r1, .int .u64 r2, .int .u64 r3, .int .u64 r4]) ∧ El (toF n) r0 r1 r2 r3 r4 ∧ Below w.heap.size w w' :=
  (Of_raw n w).mono fun _ _ ⟨he, hb⟩ => ⟨_, _, _, _, _, he, by
    have h := carried_El n 0 0 0 0 h0 h1 (by omega) (by omega) (by omega) (by omega) (by omega) (by omega) (by omega) (by omega)
    simpa [S5] using h, hb⟩

theorem Add_any {x y : F} {a0 a1 a2 a3 a4 b0 b1 b2 b3 b4 : Int} (ha : El x a0 a1 a2 a3 a4) (hb : El y b0 b1 b2 b3 b4) (w : World) :
    Calls Try.prog 12 #[.agg #[.int .u64 a0, .int .u64 a1, .int .u64 a2, .int .u64 a3, .int .u64 a4], .agg #[.int .u64 b0, .int .u64 b1, .int .u64 b2, .int .u64 b3, .int .u64 b4]] w fun e w' =>
      ∃ r0 r1 r2 r3 r4 : Int, e = .returned (.agg #[.int .u64 r0, .int .u64 r1, .int .u64 r2, .int .u64 r3, .int .u64 r4]) ∧ El (x + y) r0 r1 r2 r3 r4 ∧ Below w.heap.size w w' :=
  (Add_raw a0 a1 a2 a3 a4 b0 b1 b2 b3 b4 w).mono fun _ _ ⟨he, hw⟩ => ⟨_, _, _, _, _, he, by
    have e : ∀ u v : Int, 0 ≤ u → u < 4503599627370496 → 0 ≤ v → v < 4503599627370496 → IntKind.u64.wrap (u + v) = u + v := by intro u v _ _ _ _; rw [wrap64u]; omega
    obtain ⟨la0, ha0, la1, ha1, la2, ha2, la3, ha3, la4, ha4, rfl⟩ := ha
    obtain ⟨lb0, hb0, lb1, hb1, lb2, hb2, lb3, hb3, lb4, hb4, rfl⟩ := hb
    rw [e a0 b0 la0 ha0 lb0 hb0, e a1 b1 la1 ha1 lb1 hb1, e a2 b2 la2 ha2 lb2 hb2, e a3 b3 la3 ha3 lb3 hb3, e a4 b4 la4 ha4 lb4 hb4]
    have h := carried_El (a0 + b0) (a1 + b1) (a2 + b2) (a3 + b3) (a4 + b4) (by omega) (by omega) (by omega) (by omega) (by omega) (by omega) (by omega) (by omega) (by omega) (by omega)
    have e2 : toF (S5 (a0 + b0) (a1 + b1) (a2 + b2) (a3 + b3) (a4 + b4)) = toF (S5 a0 a1 a2 a3 a4) + toF (S5 b0 b1 b2 b3 b4) := by
      rw [← toF_add]; congr 1; unfold S5; omega
    rw [e2] at h
    exact h, hw⟩

theorem Sub_any {x y : F} {a0 a1 a2 a3 a4 b0 b1 b2 b3 b4 : Int} (ha : El x a0 a1 a2 a3 a4) (hb : El y b0 b1 b2 b3 b4) (w : World) :
    Calls Try.prog 14 #[.agg #[.int .u64 a0, .int .u64 a1, .int .u64 a2, .int .u64 a3, .int .u64 a4], .agg #[.int .u64 b0, .int .u64 b1, .int .u64 b2, .int .u64 b3, .int .u64 b4]] w fun e w' =>
      ∃ r0 r1 r2 r3 r4 : Int, e = .returned (.agg #[.int .u64 r0, .int .u64 r1, .int .u64 r2, .int .u64 r3, .int .u64 r4]) ∧ El (x - y) r0 r1 r2 r3 r4 ∧ Below w.heap.size w w' :=
  (Sub_raw a0 a1 a2 a3 a4 b0 b1 b2 b3 b4 w).mono fun _ _ ⟨he, hw⟩ => ⟨_, _, _, _, _, he, by
    have e : ∀ u v c : Int, 0 ≤ u → u < 4503599627370496 → 0 ≤ v → v < 4503599627370496 → 9007199254740000 ≤ c → c < 9007199254740990 → IntKind.u64.wrap (u + IntKind.u64.wrap (c - v)) = u + (c - v) := by intro u v c _ _ _ _ _ _; rw [wrap64u, wrap64u]; omega
    obtain ⟨la0, ha0, la1, ha1, la2, ha2, la3, ha3, la4, ha4, rfl⟩ := ha
    obtain ⟨lb0, hb0, lb1, hb1, lb2, hb2, lb3, hb3, lb4, hb4, rfl⟩ := hb
    rw [e a0 b0 _ la0 ha0 lb0 hb0 (by omega) (by omega), e a1 b1 _ la1 ha1 lb1 hb1 (by omega) (by omega), e a2 b2 _ la2 ha2 lb2 hb2 (by omega) (by omega), e a3 b3 _ la3 ha3 lb3 hb3 (by omega) (by omega), e a4 b4 _ la4 ha4 lb4 hb4 (by omega) (by omega)]
    have h := carried_El (a0 + (9007199254740916 - b0)) (a1 + (9007199254740988 - b1)) (a2 + (9007199254740988 - b2)) (a3 + (9007199254740988 - b3)) (a4 + (9007199254740988 - b4)) (by omega) (by omega) (by omega) (by omega) (by omega) (by omega) (by omega) (by omega) (by omega) (by omega)
    have e2 : toF (S5 (a0 + (9007199254740916 - b0)) (a1 + (9007199254740988 - b1)) (a2 + (9007199254740988 - b2)) (a3 + (9007199254740988 - b3)) (a4 + (9007199254740988 - b4))) = toF (S5 a0 a1 a2 a3 a4) - toF (S5 b0 b1 b2 b3 b4) := by
      rw [← toF_sub]
      refine toF_congr 4 ?_
      unfold S5; omega
    rw [e2] at h
    exact h, hw⟩

end Go.Proofs.Ytikjcikedbcfmaa
/-
  WALKS: math/bits.Mul64, Add64; package field: a sum of 128 bits.
-/
namespace Go.Proofs.Ytikjcikedbcfmaa
open Go.RowKit

set_option maxHeartbeats 1000000 in
theorem sumadd_any (T h l a b : Int) (w : World) (hT : W2 T h l) (ha0 : 0 ≤ a) (ha : a < 18446744073709551616) (hb0 : 0 ≤ b) (hb : b < 18446744073709551616)
    (hsum : T + a * b < 340282366920938463463374607431768211456) :
    Calls Try.prog 36 #[.agg #[.int .u64 h, .int .u64 l], .int .u64 a, .int .u64 b] w fun e w' => ∃ h' l', e = .returned (.agg #[.int .u64 h', .int .u64 l']) ∧ W2 (T + a * b) h' l' ∧ Below w.heap.size w w' := by
  have HM := fun w => Mul64_any a b w ha0 ha hb0 hb
  obtain ⟨h0, h1, l0, l1, hn⟩ := hT
  have HN : Hid (18446744073709551616 * h + l = T ∧ h < 18446744073709551616 ∧ l < 18446744073709551616 ∧ T + a * b < 340282366920938463463374607431768211456) := ⟨hn, h1, l1, hsum⟩
  clear hn h1 l1 ha hb hsum
  go_enter Try.func36, Try.ntmps36
  go_wp2_with fail
  refine (HM _).mono ?_
  rintro e w' ⟨h', l', rfl, hW, rfl⟩
  obtain ⟨h0', h1', l0', l1', hn'⟩ := hW
  have e1 := Add64_run l l' 0 l0 l0' (by omega) (by omega)
  have c0 : 0 ≤ (l + l') / 18446744073709551616 := by omega
  have c1 : (l + l') / 18446744073709551616 ≤ 1 := by have := HN.out; omega
  have e2 := Add64_run h h' ((l + l') / 18446744073709551616) h0 h0' c0 c1
  simp only [Int.add_zero] at e1
  have HN' : Hid (18446744073709551616 * h' + l' = a * b ∧ h' < 18446744073709551616 ∧ l' < 18446744073709551616) := ⟨hn', h1', l1'⟩
  clear hn' h1' l1' HM
  go_wp2
  refine bodyPost_ret (v := .agg #[.int .u64 ((h + h' + (l + l') / 18446744073709551616) % 18446744073709551616), .int .u64 ((l + l') % 18446744073709551616)]) ?_ rfl ⟨_, _, rfl, ?_, ?_⟩
  · simp [results, Try.results36, go_sem]
  · have q1 := HN.out
    have q2 := HN'.out
    generalize a * b = ab at *
    exact ⟨by omega, by omega, by omega, by omega, by omega⟩
  · repeat' first | (with_reducible exact Below.refl _ _) | (with_reducible refine Below.setCell ?_ (by first | (simp; done) | (simp; omega) | omega) _) | (with_reducible refine Below.alloc ?_ (by first | (simp; done) | (simp; omega) | omega) _) | (with_reducible refine Below.drew ?_) | (with_reducible refine Below.trans ?_ (Below.mono (by assumption) (by first | (simp; done) | (simp; omega) | omega)))
end Go.Proofs.Ytikjcikedbcfmaa
/-
  WALKS: package field: Mul.
-/
namespace Go.Proofs.Ytikjcikedbcfmaa
open Go.RowKit


theorem idx5_0 (x0 x1 x2 x3 x4 : Int) (w : World) : (Instr.index 25 (.agg #[.int .u64 x0, .int .u64 x1, .int .u64 x2, .int .u64 x3, .int .u64 x4]) (.int .i64 0)).run Try.prog w = .ok (.int .u64 x0) w := by kernel_rfl
theorem idx5_1 (x0 x1 x2 x3 x4 : Int) (w : World) : (Instr.index 25 (.agg #[.int .u64 x0, .int .u64 x1, .int .u64 x2, .int .u64 x3, .int .u64 x4]) (.int .i64 1)).run Try.prog w = .ok (.int .u64 x1) w := by kernel_rfl
theorem idx5_2 (x0 x1 x2 x3 x4 : Int) (w : World) : (Instr.index 25 (.agg #[.int .u64 x0, .int .u64 x1, .int .u64 x2, .int .u64 x3, .int .u64 x4]) (.int .i64 2)).run Try.prog w = .ok (.int .u64 x2) w := by kernel_rfl
theorem idx5_3 (x0 x1 x2 x3 x4 : Int) (w : World) : (Instr.index 25 (.agg #[.int .u64 x0, .int .u64 x1, .int .u64 x2, .int .u64 x3, .int .u64 x4]) (.int .i64 3)).run Try.prog w = .ok (.int .u64 x3) w := by kernel_rfl
theorem idx5_4 (x0 x1 x2 x3 x4 : Int) (w : World) : (Instr.index 25 (.agg #[.int .u64 x0, .int .u64 x1, .int .u64 x2, .int .u64 x3, .int .u64 x4]) (.int .i64 4)).run Try.prog w = .ok (.int .u64 x4) w := by kernel_rfl
theorem idxs_0 (h0 l0 h1 l1 h2 l2 h3 l3 h4 l4 : Int) (w : World) : (Instr.index 58 (.agg #[.int .u64 h0, .int .u64 l0, .int .u64 h1, .int .u64 l1, .int .u64 h2, .int .u64 l2, .int .u64 h3, .int .u64 l3, .int .u64 h4, .int .u64 l4]) (.int .i64 0)).run Try.prog w = .ok (.agg #[.int .u64 h0, .int .u64 l0]) w := by kernel_rfl
theorem idxs_1 (h0 l0 h1 l1 h2 l2 h3 l3 h4 l4 : Int) (w : World) : (Instr.index 58 (.agg #[.int .u64 h0, .int .u64 l0, .int .u64 h1, .int .u64 l1, .int .u64 h2, .int .u64 l2, .int .u64 h3, .int .u64 l3, .int .u64 h4, .int .u64 l4]) (.int .i64 1)).run Try.prog w = .ok (.agg #[.int .u64 h1, .int .u64 l1]) w := by kernel_rfl
theorem idxs_2 (h0 l0 h1 l1 h2 l2 h3 l3 h4 l4 : Int) (w : World) : (Instr.index 58 (.agg #[.int .u64 h0, .int .u64 l0, .int .u64 h1, .int .u64 l1, .int .u64 h2, .int .u64 l2, .int .u64 h3, .int .u64 l3, .int .u64 h4, .int .u64 l4]) (.int .i64 2)).run Try.prog w = .ok (.agg #[.int .u64 h2, .int .u64 l2]) w := by kernel_rfl
theorem idxs_3 (h0 l0 h1 l1 h2 l2 h3 l3 h4 l4 : Int) (w : World) : (Instr.index 58 (.agg #[.int .u64 h0, .int .u64 l0, .int .u64 h1, .int .u64 l1, .int .u64 h2, .int .u64 l2, .int .u64 h3, .int .u64 l3, .int .u64 h4, .int .u64 l4]) (.int .i64 3)).run Try.prog w = .ok (.agg #[.int .u64 h3, .int .u64 l3]) w := by kernel_rfl
theorem idxs_4 (h0 l0 h1 l1 h2 l2 h3 l3 h4 l4 : Int) (w : World) : (Instr.index 58 (.agg #[.int .u64 h0, .int .u64 l0, .int .u64 h1, .int .u64 l1, .int .u64 h2, .int .u64 l2, .int .u64 h3, .int .u64 l3, .int .u64 h4, .int .u64 l4]) (.int .i64 4)).run Try.prog w = .ok (.agg #[.int .u64 h4, .int .u64 l4]) w := by kernel_rfl

/-- A sum of at most k products of a limb (perhaps 19 times) and a limb. -/
structure Acc (k : Nat) (n : Int) (h l : Int) : Prop where
  w2 : W2 n h l
  le : n ≤ (k : Int) * 385373023405425703862868540981248
  ge : 0 ≤ n

theorem mul_le (a b : Int) (ha0 : 0 ≤ a) (ha : a < 85568392920039424) (hb0 : 0 ≤ b) (hb : b < 4503599627370496) : 0 ≤ a * b ∧ a * b ≤ 385373023405425703862868540981248 := by
  refine ⟨Int.mul_nonneg ha0 hb0, ?_⟩
  have h := Int.mul_le_mul (a := a) (b := b) (c := 85568392920039424) (d := 4503599627370496) (by omega) (by omega) hb0 (by omega)
  omega

theorem sum_acc (k : Nat) (T h l a b : Int) (w : World) (hT : Acc k T h l) (hk : k < 10) (ha0 : 0 ≤ a) (ha : a < 85568392920039424) (hb0 : 0 ≤ b) (hb : b < 4503599627370496) :
    Calls Try.prog 36 #[.agg #[.int .u64 h, .int .u64 l], .int .u64 a, .int .u64 b] w fun e w' => ∃ h' l', e = .returned (.agg #[.int .u64 h', .int .u64 l']) ∧ Acc (k + 1) (T + a * b) h' l' ∧ Below w.heap.size w w' := by
  obtain ⟨p0, p1⟩ := mul_le a b ha0 ha hb0 hb
  obtain ⟨w2, le, ge⟩ := hT
  refine (sumadd_any T h l a b w w2 ha0 (by omega) hb0 (by omega) (by omega)).mono ?_
  rintro e w' ⟨h', l', he, hw, hb⟩
  exact ⟨h', l', he, ⟨hw, by omega, by omega⟩, hb⟩

theorem Acc.q {k : Nat} {n h l : Int} (A : Acc k n h l) (hk : k ≤ 5) : bits .or .u64 (IntKind.u64.wrap (h * 8192)) (l / 2251799813685248) = n / 2251799813685248 := by
  obtain ⟨⟨h0, h1, l0, l1, hn⟩, le, ge⟩ := A
  have e : IntKind.u64.wrap (h * 8192) = h * 8192 := by rw [wrap64u]; omega
  rw [e, u64_or _ _ (by omega) (by omega) (by omega) (by omega), nat_join 13 (h * 8192).toNat (l / 2251799813685248).toNat (by omega) (by omega)]
  omega
theorem Acc.r {k : Nat} {n h l : Int} (A : Acc k n h l) : bits .and .u64 l 2251799813685247 = n % 2251799813685248 := by
  obtain ⟨⟨h0, h1, l0, l1, hn⟩, le, ge⟩ := A
  rw [and51 l l0 l1]; omega
theorem Acc.d0 {k k' : Nat} {n h l n' h' l' : Int} (A : Acc k n h l) (A' : Acc k' n' h' l') (hk' : k' ≤ 5) :
    IntKind.u64.wrap (IntKind.u64.wrap (bits .and .u64 l 2251799813685247) + IntKind.u64.wrap (bits .or .u64 (IntKind.u64.wrap (h' * 8192)) (l' / 2251799813685248) * 19)) = n % 2251799813685248 + n' / 2251799813685248 * 19 := by
  rw [A.r, A'.q hk', wrap64u, wrap64u, wrap64u]
  have le := A'.le
  have ge := A'.ge
  omega
theorem Acc.d {k k' : Nat} {n h l n' h' l' : Int} (A : Acc k n h l) (A' : Acc k' n' h' l') (hk : k ≤ 5) :
    IntKind.u64.wrap (IntKind.u64.wrap (bits .or .u64 (IntKind.u64.wrap (h * 8192)) (l / 2251799813685248)) + bits .and .u64 l' 2251799813685247) = n / 2251799813685248 + n' % 2251799813685248 := by
  rw [A'.r, A.q hk, wrap64u, wrap64u]
  have le := A.le
  have ge := A.ge
  omega
theorem S5_fold (n0 n1 n2 n3 n4 : Int) : toF (S5 (n0 % 2251799813685248 + n4 / 2251799813685248 * 19) (n0 / 2251799813685248 + n1 % 2251799813685248) (n1 / 2251799813685248 + n2 % 2251799813685248) (n2 / 2251799813685248 + n3 % 2251799813685248) (n3 / 2251799813685248 + n4 % 2251799813685248)) = toF (S5 n0 n1 n2 n3 n4) := by
  refine toF_congr (- (n4 / 2251799813685248)) ?_
  unfold S5
  omega

set_option maxHeartbeats 8000000 in
theorem Mul_any {x y : F} {a0 a1 a2 a3 a4 b0 b1 b2 b3 b4 : Int} (ha : El x a0 a1 a2 a3 a4) (hb : El y b0 b1 b2 b3 b4) (w : World) :
    Calls Try.prog 16 #[.agg #[.int .u64 a0, .int .u64 a1, .int .u64 a2, .int .u64 a3, .int .u64 a4], .agg #[.int .u64 b0, .int .u64 b1, .int .u64 b2, .int .u64 b3, .int .u64 b4]] w fun e w' =>
      ∃ r0 r1 r2 r3 r4 : Int, e = .returned (.agg #[.int .u64 r0, .int .u64 r1, .int .u64 r2, .int .u64 r3, .int .u64 r4]) ∧ El (x * y) r0 r1 r2 r3 r4 ∧ Below w.heap.size w w' := by
  obtain ⟨la0, ha0, la1, ha1, la2, ha2, la3, ha3, la4, ha4, hx⟩ := ha
  obtain ⟨lb0, hb0, lb1, hb1, lb2, hb2, lb3, hb3, lb4, hb4, hy⟩ := hb
  have HX : Hid (toF (S5 a0 a1 a2 a3 a4) = x) := hx
  have HY : Hid (toF (S5 b0 b1 b2 b3 b4) = y) := hy
  clear hx hy
  have z : Acc 0 0 0 0 := ⟨⟨by omega, by omega, by omega, by omega, by omega⟩, by omega, by omega⟩
  have ia0 := idx5_0 a0 a1 a2 a3 a4
  have ib0 := idx5_0 b0 b1 b2 b3 b4
  have ia1 := idx5_1 a0 a1 a2 a3 a4
  have ib1 := idx5_1 b0 b1 b2 b3 b4
  have ia2 := idx5_2 a0 a1 a2 a3 a4
  have ib2 := idx5_2 b0 b1 b2 b3 b4
  have ia3 := idx5_3 a0 a1 a2 a3 a4
  have ib3 := idx5_3 b0 b1 b2 b3 b4
  have ia4 := idx5_4 a0 a1 a2 a3 a4
  have ib4 := idx5_4 b0 b1 b2 b3 b4
  go_enter Try.func16, Try.ntmps16
  go_wp2
  refine wp_loop_rounds 6 ?_
  refine rounds_step ?_
  go_wp2
  refine wp_loop_rounds 6 ?_
  refine rounds_step ?_
  go_wp2_with fail
  refine Calls.mono (sum_acc 0 (0) 0 0 a0 b0 _ z (by omega) (by omega) (by omega) (by omega) (by omega)) ?_
  rintro e w1 ⟨h1, l1, rfl, hW1, hb⟩
  have B0 : Blk w1 (w.heap.size) #[.int .u64 a0, .int .u64 a1, .int .u64 a2, .int .u64 a3, .int .u64 a4] 27 := (((((Blk.new w _ _).alloc _).alloc _).alloc _)).old hb
  have B1 : Blk w1 (w.heap.size + 1) #[.int .u64 b0, .int .u64 b1, .int .u64 b2, .int .u64 b3, .int .u64 b4] 27 := ((((Blk.at (w := w.alloc _) _ _ (by simp)).alloc _).alloc _)).old hb
  have B2 : Blk w1 (w.heap.size + 1 + 1) #[.int .u64 0, .int .u64 0, .int .u64 0, .int .u64 0, .int .u64 0] 27 := (((Blk.at (w := (w.alloc _).alloc _) _ _ (by simp)).alloc _)).old hb
  have B3 : Blk w1 (w.heap.size + 1 + 1 + 1) #[.int .u64 0, .int .u64 0, .int .u64 0, .int .u64 0, .int .u64 0, .int .u64 0, .int .u64 0, .int .u64 0, .int .u64 0, .int .u64 0] 58 := ((Blk.at (w := ((w.alloc _).alloc _).alloc _) _ _ (by simp))).old hb
  have HB : Below w.heap.size w w1 := ((((Below.refl _ _).alloc (Nat.le_refl _) _).alloc (by simp) _).alloc (by first | (simp; done) | (simp; omega) | omega) _ |>.alloc (by first | (simp; done) | (simp; omega) | omega) _).trans (hb.mono (by first | (simp; done) | (simp; omega) | omega))
  clear hb
  have c0 := B0.cell
  have f0 := B0.free
  have c1 := B1.cell
  have f1 := B1.free
  have c2 := B2.cell
  have f2 := B2.free
  have c3 := B3.cell
  have f3 := B3.free
  dsimp only
  go_wp2_with fail
  refine rounds_step ?_
  go_wp2_with fail
  refine Calls.mono (sum_acc 0 (0) 0 0 a0 b1 _ z (by omega) (by omega) (by omega) (by omega) (by omega)) ?_
  rintro e w2 ⟨h2, l2, rfl, hW2, hb⟩
  replace B0 : Blk w2 (w.heap.size) #[.int .u64 a0, .int .u64 a1, .int .u64 a2, .int .u64 a3, .int .u64 a4] 27 := B0.pass2 hb (by first | (simp; done) | (simp; omega) | omega) (by first | (simp; done) | (simp; omega) | omega)
  replace B1 : Blk w2 (w.heap.size + 1) #[.int .u64 b0, .int .u64 b1, .int .u64 b2, .int .u64 b3, .int .u64 b4] 27 := B1.pass2 hb (by first | (simp; done) | (simp; omega) | omega) (by first | (simp; done) | (simp; omega) | omega)
  replace B2 : Blk w2 (w.heap.size + 1 + 1) #[.int .u64 0, .int .u64 0, .int .u64 0, .int .u64 0, .int .u64 0] 27 := B2.pass2 hb (by first | (simp; done) | (simp; omega) | omega) (by first | (simp; done) | (simp; omega) | omega)
  replace B3 : Blk w2 (w.heap.size + 1 + 1 + 1) #[.int .u64 h1, .int .u64 l1, .int .u64 0, .int .u64 0, .int .u64 0, .int .u64 0, .int .u64 0, .int .u64 0, .int .u64 0, .int .u64 0] 58 := B3.in2 hb
  replace HB : Below w.heap.size w w2 := below2 HB hb HB.size (by first | (simp; done) | (simp; omega) | omega) (by first | (simp; done) | (simp; omega) | omega)
  clear hb c0 c1 c2 c3 f0 f1 f2 f3
  have c0 := B0.cell
  have f0 := B0.free
  have c1 := B1.cell
  have f1 := B1.free
  have c2 := B2.cell
  have f2 := B2.free
  have c3 := B3.cell
  have f3 := B3.free
  dsimp only
  go_wp2_with fail
  refine rounds_step ?_
  go_wp2_with fail
  refine Calls.mono (sum_acc 0 (0) 0 0 a0 b2 _ z (by omega) (by omega) (by omega) (by omega) (by omega)) ?_
  rintro e w3 ⟨h3, l3, rfl, hW3, hb⟩
  replace B0 : Blk w3 (w.heap.size) #[.int .u64 a0, .int .u64 a1, .int .u64 a2, .int .u64 a3, .int .u64 a4] 27 := B0.pass2 hb (by first | (simp; done) | (simp; omega) | omega) (by first | (simp; done) | (simp; omega) | omega)
  replace B1 : Blk w3 (w.heap.size + 1) #[.int .u64 b0, .int .u64 b1, .int .u64 b2, .int .u64 b3, .int .u64 b4] 27 := B1.pass2 hb (by first | (simp; done) | (simp; omega) | omega) (by first | (simp; done) | (simp; omega) | omega)
  replace B2 : Blk w3 (w.heap.size + 1 + 1) #[.int .u64 0, .int .u64 0, .int .u64 0, .int .u64 0, .int .u64 0] 27 := B2.pass2 hb (by first | (simp; done) | (simp; omega) | omega) (by first | (simp; done) | (simp; omega) | omega)
  replace B3 : Blk w3 (w.heap.size + 1 + 1 + 1) #[.int .u64 h1, .int .u64 l1, .int .u64 h2, .int .u64 l2, .int .u64 0, .int .u64 0, .int .u64 0, .int .u64 0, .int .u64 0, .int .u64 0] 58 := B3.in2 hb
  replace HB : Below w.heap.size w w3 := below2 HB hb HB.size (by first | (simp; done) | (simp; omega) | omega) (by first | (simp; done) | (simp; omega) | omega)
  clear hb c0 c1 c2 c3 f0 f1 f2 f3
  have c0 := B0.cell
  have f0 := B0.free
  have c1 := B1.cell
  have f1 := B1.free
  have c2 := B2.cell
  have f2 := B2.free
  have c3 := B3.cell
  have f3 := B3.free
  dsimp only
  go_wp2_with fail
  refine rounds_step ?_
  go_wp2_with fail
  refine Calls.mono (sum_acc 0 (0) 0 0 a0 b3 _ z (by omega) (by omega) (by omega) (by omega) (by omega)) ?_
  rintro e w4 ⟨h4, l4, rfl, hW4, hb⟩
  replace B0 : Blk w4 (w.heap.size) #[.int .u64 a0, .int .u64 a1, .int .u64 a2, .int .u64 a3, .int .u64 a4] 27 := B0.pass2 hb (by first | (simp; done) | (simp; omega) | omega) (by first | (simp; done) | (simp; omega) | omega)
  replace B1 : Blk w4 (w.heap.size + 1) #[.int .u64 b0, .int .u64 b1, .int .u64 b2, .int .u64 b3, .int .u64 b4] 27 := B1.pass2 hb (by first | (simp; done) | (simp; omega) | omega) (by first | (simp; done) | (simp; omega) | omega)
  replace B2 : Blk w4 (w.heap.size + 1 + 1) #[.int .u64 0, .int .u64 0, .int .u64 0, .int .u64 0, .int .u64 0] 27 := B2.pass2 hb (by first | (simp; done) | (simp; omega) | omega) (by first | (simp; done) | (simp; omega) | omega)
  replace B3 : Blk w4 (w.heap.size + 1 + 1 + 1) #[.int .u64 h1, .int .u64 l1, .int .u64 h2, .int .u64 l2, .int .u64 h3, .int .u64 l3, .int .u64 0, .int .u64 0, .int .u64 0, .int .u64 0] 58 := B3.in2 hb
  replace HB : Below w.heap.size w w4 := below2 HB hb HB.size (by first | (simp; done) | (simp; omega) | omega) (by first | (simp; done) | (simp; omega) | omega)
  clear hb c0 c1 c2 c3 f0 f1 f2 f3
  have c0 := B0.cell
  have f0 := B0.free
  have c1 := B1.cell
  have f1 := B1.free
  have c2 := B2.cell
  have f2 := B2.free
  have c3 := B3.cell
  have f3 := B3.free
  dsimp only
  go_wp2_with fail
  refine rounds_step ?_
  go_wp2_with fail
  refine Calls.mono (sum_acc 0 (0) 0 0 a0 b4 _ z (by omega) (by omega) (by omega) (by omega) (by omega)) ?_
  rintro e w5 ⟨h5, l5, rfl, hW5, hb⟩
  replace B0 : Blk w5 (w.heap.size) #[.int .u64 a0, .int .u64 a1, .int .u64 a2, .int .u64 a3, .int .u64 a4] 27 := B0.pass2 hb (by first | (simp; done) | (simp; omega) | omega) (by first | (simp; done) | (simp; omega) | omega)
  replace B1 : Blk w5 (w.heap.size + 1) #[.int .u64 b0, .int .u64 b1, .int .u64 b2, .int .u64 b3, .int .u64 b4] 27 := B1.pass2 hb (by first | (simp; done) | (simp; omega) | omega) (by first | (simp; done) | (simp; omega) | omega)
  replace B2 : Blk w5 (w.heap.size + 1 + 1) #[.int .u64 0, .int .u64 0, .int .u64 0, .int .u64 0, .int .u64 0] 27 := B2.pass2 hb (by first | (simp; done) | (simp; omega) | omega) (by first | (simp; done) | (simp; omega) | omega)
  replace B3 : Blk w5 (w.heap.size + 1 + 1 + 1) #[.int .u64 h1, .int .u64 l1, .int .u64 h2, .int .u64 l2, .int .u64 h3, .int .u64 l3, .int .u64 h4, .int .u64 l4, .int .u64 0, .int .u64 0] 58 := B3.in2 hb
  replace HB : Below w.heap.size w w5 := below2 HB hb HB.size (by first | (simp; done) | (simp; omega) | omega) (by first | (simp; done) | (simp; omega) | omega)
  clear hb c0 c1 c2 c3 f0 f1 f2 f3
  have c0 := B0.cell
  have f0 := B0.free
  have c1 := B1.cell
  have f1 := B1.free
  have c2 := B2.cell
  have f2 := B2.free
  have c3 := B3.cell
  have f3 := B3.free
  dsimp only
  go_wp2_with fail
  refine rounds_step ?_
  go_wp2
  refine rounds_step ?_
  go_wp2
  refine wp_loop_rounds 6 ?_
  refine rounds_step ?_
  go_wp2_with fail
  refine Calls.mono (sum_acc 1 (0 + a0 * b1) h2 l2 a1 b0 _ hW2 (by omega) (by omega) (by omega) (by omega) (by omega)) ?_
  rintro e w6 ⟨h6, l6, rfl, hW6, hb⟩
  replace B0 : Blk w6 (w.heap.size) #[.int .u64 a0, .int .u64 a1, .int .u64 a2, .int .u64 a3, .int .u64 a4] 27 := B0.pass2 hb (by first | (simp; done) | (simp; omega) | omega) (by first | (simp; done) | (simp; omega) | omega)
  replace B1 : Blk w6 (w.heap.size + 1) #[.int .u64 b0, .int .u64 b1, .int .u64 b2, .int .u64 b3, .int .u64 b4] 27 := B1.pass2 hb (by first | (simp; done) | (simp; omega) | omega) (by first | (simp; done) | (simp; omega) | omega)
  replace B2 : Blk w6 (w.heap.size + 1 + 1) #[.int .u64 0, .int .u64 0, .int .u64 0, .int .u64 0, .int .u64 0] 27 := B2.pass2 hb (by first | (simp; done) | (simp; omega) | omega) (by first | (simp; done) | (simp; omega) | omega)
  replace B3 : Blk w6 (w.heap.size + 1 + 1 + 1) #[.int .u64 h1, .int .u64 l1, .int .u64 h2, .int .u64 l2, .int .u64 h3, .int .u64 l3, .int .u64 h4, .int .u64 l4, .int .u64 h5, .int .u64 l5] 58 := B3.in2 hb
  replace HB : Below w.heap.size w w6 := below2 HB hb HB.size (by first | (simp; done) | (simp; omega) | omega) (by first | (simp; done) | (simp; omega) | omega)
  clear hb c0 c1 c2 c3 f0 f1 f2 f3
  have c0 := B0.cell
  have f0 := B0.free
  have c1 := B1.cell
  have f1 := B1.free
  have c2 := B2.cell
  have f2 := B2.free
  have c3 := B3.cell
  have f3 := B3.free
  dsimp only
  go_wp2_with fail
  refine rounds_step ?_
  go_wp2_with fail
  refine Calls.mono (sum_acc 1 (0 + a0 * b2) h3 l3 a1 b1 _ hW3 (by omega) (by omega) (by omega) (by omega) (by omega)) ?_
  rintro e w7 ⟨h7, l7, rfl, hW7, hb⟩
  replace B0 : Blk w7 (w.heap.size) #[.int .u64 a0, .int .u64 a1, .int .u64 a2, .int .u64 a3, .int .u64 a4] 27 := B0.pass2 hb (by first | (simp; done) | (simp; omega) | omega) (by first | (simp; done) | (simp; omega) | omega)
  replace B1 : Blk w7 (w.heap.size + 1) #[.int .u64 b0, .int .u64 b1, .int .u64 b2, .int .u64 b3, .int .u64 b4] 27 := B1.pass2 hb (by first | (simp; done) | (simp; omega) | omega) (by first | (simp; done) | (simp; omega) | omega)
  replace B2 : Blk w7 (w.heap.size + 1 + 1) #[.int .u64 0, .int .u64 0, .int .u64 0, .int .u64 0, .int .u64 0] 27 := B2.pass2 hb (by first | (simp; done) | (simp; omega) | omega) (by first | (simp; done) | (simp; omega) | omega)
  replace B3 : Blk w7 (w.heap.size + 1 + 1 + 1) #[.int .u64 h1, .int .u64 l1, .int .u64 h6, .int .u64 l6, .int .u64 h3, .int .u64 l3, .int .u64 h4, .int .u64 l4, .int .u64 h5, .int .u64 l5] 58 := B3.in2 hb
  replace HB : Below w.heap.size w w7 := below2 HB hb HB.size (by first | (simp; done) | (simp; omega) | omega) (by first | (simp; done) | (simp; omega) | omega)
  clear hb c0 c1 c2 c3 f0 f1 f2 f3
  have c0 := B0.cell
  have f0 := B0.free
  have c1 := B1.cell
  have f1 := B1.free
  have c2 := B2.cell
  have f2 := B2.free
  have c3 := B3.cell
  have f3 := B3.free
  dsimp only
  go_wp2_with fail
  refine rounds_step ?_
  go_wp2_with fail
  refine Calls.mono (sum_acc 1 (0 + a0 * b3) h4 l4 a1 b2 _ hW4 (by omega) (by omega) (by omega) (by omega) (by omega)) ?_
  rintro e w8 ⟨h8, l8, rfl, hW8, hb⟩
  replace B0 : Blk w8 (w.heap.size) #[.int .u64 a0, .int .u64 a1, .int .u64 a2, .int .u64 a3, .int .u64 a4] 27 := B0.pass2 hb (by first | (simp; done) | (simp; omega) | omega) (by first | (simp; done) | (simp; omega) | omega)
  replace B1 : Blk w8 (w.heap.size + 1) #[.int .u64 b0, .int .u64 b1, .int .u64 b2, .int .u64 b3, .int .u64 b4] 27 := B1.pass2 hb (by first | (simp; done) | (simp; omega) | omega) (by first | (simp; done) | (simp; omega) | omega)
  replace B2 : Blk w8 (w.heap.size + 1 + 1) #[.int .u64 0, .int .u64 0, .int .u64 0, .int .u64 0, .int .u64 0] 27 := B2.pass2 hb (by first | (simp; done) | (simp; omega) | omega) (by first | (simp; done) | (simp; omega) | omega)
  replace B3 : Blk w8 (w.heap.size + 1 + 1 + 1) #[.int .u64 h1, .int .u64 l1, .int .u64 h6, .int .u64 l6, .int .u64 h7, .int .u64 l7, .int .u64 h4, .int .u64 l4, .int .u64 h5, .int .u64 l5] 58 := B3.in2 hb
  replace HB : Below w.heap.size w w8 := below2 HB hb HB.size (by first | (simp; done) | (simp; omega) | omega) (by first | (simp; done) | (simp; omega) | omega)
  clear hb c0 c1 c2 c3 f0 f1 f2 f3
  have c0 := B0.cell
  have f0 := B0.free
  have c1 := B1.cell
  have f1 := B1.free
  have c2 := B2.cell
  have f2 := B2.free
  have c3 := B3.cell
  have f3 := B3.free
  dsimp only
  go_wp2_with fail
  refine rounds_step ?_
  go_wp2_with fail
  refine Calls.mono (sum_acc 1 (0 + a0 * b4) h5 l5 a1 b3 _ hW5 (by omega) (by omega) (by omega) (by omega) (by omega)) ?_
  rintro e w9 ⟨h9, l9, rfl, hW9, hb⟩
  replace B0 : Blk w9 (w.heap.size) #[.int .u64 a0, .int .u64 a1, .int .u64 a2, .int .u64 a3, .int .u64 a4] 27 := B0.pass2 hb (by first | (simp; done) | (simp; omega) | omega) (by first | (simp; done) | (simp; omega) | omega)
  replace B1 : Blk w9 (w.heap.size + 1) #[.int .u64 b0, .int .u64 b1, .int .u64 b2, .int .u64 b3, .int .u64 b4] 27 := B1.pass2 hb (by first | (simp; done) | (simp; omega) | omega) (by first | (simp; done) | (simp; omega) | omega)
  replace B2 : Blk w9 (w.heap.size + 1 + 1) #[.int .u64 0, .int .u64 0, .int .u64 0, .int .u64 0, .int .u64 0] 27 := B2.pass2 hb (by first | (simp; done) | (simp; omega) | omega) (by first | (simp; done) | (simp; omega) | omega)
  replace B3 : Blk w9 (w.heap.size + 1 + 1 + 1) #[.int .u64 h1, .int .u64 l1, .int .u64 h6, .int .u64 l6, .int .u64 h7, .int .u64 l7, .int .u64 h8, .int .u64 l8, .int .u64 h5, .int .u64 l5] 58 := B3.in2 hb
  replace HB : Below w.heap.size w w9 := below2 HB hb HB.size (by first | (simp; done) | (simp; omega) | omega) (by first | (simp; done) | (simp; omega) | omega)
  clear hb c0 c1 c2 c3 f0 f1 f2 f3
  have c0 := B0.cell
  have f0 := B0.free
  have c1 := B1.cell
  have f1 := B1.free
  have c2 := B2.cell
  have f2 := B2.free
  have c3 := B3.cell
  have f3 := B3.free
  dsimp only
  go_wp2_with fail
  refine rounds_step ?_
  go_wp2_with fail
  refine Calls.mono (sum_acc 1 (0 + a0 * b0) h1 l1 (a1 * 19) b4 _ hW1 (by omega) (by omega) (by omega) (by omega) (by omega)) ?_
  rintro e w10 ⟨h10, l10, rfl, hW10, hb⟩
  replace B0 : Blk w10 (w.heap.size) #[.int .u64 a0, .int .u64 a1, .int .u64 a2, .int .u64 a3, .int .u64 a4] 27 := B0.pass2 hb (by first | (simp; done) | (simp; omega) | omega) (by first | (simp; done) | (simp; omega) | omega)
  replace B1 : Blk w10 (w.heap.size + 1) #[.int .u64 b0, .int .u64 b1, .int .u64 b2, .int .u64 b3, .int .u64 b4] 27 := B1.pass2 hb (by first | (simp; done) | (simp; omega) | omega) (by first | (simp; done) | (simp; omega) | omega)
  replace B2 : Blk w10 (w.heap.size + 1 + 1) #[.int .u64 0, .int .u64 0, .int .u64 0, .int .u64 0, .int .u64 0] 27 := B2.pass2 hb (by first | (simp; done) | (simp; omega) | omega) (by first | (simp; done) | (simp; omega) | omega)
  replace B3 : Blk w10 (w.heap.size + 1 + 1 + 1) #[.int .u64 h1, .int .u64 l1, .int .u64 h6, .int .u64 l6, .int .u64 h7, .int .u64 l7, .int .u64 h8, .int .u64 l8, .int .u64 h9, .int .u64 l9] 58 := B3.in2 hb
  replace HB : Below w.heap.size w w10 := below2 HB hb HB.size (by first | (simp; done) | (simp; omega) | omega) (by first | (simp; done) | (simp; omega) | omega)
  clear hb c0 c1 c2 c3 f0 f1 f2 f3
  have c0 := B0.cell
  have f0 := B0.free
  have c1 := B1.cell
  have f1 := B1.free
  have c2 := B2.cell
  have f2 := B2.free
  have c3 := B3.cell
  have f3 := B3.free
  dsimp only
  go_wp2_with fail
  refine rounds_step ?_
  go_wp2
  refine rounds_step ?_
  go_wp2
  refine wp_loop_rounds 6 ?_
  refine rounds_step ?_
  go_wp2_with fail
  refine Calls.mono (sum_acc 2 (0 + a0 * b2 + a1 * b1) h7 l7 a2 b0 _ hW7 (by omega) (by omega) (by omega) (by omega) (by omega)) ?_
  rintro e w11 ⟨h11, l11, rfl, hW11, hb⟩
  replace B0 : Blk w11 (w.heap.size) #[.int .u64 a0, .int .u64 a1, .int .u64 a2, .int .u64 a3, .int .u64 a4] 27 := B0.pass2 hb (by first | (simp; done) | (simp; omega) | omega) (by first | (simp; done) | (simp; omega) | omega)
  replace B1 : Blk w11 (w.heap.size + 1) #[.int .u64 b0, .int .u64 b1, .int .u64 b2, .int .u64 b3, .int .u64 b4] 27 := B1.pass2 hb (by first | (simp; done) | (simp; omega) | omega) (by first | (simp; done) | (simp; omega) | omega)
  replace B2 : Blk w11 (w.heap.size + 1 + 1) #[.int .u64 0, .int .u64 0, .int .u64 0, .int .u64 0, .int .u64 0] 27 := B2.pass2 hb (by first | (simp; done) | (simp; omega) | omega) (by first | (simp; done) | (simp; omega) | omega)
  replace B3 : Blk w11 (w.heap.size + 1 + 1 + 1) #[.int .u64 h10, .int .u64 l10, .int .u64 h6, .int .u64 l6, .int .u64 h7, .int .u64 l7, .int .u64 h8, .int .u64 l8, .int .u64 h9, .int .u64 l9] 58 := B3.in2 hb
  replace HB : Below w.heap.size w w11 := below2 HB hb HB.size (by first | (simp; done) | (simp; omega) | omega) (by first | (simp; done) | (simp; omega) | omega)
  clear hb c0 c1 c2 c3 f0 f1 f2 f3
  have c0 := B0.cell
  have f0 := B0.free
  have c1 := B1.cell
  have f1 := B1.free
  have c2 := B2.cell
  have f2 := B2.free
  have c3 := B3.cell
  have f3 := B3.free
  dsimp only
  go_wp2_with fail
  refine rounds_step ?_
  go_wp2_with fail
  refine Calls.mono (sum_acc 2 (0 + a0 * b3 + a1 * b2) h8 l8 a2 b1 _ hW8 (by omega) (by omega) (by omega) (by omega) (by omega)) ?_
  rintro e w12 ⟨h12, l12, rfl, hW12, hb⟩
  replace B0 : Blk w12 (w.heap.size) #[.int .u64 a0, .int .u64 a1, .int .u64 a2, .int .u64 a3, .int .u64 a4] 27 := B0.pass2 hb (by first | (simp; done) | (simp; omega) | omega) (by first | (simp; done) | (simp; omega) | omega)
  replace B1 : Blk w12 (w.heap.size + 1) #[.int .u64 b0, .int .u64 b1, .int .u64 b2, .int .u64 b3, .int .u64 b4] 27 := B1.pass2 hb (by first | (simp; done) | (simp; omega) | omega) (by first | (simp; done) | (simp; omega) | omega)
  replace B2 : Blk w12 (w.heap.size + 1 + 1) #[.int .u64 0, .int .u64 0, .int .u64 0, .int .u64 0, .int .u64 0] 27 := B2.pass2 hb (by first | (simp; done) | (simp; omega) | omega) (by first | (simp; done) | (simp; omega) | omega)
  replace B3 : Blk w12 (w.heap.size + 1 + 1 + 1) #[.int .u64 h10, .int .u64 l10, .int .u64 h6, .int .u64 l6, .int .u64 h11, .int .u64 l11, .int .u64 h8, .int .u64 l8, .int .u64 h9, .int .u64 l9] 58 := B3.in2 hb
  replace HB : Below w.heap.size w w12 := below2 HB hb HB.size (by first | (simp; done) | (simp; omega) | omega) (by first | (simp; done) | (simp; omega) | omega)
  clear hb c0 c1 c2 c3 f0 f1 f2 f3
  have c0 := B0.cell
  have f0 := B0.free
  have c1 := B1.cell
  have f1 := B1.free
  have c2 := B2.cell
  have f2 := B2.free
  have c3 := B3.cell
  have f3 := B3.free
  dsimp only
  go_wp2_with fail
  refine rounds_step ?_
  go_wp2_with fail
  refine Calls.mono (sum_acc 2 (0 + a0 * b4 + a1 * b3) h9 l9 a2 b2 _ hW9 (by omega) (by omega) (by omega) (by omega) (by omega)) ?_
  rintro e w13 ⟨h13, l13, rfl, hW13, hb⟩
  replace B0 : Blk w13 (w.heap.size) #[.int .u64 a0, .int .u64 a1, .int .u64 a2, .int .u64 a3, .int .u64 a4] 27 := B0.pass2 hb (by first | (simp; done) | (simp; omega) | omega) (by first | (simp; done) | (simp; omega) | omega)
  replace B1 : Blk w13 (w.heap.size + 1) #[.int .u64 b0, .int .u64 b1, .int .u64 b2, .int .u64 b3, .int .u64 b4] 27 := B1.pass2 hb (by first | (simp; done) | (simp; omega) | omega) (by first | (simp; done) | (simp; omega) | omega)
  replace B2 : Blk w13 (w.heap.size + 1 + 1) #[.int .u64 0, .int .u64 0, .int .u64 0, .int .u64 0, .int .u64 0] 27 := B2.pass2 hb (by first | (simp; done) | (simp; omega) | omega) (by first | (simp; done) | (simp; omega) | omega)
  replace B3 : Blk w13 (w.heap.size + 1 + 1 + 1) #[.int .u64 h10, .int .u64 l10, .int .u64 h6, .int .u64 l6, .int .u64 h11, .int .u64 l11, .int .u64 h12, .int .u64 l12, .int .u64 h9, .int .u64 l9] 58 := B3.in2 hb
  replace HB : Below w.heap.size w w13 := below2 HB hb HB.size (by first | (simp; done) | (simp; omega) | omega) (by first | (simp; done) | (simp; omega) | omega)
  clear hb c0 c1 c2 c3 f0 f1 f2 f3
  have c0 := B0.cell
  have f0 := B0.free
  have c1 := B1.cell
  have f1 := B1.free
  have c2 := B2.cell
  have f2 := B2.free
  have c3 := B3.cell
  have f3 := B3.free
  dsimp only
  go_wp2_with fail
  refine rounds_step ?_
  go_wp2_with fail
  refine Calls.mono (sum_acc 2 (0 + a0 * b0 + (a1 * 19) * b4) h10 l10 (a2 * 19) b3 _ hW10 (by omega) (by omega) (by omega) (by omega) (by omega)) ?_
  rintro e w14 ⟨h14, l14, rfl, hW14, hb⟩
  replace B0 : Blk w14 (w.heap.size) #[.int .u64 a0, .int .u64 a1, .int .u64 a2, .int .u64 a3, .int .u64 a4] 27 := B0.pass2 hb (by first | (simp; done) | (simp; omega) | omega) (by first | (simp; done) | (simp; omega) | omega)
  replace B1 : Blk w14 (w.heap.size + 1) #[.int .u64 b0, .int .u64 b1, .int .u64 b2, .int .u64 b3, .int .u64 b4] 27 := B1.pass2 hb (by first | (simp; done) | (simp; omega) | omega) (by first | (simp; done) | (simp; omega) | omega)
  replace B2 : Blk w14 (w.heap.size + 1 + 1) #[.int .u64 0, .int .u64 0, .int .u64 0, .int .u64 0, .int .u64 0] 27 := B2.pass2 hb (by first | (simp; done) | (simp; omega) | omega) (by first | (simp; done) | (simp; omega) | omega)
  replace B3 : Blk w14 (w.heap.size + 1 + 1 + 1) #[.int .u64 h10, .int .u64 l10, .int .u64 h6, .int .u64 l6, .int .u64 h11, .int .u64 l11, .int .u64 h12, .int .u64 l12, .int .u64 h13, .int .u64 l13] 58 := B3.in2 hb
  replace HB : Below w.heap.size w w14 := below2 HB hb HB.size (by first | (simp; done) | (simp; omega) | omega) (by first | (simp; done) | (simp; omega) | omega)
  clear hb c0 c1 c2 c3 f0 f1 f2 f3
  have c0 := B0.cell
  have f0 := B0.free
  have c1 := B1.cell
  have f1 := B1.free
  have c2 := B2.cell
  have f2 := B2.free
  have c3 := B3.cell
  have f3 := B3.free
  dsimp only
  go_wp2_with fail
  refine rounds_step ?_
  go_wp2_with fail
  refine Calls.mono (sum_acc 2 (0 + a0 * b1 + a1 * b0) h6 l6 (a2 * 19) b4 _ hW6 (by omega) (by omega) (by omega) (by omega) (by omega)) ?_
  rintro e w15 ⟨h15, l15, rfl, hW15, hb⟩
  replace B0 : Blk w15 (w.heap.size) #[.int .u64 a0, .int .u64 a1, .int .u64 a2, .int .u64 a3, .int .u64 a4] 27 := B0.pass2 hb (by first | (simp; done) | (simp; omega) | omega) (by first | (simp; done) | (simp; omega) | omega)
  replace B1 : Blk w15 (w.heap.size + 1) #[.int .u64 b0, .int .u64 b1, .int .u64 b2, .int .u64 b3, .int .u64 b4] 27 := B1.pass2 hb (by first | (simp; done) | (simp; omega) | omega) (by first | (simp; done) | (simp; omega) | omega)
  replace B2 : Blk w15 (w.heap.size + 1 + 1) #[.int .u64 0, .int .u64 0, .int .u64 0, .int .u64 0, .int .u64 0] 27 := B2.pass2 hb (by first | (simp; done) | (simp; omega) | omega) (by first | (simp; done) | (simp; omega) | omega)
  replace B3 : Blk w15 (w.heap.size + 1 + 1 + 1) #[.int .u64 h14, .int .u64 l14, .int .u64 h6, .int .u64 l6, .int .u64 h11, .int .u64 l11, .int .u64 h12, .int .u64 l12, .int .u64 h13, .int .u64 l13] 58 := B3.in2 hb
  replace HB : Below w.heap.size w w15 := below2 HB hb HB.size (by first | (simp; done) | (simp; omega) | omega) (by first | (simp; done) | (simp; omega) | omega)
  clear hb c0 c1 c2 c3 f0 f1 f2 f3
  have c0 := B0.cell
  have f0 := B0.free
  have c1 := B1.cell
  have f1 := B1.free
  have c2 := B2.cell
  have f2 := B2.free
  have c3 := B3.cell
  have f3 := B3.free
  dsimp only
  go_wp2_with fail
  refine rounds_step ?_
  go_wp2
  refine rounds_step ?_
  go_wp2
  refine wp_loop_rounds 6 ?_
  refine rounds_step ?_
  go_wp2_with fail
  refine Calls.mono (sum_acc 3 (0 + a0 * b3 + a1 * b2 + a2 * b1) h12 l12 a3 b0 _ hW12 (by omega) (by omega) (by omega) (by omega) (by omega)) ?_
  rintro e w16 ⟨h16, l16, rfl, hW16, hb⟩
  replace B0 : Blk w16 (w.heap.size) #[.int .u64 a0, .int .u64 a1, .int .u64 a2, .int .u64 a3, .int .u64 a4] 27 := B0.pass2 hb (by first | (simp; done) | (simp; omega) | omega) (by first | (simp; done) | (simp; omega) | omega)
  replace B1 : Blk w16 (w.heap.size + 1) #[.int .u64 b0, .int .u64 b1, .int .u64 b2, .int .u64 b3, .int .u64 b4] 27 := B1.pass2 hb (by first | (simp; done) | (simp; omega) | omega) (by first | (simp; done) | (simp; omega) | omega)
  replace B2 : Blk w16 (w.heap.size + 1 + 1) #[.int .u64 0, .int .u64 0, .int .u64 0, .int .u64 0, .int .u64 0] 27 := B2.pass2 hb (by first | (simp; done) | (simp; omega) | omega) (by first | (simp; done) | (simp; omega) | omega)
  replace B3 : Blk w16 (w.heap.size + 1 + 1 + 1) #[.int .u64 h14, .int .u64 l14, .int .u64 h15, .int .u64 l15, .int .u64 h11, .int .u64 l11, .int .u64 h12, .int .u64 l12, .int .u64 h13, .int .u64 l13] 58 := B3.in2 hb
  replace HB : Below w.heap.size w w16 := below2 HB hb HB.size (by first | (simp; done) | (simp; omega) | omega) (by first | (simp; done) | (simp; omega) | omega)
  clear hb c0 c1 c2 c3 f0 f1 f2 f3
  have c0 := B0.cell
  have f0 := B0.free
  have c1 := B1.cell
  have f1 := B1.free
  have c2 := B2.cell
  have f2 := B2.free
  have c3 := B3.cell
  have f3 := B3.free
  dsimp only
  go_wp2_with fail
  refine rounds_step ?_
  go_wp2_with fail
  refine Calls.mono (sum_acc 3 (0 + a0 * b4 + a1 * b3 + a2 * b2) h13 l13 a3 b1 _ hW13 (by omega) (by omega) (by omega) (by omega) (by omega)) ?_
  rintro e w17 ⟨h17, l17, rfl, hW17, hb⟩
  replace B0 : Blk w17 (w.heap.size) #[.int .u64 a0, .int .u64 a1, .int .u64 a2, .int .u64 a3, .int .u64 a4] 27 := B0.pass2 hb (by first | (simp; done) | (simp; omega) | omega) (by first | (simp; done) | (simp; omega) | omega)
  replace B1 : Blk w17 (w.heap.size + 1) #[.int .u64 b0, .int .u64 b1, .int .u64 b2, .int .u64 b3, .int .u64 b4] 27 := B1.pass2 hb (by first | (simp; done) | (simp; omega) | omega) (by first | (simp; done) | (simp; omega) | omega)
  replace B2 : Blk w17 (w.heap.size + 1 + 1) #[.int .u64 0, .int .u64 0, .int .u64 0, .int .u64 0, .int .u64 0] 27 := B2.pass2 hb (by first | (simp; done) | (simp; omega) | omega) (by first | (simp; done) | (simp; omega) | omega)
  replace B3 : Blk w17 (w.heap.size + 1 + 1 + 1) #[.int .u64 h14, .int .u64 l14, .int .u64 h15, .int .u64 l15, .int .u64 h11, .int .u64 l11, .int .u64 h16, .int .u64 l16, .int .u64 h13, .int .u64 l13] 58 := B3.in2 hb
  replace HB : Below w.heap.size w w17 := below2 HB hb HB.size (by first | (simp; done) | (simp; omega) | omega) (by first | (simp; done) | (simp; omega) | omega)
  clear hb c0 c1 c2 c3 f0 f1 f2 f3
  have c0 := B0.cell
  have f0 := B0.free
  have c1 := B1.cell
  have f1 := B1.free
  have c2 := B2.cell
  have f2 := B2.free
  have c3 := B3.cell
  have f3 := B3.free
  dsimp only
  go_wp2_with fail
  refine rounds_step ?_
  go_wp2_with fail
  refine Calls.mono (sum_acc 3 (0 + a0 * b0 + (a1 * 19) * b4 + (a2 * 19) * b3) h14 l14 (a3 * 19) b2 _ hW14 (by omega) (by omega) (by omega) (by omega) (by omega)) ?_
  rintro e w18 ⟨h18, l18, rfl, hW18, hb⟩
  replace B0 : Blk w18 (w.heap.size) #[.int .u64 a0, .int .u64 a1, .int .u64 a2, .int .u64 a3, .int .u64 a4] 27 := B0.pass2 hb (by first | (simp; done) | (simp; omega) | omega) (by first | (simp; done) | (simp; omega) | omega)
  replace B1 : Blk w18 (w.heap.size + 1) #[.int .u64 b0, .int .u64 b1, .int .u64 b2, .int .u64 b3, .int .u64 b4] 27 := B1.pass2 hb (by first | (simp; done) | (simp; omega) | omega) (by first | (simp; done) | (simp; omega) | omega)
  replace B2 : Blk w18 (w.heap.size + 1 + 1) #[.int .u64 0, .int .u64 0, .int .u64 0, .int .u64 0, .int .u64 0] 27 := B2.pass2 hb (by first | (simp; done) | (simp; omega) | omega) (by first | (simp; done) | (simp; omega) | omega)
  replace B3 : Blk w18 (w.heap.size + 1 + 1 + 1) #[.int .u64 h14, .int .u64 l14, .int .u64 h15, .int .u64 l15, .int .u64 h11, .int .u64 l11, .int .u64 h16, .int .u64 l16, .int .u64 h17, .int .u64 l17] 58 := B3.in2 hb
  replace HB : Below w.heap.size w w18 := below2 HB hb HB.size (by first | (simp; done) | (simp; omega) | omega) (by first | (simp; done) | (simp; omega) | omega)
  clear hb c0 c1 c2 c3 f0 f1 f2 f3
  have c0 := B0.cell
  have f0 := B0.free
  have c1 := B1.cell
  have f1 := B1.free
  have c2 := B2.cell
  have f2 := B2.free
  have c3 := B3.cell
  have f3 := B3.free
  dsimp only
  go_wp2_with fail
  refine rounds_step ?_
  go_wp2_with fail
  refine Calls.mono (sum_acc 3 (0 + a0 * b1 + a1 * b0 + (a2 * 19) * b4) h15 l15 (a3 * 19) b3 _ hW15 (by omega) (by omega) (by omega) (by omega) (by omega)) ?_
  rintro e w19 ⟨h19, l19, rfl, hW19, hb⟩
  replace B0 : Blk w19 (w.heap.size) #[.int .u64 a0, .int .u64 a1, .int .u64 a2, .int .u64 a3, .int .u64 a4] 27 := B0.pass2 hb (by first | (simp; done) | (simp; omega) | omega) (by first | (simp; done) | (simp; omega) | omega)
  replace B1 : Blk w19 (w.heap.size + 1) #[.int .u64 b0, .int .u64 b1, .int .u64 b2, .int .u64 b3, .int .u64 b4] 27 := B1.pass2 hb (by first | (simp; done) | (simp; omega) | omega) (by first | (simp; done) | (simp; omega) | omega)
  replace B2 : Blk w19 (w.heap.size + 1 + 1) #[.int .u64 0, .int .u64 0, .int .u64 0, .int .u64 0, .int .u64 0] 27 := B2.pass2 hb (by first | (simp; done) | (simp; omega) | omega) (by first | (simp; done) | (simp; omega) | omega)
  replace B3 : Blk w19 (w.heap.size + 1 + 1 + 1) #[.int .u64 h18, .int .u64 l18, .int .u64 h15, .int .u64 l15, .int .u64 h11, .int .u64 l11, .int .u64 h16, .int .u64 l16, .int .u64 h17, .int .u64 l17] 58 := B3.in2 hb
  replace HB : Below w.heap.size w w19 := below2 HB hb HB.size (by first | (simp; done) | (simp; omega) | omega) (by first | (simp; done) | (simp; omega) | omega)
  clear hb c0 c1 c2 c3 f0 f1 f2 f3
  have c0 := B0.cell
  have f0 := B0.free
  have c1 := B1.cell
  have f1 := B1.free
  have c2 := B2.cell
  have f2 := B2.free
  have c3 := B3.cell
  have f3 := B3.free
  dsimp only
  go_wp2_with fail
  refine rounds_step ?_
  go_wp2_with fail
  refine Calls.mono (sum_acc 3 (0 + a0 * b2 + a1 * b1 + a2 * b0) h11 l11 (a3 * 19) b4 _ hW11 (by omega) (by omega) (by omega) (by omega) (by omega)) ?_
  rintro e w20 ⟨h20, l20, rfl, hW20, hb⟩
  replace B0 : Blk w20 (w.heap.size) #[.int .u64 a0, .int .u64 a1, .int .u64 a2, .int .u64 a3, .int .u64 a4] 27 := B0.pass2 hb (by first | (simp; done) | (simp; omega) | omega) (by first | (simp; done) | (simp; omega) | omega)
  replace B1 : Blk w20 (w.heap.size + 1) #[.int .u64 b0, .int .u64 b1, .int .u64 b2, .int .u64 b3, .int .u64 b4] 27 := B1.pass2 hb (by first | (simp; done) | (simp; omega) | omega) (by first | (simp; done) | (simp; omega) | omega)
  replace B2 : Blk w20 (w.heap.size + 1 + 1) #[.int .u64 0, .int .u64 0, .int .u64 0, .int .u64 0, .int .u64 0] 27 := B2.pass2 hb (by first | (simp; done) | (simp; omega) | omega) (by first | (simp; done) | (simp; omega) | omega)
  replace B3 : Blk w20 (w.heap.size + 1 + 1 + 1) #[.int .u64 h18, .int .u64 l18, .int .u64 h19, .int .u64 l19, .int .u64 h11, .int .u64 l11, .int .u64 h16, .int .u64 l16, .int .u64 h17, .int .u64 l17] 58 := B3.in2 hb
  replace HB : Below w.heap.size w w20 := below2 HB hb HB.size (by first | (simp; done) | (simp; omega) | omega) (by first | (simp; done) | (simp; omega) | omega)
  clear hb c0 c1 c2 c3 f0 f1 f2 f3
  have c0 := B0.cell
  have f0 := B0.free
  have c1 := B1.cell
  have f1 := B1.free
  have c2 := B2.cell
  have f2 := B2.free
  have c3 := B3.cell
  have f3 := B3.free
  dsimp only
  go_wp2_with fail
  refine rounds_step ?_
  go_wp2
  refine rounds_step ?_
  go_wp2
  refine wp_loop_rounds 6 ?_
  refine rounds_step ?_
  go_wp2_with fail
  refine Calls.mono (sum_acc 4 (0 + a0 * b4 + a1 * b3 + a2 * b2 + a3 * b1) h17 l17 a4 b0 _ hW17 (by omega) (by omega) (by omega) (by omega) (by omega)) ?_
  rintro e w21 ⟨h21, l21, rfl, hW21, hb⟩
  replace B0 : Blk w21 (w.heap.size) #[.int .u64 a0, .int .u64 a1, .int .u64 a2, .int .u64 a3, .int .u64 a4] 27 := B0.pass2 hb (by first | (simp; done) | (simp; omega) | omega) (by first | (simp; done) | (simp; omega) | omega)
  replace B1 : Blk w21 (w.heap.size + 1) #[.int .u64 b0, .int .u64 b1, .int .u64 b2, .int .u64 b3, .int .u64 b4] 27 := B1.pass2 hb (by first | (simp; done) | (simp; omega) | omega) (by first | (simp; done) | (simp; omega) | omega)
  replace B2 : Blk w21 (w.heap.size + 1 + 1) #[.int .u64 0, .int .u64 0, .int .u64 0, .int .u64 0, .int .u64 0] 27 := B2.pass2 hb (by first | (simp; done) | (simp; omega) | omega) (by first | (simp; done) | (simp; omega) | omega)
  replace B3 : Blk w21 (w.heap.size + 1 + 1 + 1) #[.int .u64 h18, .int .u64 l18, .int .u64 h19, .int .u64 l19, .int .u64 h20, .int .u64 l20, .int .u64 h16, .int .u64 l16, .int .u64 h17, .int .u64 l17] 58 := B3.in2 hb
  replace HB : Below w.heap.size w w21 := below2 HB hb HB.size (by first | (simp; done) | (simp; omega) | omega) (by first | (simp; done) | (simp; omega) | omega)
  clear hb c0 c1 c2 c3 f0 f1 f2 f3
  have c0 := B0.cell
  have f0 := B0.free
  have c1 := B1.cell
  have f1 := B1.free
  have c2 := B2.cell
  have f2 := B2.free
  have c3 := B3.cell
  have f3 := B3.free
  dsimp only
  go_wp2_with fail
  refine rounds_step ?_
  go_wp2_with fail
  refine Calls.mono (sum_acc 4 (0 + a0 * b0 + (a1 * 19) * b4 + (a2 * 19) * b3 + (a3 * 19) * b2) h18 l18 (a4 * 19) b1 _ hW18 (by omega) (by omega) (by omega) (by omega) (by omega)) ?_
  rintro e w22 ⟨h22, l22, rfl, hW22, hb⟩
  replace B0 : Blk w22 (w.heap.size) #[.int .u64 a0, .int .u64 a1, .int .u64 a2, .int .u64 a3, .int .u64 a4] 27 := B0.pass2 hb (by first | (simp; done) | (simp; omega) | omega) (by first | (simp; done) | (simp; omega) | omega)
  replace B1 : Blk w22 (w.heap.size + 1) #[.int .u64 b0, .int .u64 b1, .int .u64 b2, .int .u64 b3, .int .u64 b4] 27 := B1.pass2 hb (by first | (simp; done) | (simp; omega) | omega) (by first | (simp; done) | (simp; omega) | omega)
  replace B2 : Blk w22 (w.heap.size + 1 + 1) #[.int .u64 0, .int .u64 0, .int .u64 0, .int .u64 0, .int .u64 0] 27 := B2.pass2 hb (by first | (simp; done) | (simp; omega) | omega) (by first | (simp; done) | (simp; omega) | omega)
  replace B3 : Blk w22 (w.heap.size + 1 + 1 + 1) #[.int .u64 h18, .int .u64 l18, .int .u64 h19, .int .u64 l19, .int .u64 h20, .int .u64 l20, .int .u64 h16, .int .u64 l16, .int .u64 h21, .int .u64 l21] 58 := B3.in2 hb
  replace HB : Below w.heap.size w w22 := below2 HB hb HB.size (by first | (simp; done) | (simp; omega) | omega) (by first | (simp; done) | (simp; omega) | omega)
  clear hb c0 c1 c2 c3 f0 f1 f2 f3
  have c0 := B0.cell
  have f0 := B0.free
  have c1 := B1.cell
  have f1 := B1.free
  have c2 := B2.cell
  have f2 := B2.free
  have c3 := B3.cell
  have f3 := B3.free
  dsimp only
  go_wp2_with fail
  refine rounds_step ?_
  go_wp2_with fail
  refine Calls.mono (sum_acc 4 (0 + a0 * b1 + a1 * b0 + (a2 * 19) * b4 + (a3 * 19) * b3) h19 l19 (a4 * 19) b2 _ hW19 (by omega) (by omega) (by omega) (by omega) (by omega)) ?_
  rintro e w23 ⟨h23, l23, rfl, hW23, hb⟩
  replace B0 : Blk w23 (w.heap.size) #[.int .u64 a0, .int .u64 a1, .int .u64 a2, .int .u64 a3, .int .u64 a4] 27 := B0.pass2 hb (by first | (simp; done) | (simp; omega) | omega) (by first | (simp; done) | (simp; omega) | omega)
  replace B1 : Blk w23 (w.heap.size + 1) #[.int .u64 b0, .int .u64 b1, .int .u64 b2, .int .u64 b3, .int .u64 b4] 27 := B1.pass2 hb (by first | (simp; done) | (simp; omega) | omega) (by first | (simp; done) | (simp; omega) | omega)
  replace B2 : Blk w23 (w.heap.size + 1 + 1) #[.int .u64 0, .int .u64 0, .int .u64 0, .int .u64 0, .int .u64 0] 27 := B2.pass2 hb (by first | (simp; done) | (simp; omega) | omega) (by first | (simp; done) | (simp; omega) | omega)
  replace B3 : Blk w23 (w.heap.size + 1 + 1 + 1) #[.int .u64 h22, .int .u64 l22, .int .u64 h19, .int .u64 l19, .int .u64 h20, .int .u64 l20, .int .u64 h16, .int .u64 l16, .int .u64 h21, .int .u64 l21] 58 := B3.in2 hb
  replace HB : Below w.heap.size w w23 := below2 HB hb HB.size (by first | (simp; done) | (simp; omega) | omega) (by first | (simp; done) | (simp; omega) | omega)
  clear hb c0 c1 c2 c3 f0 f1 f2 f3
  have c0 := B0.cell
  have f0 := B0.free
  have c1 := B1.cell
  have f1 := B1.free
  have c2 := B2.cell
  have f2 := B2.free
  have c3 := B3.cell
  have f3 := B3.free
  dsimp only
  go_wp2_with fail
  refine rounds_step ?_
  go_wp2_with fail
  refine Calls.mono (sum_acc 4 (0 + a0 * b2 + a1 * b1 + a2 * b0 + (a3 * 19) * b4) h20 l20 (a4 * 19) b3 _ hW20 (by omega) (by omega) (by omega) (by omega) (by omega)) ?_
  rintro e w24 ⟨h24, l24, rfl, hW24, hb⟩
  replace B0 : Blk w24 (w.heap.size) #[.int .u64 a0, .int .u64 a1, .int .u64 a2, .int .u64 a3, .int .u64 a4] 27 := B0.pass2 hb (by first | (simp; done) | (simp; omega) | omega) (by first | (simp; done) | (simp; omega) | omega)
  replace B1 : Blk w24 (w.heap.size + 1) #[.int .u64 b0, .int .u64 b1, .int .u64 b2, .int .u64 b3, .int .u64 b4] 27 := B1.pass2 hb (by first | (simp; done) | (simp; omega) | omega) (by first | (simp; done) | (simp; omega) | omega)
  replace B2 : Blk w24 (w.heap.size + 1 + 1) #[.int .u64 0, .int .u64 0, .int .u64 0, .int .u64 0, .int .u64 0] 27 := B2.pass2 hb (by first | (simp; done) | (simp; omega) | omega) (by first | (simp; done) | (simp; omega) | omega)
  replace B3 : Blk w24 (w.heap.size + 1 + 1 + 1) #[.int .u64 h22, .int .u64 l22, .int .u64 h23, .int .u64 l23, .int .u64 h20, .int .u64 l20, .int .u64 h16, .int .u64 l16, .int .u64 h21, .int .u64 l21] 58 := B3.in2 hb
  replace HB : Below w.heap.size w w24 := below2 HB hb HB.size (by first | (simp; done) | (simp; omega) | omega) (by first | (simp; done) | (simp; omega) | omega)
  clear hb c0 c1 c2 c3 f0 f1 f2 f3
  have c0 := B0.cell
  have f0 := B0.free
  have c1 := B1.cell
  have f1 := B1.free
  have c2 := B2.cell
  have f2 := B2.free
  have c3 := B3.cell
  have f3 := B3.free
  dsimp only
  go_wp2_with fail
  refine rounds_step ?_
  go_wp2_with fail
  refine Calls.mono (sum_acc 4 (0 + a0 * b3 + a1 * b2 + a2 * b1 + a3 * b0) h16 l16 (a4 * 19) b4 _ hW16 (by omega) (by omega) (by omega) (by omega) (by omega)) ?_
  rintro e w25 ⟨h25, l25, rfl, hW25, hb⟩
  replace B0 : Blk w25 (w.heap.size) #[.int .u64 a0, .int .u64 a1, .int .u64 a2, .int .u64 a3, .int .u64 a4] 27 := B0.pass2 hb (by first | (simp; done) | (simp; omega) | omega) (by first | (simp; done) | (simp; omega) | omega)
  replace B1 : Blk w25 (w.heap.size + 1) #[.int .u64 b0, .int .u64 b1, .int .u64 b2, .int .u64 b3, .int .u64 b4] 27 := B1.pass2 hb (by first | (simp; done) | (simp; omega) | omega) (by first | (simp; done) | (simp; omega) | omega)
  replace B2 : Blk w25 (w.heap.size + 1 + 1) #[.int .u64 0, .int .u64 0, .int .u64 0, .int .u64 0, .int .u64 0] 27 := B2.pass2 hb (by first | (simp; done) | (simp; omega) | omega) (by first | (simp; done) | (simp; omega) | omega)
  replace B3 : Blk w25 (w.heap.size + 1 + 1 + 1) #[.int .u64 h22, .int .u64 l22, .int .u64 h23, .int .u64 l23, .int .u64 h24, .int .u64 l24, .int .u64 h16, .int .u64 l16, .int .u64 h21, .int .u64 l21] 58 := B3.in2 hb
  replace HB : Below w.heap.size w w25 := below2 HB hb HB.size (by first | (simp; done) | (simp; omega) | omega) (by first | (simp; done) | (simp; omega) | omega)
  clear hb c0 c1 c2 c3 f0 f1 f2 f3
  have c0 := B0.cell
  have f0 := B0.free
  have c1 := B1.cell
  have f1 := B1.free
  have c2 := B2.cell
  have f2 := B2.free
  have c3 := B3.cell
  have f3 := B3.free
  dsimp only
  go_wp2_with fail
  refine rounds_step ?_
  go_wp2
  have is0 := idxs_0 h22 l22 h23 l23 h24 l24 h25 l25 h21 l21
  have is1 := idxs_1 h22 l22 h23 l23 h24 l24 h25 l25 h21 l21
  have is2 := idxs_2 h22 l22 h23 l23 h24 l24 h25 l25 h21 l21
  have is3 := idxs_3 h22 l22 h23 l23 h24 l24 h25 l25 h21 l21
  have is4 := idxs_4 h22 l22 h23 l23 h24 l24 h25 l25 h21 l21
  have z0 := B0.lt
  have z1 := B1.lt
  have z2 := B2.lt
  have z3 := B3.lt
  clear ia0 ia1 ia2 ia3 ia4 ib0 ib1 ib2 ib3 ib4
  refine rounds_step ?_
  go_wp2_with fail
  refine wp_loop_rounds 6 ?_
  refine rounds_step ?_
  go_wp2
  (refine tail_any 8 (by kernel_rfl) ?_; rintro W rfl; simp only [List.take_succ_cons, List.take_zero, List.drop_succ_cons, List.drop_zero]; (repeat still_step); refine wpStill_nil ?_)
  go_wp2
  refine rounds_step ?_
  go_wp2
  (refine tail_any 8 (by kernel_rfl) ?_; rintro W rfl; simp only [List.take_succ_cons, List.take_zero, List.drop_succ_cons, List.drop_zero]; (repeat still_step); refine wpStill_nil ?_)
  go_wp2
  refine rounds_step ?_
  go_wp2
  (refine tail_any 8 (by kernel_rfl) ?_; rintro W rfl; simp only [List.take_succ_cons, List.take_zero, List.drop_succ_cons, List.drop_zero]; (repeat still_step); refine wpStill_nil ?_)
  go_wp2
  refine rounds_step ?_
  go_wp2
  (refine tail_any 8 (by kernel_rfl) ?_; rintro W rfl; simp only [List.take_succ_cons, List.take_zero, List.drop_succ_cons, List.drop_zero]; (repeat still_step); refine wpStill_nil ?_)
  go_wp2
  refine rounds_step ?_
  go_wp2
  (refine tail_any 8 (by kernel_rfl) ?_; rintro W rfl; simp only [List.take_succ_cons, List.take_zero, List.drop_succ_cons, List.drop_zero]; (repeat still_step); refine wpStill_nil ?_)
  go_wp2
  refine rounds_step ?_
  go_wp2_with fail
  clear is0 is1 is2 is3 is4
  rw [Acc.d0 hW22 hW21 (by omega), Acc.d hW22 hW23 (by omega), Acc.d hW23 hW24 (by omega), Acc.d hW24 hW25 (by omega), Acc.d hW25 hW21 (by omega)]
  have HN : Hid (toF (S5 (0 + a0 * b0 + (a1 * 19) * b4 + (a2 * 19) * b3 + (a3 * 19) * b2 + (a4 * 19) * b1) (0 + a0 * b1 + a1 * b0 + (a2 * 19) * b4 + (a3 * 19) * b3 + (a4 * 19) * b2) (0 + a0 * b2 + a1 * b1 + a2 * b0 + (a3 * 19) * b4 + (a4 * 19) * b3) (0 + a0 * b3 + a1 * b2 + a2 * b1 + a3 * b0 + (a4 * 19) * b4) (0 + a0 * b4 + a1 * b3 + a2 * b2 + a3 * b1 + a4 * b0)) = x * y) := by
    have h := S5_mul a0 a1 a2 a3 a4 b0 b1 b2 b3 b4
    rw [HX.out, HY.out] at h
    simp only [Int.zero_add]
    exact h
  have le0 := Acc.le hW22
  have ge0 := Acc.ge hW22
  have le1 := Acc.le hW23
  have ge1 := Acc.ge hW23
  have le2 := Acc.le hW24
  have ge2 := Acc.ge hW24
  have le3 := Acc.le hW25
  have ge3 := Acc.ge hW25
  have le4 := Acc.le hW21
  have ge4 := Acc.ge hW21
  generalize 0 + a0 * b0 + (a1 * 19) * b4 + (a2 * 19) * b3 + (a3 * 19) * b2 + (a4 * 19) * b1 = n0 at *
  generalize 0 + a0 * b1 + a1 * b0 + (a2 * 19) * b4 + (a3 * 19) * b3 + (a4 * 19) * b2 = n1 at *
  generalize 0 + a0 * b2 + a1 * b1 + a2 * b0 + (a3 * 19) * b4 + (a4 * 19) * b3 = n2 at *
  generalize 0 + a0 * b3 + a1 * b2 + a2 * b1 + a3 * b0 + (a4 * 19) * b4 = n3 at *
  generalize 0 + a0 * b4 + a1 * b3 + a2 * b2 + a3 * b1 + a4 * b0 = n4 at *
  refine Calls.mono (carried_any _ _ _ _ _ _ (by omega) (by omega) (by omega) (by omega) (by omega) (by omega) (by omega) (by omega) (by omega) (by omega)) ?_
  rintro e w26 ⟨r0, r1, r2, r3, r4, rfl, hE, hb⟩
  rw [S5_fold, HN.out] at hE
  have B2' : Blk w26 (w.heap.size + 1 + 1) #[.int .u64 0, .int .u64 0, .int .u64 0, .int .u64 0, .int .u64 0] 27 := by (refine hb.blk ?_ (by first | (simp; done) | (simp; omega) | omega); repeat' first | (with_reducible exact B2) | (with_reducible refine Blk.drew ?_) | (with_reducible refine Blk.alloc ?_ _) | (with_reducible refine Blk.set_other ?_ _ _ (by first | (simp; done) | (simp; omega) | omega)))
  have z2' : w.heap.size + 1 + 1 < w26.heap.size := B2'.lt
  replace HB : Below w.heap.size w w26 := by repeat' first | (with_reducible exact Below.refl _ _) | (with_reducible refine Below.setCell ?_ (by first | (simp; done) | (simp; omega) | omega) _) | (with_reducible refine Below.alloc ?_ (by first | (simp; done) | (simp; omega) | omega) _) | (with_reducible refine Below.drew ?_) | (with_reducible refine Below.trans ?_ (Below.mono (by assumption) (by first | (simp; done) | (simp; omega) | omega)))
  have c2' := B2'.cell
  have f2' := B2'.free
  clear hb HN HX HY le0 le1 le2 le3 le4 ge0 ge1 ge2 ge3 ge4 c0 c1 c2 c3 f0 f1 f2 f3
  dsimp only
  repeat (first | go_skip | go_guarded | go_step | go_upon)
  refine bodyPost_ret (v := .agg #[.int .u64 r0, .int .u64 r1, .int .u64 r2, .int .u64 r3, .int .u64 r4]) ?_ rfl ⟨r0, r1, r2, r3, r4, rfl, hE, ?_⟩
  · simp [results, Try.results16, go_sem, c2']
  · repeat' first | (with_reducible exact Below.refl _ _) | (with_reducible refine Below.setCell ?_ (by first | (simp; done) | (simp; omega) | omega) _) | (with_reducible refine Below.alloc ?_ (by first | (simp; done) | (simp; omega) | omega) _) | (with_reducible refine Below.drew ?_) | (with_reducible refine Below.trans ?_ (Below.mono (by assumption) (by first | (simp; done) | (simp; omega) | omega)))

end Go.Proofs.Ytikjcikedbcfmaa
/-
  WALKS: package field: reduced.
-/
namespace Go.Proofs.Ytikjcikedbcfmaa
open Go.RowKit

/-- What 'reduced' comes to, by limbs. -/
def q5 (r0 r1 r2 r3 r4 : Int) : Int := (r4 + (r3 + (r2 + (r1 + (r0 + 19) / 2251799813685248) / 2251799813685248) / 2251799813685248) / 2251799813685248) / 2251799813685248

theorem divB (x : Int) : ∃ u v : Int, x = 2251799813685248 * u + v ∧ 0 ≤ v ∧ v < 2251799813685248 ∧ x / 2251799813685248 = u := ⟨x / 2251799813685248, x % 2251799813685248, by omega, by omega, by omega, rfl⟩

theorem reduced_num (r0 r1 r2 r3 r4 : Int) (l0 : 0 ≤ r0) (h0 : r0 < 2251799813685267) (l1 : 0 ≤ r1) (h1 : r1 < 2251799813685249) (l2 : 0 ≤ r2) (h2 : r2 < 2251799813685249) (l3 : 0 ≤ r3) (h3 : r3 < 2251799813685249) (l4 : 0 ≤ r4) (h4 : r4 < 2251799813685249) :
    S5 ((r0 + q5 r0 r1 r2 r3 r4 * 19) % 2251799813685248) ((r1 + (r0 + q5 r0 r1 r2 r3 r4 * 19) / 2251799813685248) % 2251799813685248) ((r2 + (r1 + (r0 + q5 r0 r1 r2 r3 r4 * 19) / 2251799813685248) / 2251799813685248) % 2251799813685248)
      ((r3 + (r2 + (r1 + (r0 + q5 r0 r1 r2 r3 r4 * 19) / 2251799813685248) / 2251799813685248) / 2251799813685248) % 2251799813685248) ((r4 + (r3 + (r2 + (r1 + (r0 + q5 r0 r1 r2 r3 r4 * 19) / 2251799813685248) / 2251799813685248) / 2251799813685248) / 2251799813685248) % 2251799813685248)
      = S5 r0 r1 r2 r3 r4 % 57896044618658097711785492504343953926634992332820282019728792003956564819949 := by
  have hq : q5 r0 r1 r2 r3 r4 = (S5 r0 r1 r2 r3 r4 + 19) / 57896044618658097711785492504343953926634992332820282019728792003956564819968 ∧ 0 ≤ q5 r0 r1 r2 r3 r4 ∧ q5 r0 r1 r2 r3 r4 ≤ 1 := by
    unfold q5
    obtain ⟨u1, v0, e1, p1, p2, f1⟩ := divB (r0 + 19)
    rw [f1]
    obtain ⟨u2, v1, e2, p3, p4, f2⟩ := divB (r1 + u1)
    rw [f2]
    obtain ⟨u3, v2, e3, p5, p6, f3⟩ := divB (r2 + u2)
    rw [f3]
    obtain ⟨u4, v3, e4, p7, p8, f4⟩ := divB (r3 + u3)
    rw [f4]
    obtain ⟨u5, v4, e5, p9, p10, f5⟩ := divB (r4 + u4)
    rw [f5]
    clear f1 f2 f3 f4 f5
    refine ⟨?_, by omega, by omega⟩
    have hN : S5 r0 r1 r2 r3 r4 + 19 = 57896044618658097711785492504343953926634992332820282019728792003956564819968 * u5 + (v0 + 2251799813685248 * v1 + 5070602400912917605986812821504 * v2 + 11417981541647679048466287755595961091061972992 * v3 + 25711008708143844408671393477458601640355247900524685364822016 * v4) := by
      unfold S5; omega
    rw [hN]
    have b1 : 0 ≤ v0 + 2251799813685248 * v1 + 5070602400912917605986812821504 * v2 + 11417981541647679048466287755595961091061972992 * v3 + 25711008708143844408671393477458601640355247900524685364822016 * v4 := by omega
    have b2 : v0 + 2251799813685248 * v1 + 5070602400912917605986812821504 * v2 + 11417981541647679048466287755595961091061972992 * v3 + 25711008708143844408671393477458601640355247900524685364822016 * v4 < 57896044618658097711785492504343953926634992332820282019728792003956564819968 := by omega
    generalize v0 + 2251799813685248 * v1 + 5070602400912917605986812821504 * v2 + 11417981541647679048466287755595961091061972992 * v3 + 25711008708143844408671393477458601640355247900524685364822016 * v4 = V at *
    clear hN e1 e2 e3 e4 e5
    omega
  obtain ⟨hq, hq0, hq2⟩ := hq
  have hS : S5 r0 r1 r2 r3 r4 < 58000000000000000000000000000000000000000000000000000000000000000000000000000 := by unfold S5; omega
  have hS0 : 0 ≤ S5 r0 r1 r2 r3 r4 := by unfold S5; omega
  have hm : S5 r0 r1 r2 r3 r4 % 57896044618658097711785492504343953926634992332820282019728792003956564819949 = (S5 r0 r1 r2 r3 r4 + 19 * q5 r0 r1 r2 r3 r4) % 57896044618658097711785492504343953926634992332820282019728792003956564819968 := by
    generalize q5 r0 r1 r2 r3 r4 = q at *
    generalize S5 r0 r1 r2 r3 r4 = s at *
    clear l0 h0 l1 h1 l2 h2 l3 h3 l4 h4
    have : q = 0 ∨ q = 1 := by omega
    rcases this with rfl | rfl <;> omega
  rw [hm]
  generalize q5 r0 r1 r2 r3 r4 = q at *
  clear hm hq hS hS0
  obtain ⟨u1, v0, e1, p1, p2, f1⟩ := divB (r0 + q * 19)
  obtain ⟨u2, v1, e2, p3, p4, f2⟩ := divB (r1 + u1)
  obtain ⟨u3, v2, e3, p5, p6, f3⟩ := divB (r2 + u2)
  obtain ⟨u4, v3, e4, p7, p8, f4⟩ := divB (r3 + u3)
  obtain ⟨u5, v4, e5, p9, p10, f5⟩ := divB (r4 + u4)
  rw [f1, f2, f3, f4]
  have m1 : (r0 + q * 19) % 2251799813685248 = v0 := by omega
  have m2 : (r1 + u1) % 2251799813685248 = v1 := by omega
  have m3 : (r2 + u2) % 2251799813685248 = v2 := by omega
  have m4 : (r3 + u3) % 2251799813685248 = v3 := by omega
  have m5 : (r4 + u4) % 2251799813685248 = v4 := by omega
  rw [m1, m2, m3, m4, m5]
  clear f1 f2 f3 f4 f5 m1 m2 m3 m4 m5
  have hN : S5 r0 r1 r2 r3 r4 + 19 * q = 57896044618658097711785492504343953926634992332820282019728792003956564819968 * u5 + S5 v0 v1 v2 v3 v4 := by
    unfold S5; omega
  rw [hN]
  have b1 : 0 ≤ S5 v0 v1 v2 v3 v4 := by unfold S5; omega
  have b2 : S5 v0 v1 v2 v3 v4 < 57896044618658097711785492504343953926634992332820282019728792003956564819968 := by unfold S5; omega
  generalize S5 v0 v1 v2 v3 v4 = V at *
  clear hN e1 e2 e3 e4 e5
  omega

theorem fld_l (x0 x1 x2 x3 x4 : Int) (w : World) : (Instr.field 27 (.agg #[.int .u64 x0, .int .u64 x1, .int .u64 x2, .int .u64 x3, .int .u64 x4]) 0).run Try.prog w = .ok (.agg #[.int .u64 x0, .int .u64 x1, .int .u64 x2, .int .u64 x3, .int .u64 x4]) w := by kernel_rfl

/-- The least limbs of a number of the field. -/
structure Can (x : F) (r0 r1 r2 r3 r4 : Int) : Prop where
  l0 : 0 ≤ r0
  h0 : r0 < 2251799813685248
  l1 : 0 ≤ r1
  h1 : r1 < 2251799813685248
  l2 : 0 ≤ r2
  h2 : r2 < 2251799813685248
  l3 : 0 ≤ r3
  h3 : r3 < 2251799813685248
  l4 : 0 ≤ r4
  h4 : r4 < 2251799813685248
  num : S5 r0 r1 r2 r3 r4 = (x.val : Nat)

theorem carried_tight {x : F} {a0 a1 a2 a3 a4 : Int} (ha : El x a0 a1 a2 a3 a4) (w : World) :
    Calls Try.prog 34 #[.agg #[.int .u64 a0, .int .u64 a1, .int .u64 a2, .int .u64 a3, .int .u64 a4]] w fun e w' =>
      ∃ r0 r1 r2 r3 r4 : Int, e = .returned (.agg #[.int .u64 r0, .int .u64 r1, .int .u64 r2, .int .u64 r3, .int .u64 r4]) ∧ (0 ≤ r0 ∧ r0 < 2251799813685267 ∧ 0 ≤ r1 ∧ r1 < 2251799813685249 ∧ 0 ≤ r2 ∧ r2 < 2251799813685249 ∧ 0 ≤ r3 ∧ r3 < 2251799813685249 ∧ 0 ≤ r4 ∧ r4 < 2251799813685249) ∧ Hid (toF (S5 r0 r1 r2 r3 r4) = x) ∧ Below w.heap.size w w' :=
  (carried_raw a0 a1 a2 a3 a4 w).mono fun _ _ ⟨he, hb⟩ => ⟨_, _, _, _, _, he, by
    obtain ⟨la0, ha0, la1, ha1, la2, ha2, la3, ha3, la4, ha4, hx⟩ := ha
    have e0 : c0 a0 a4 = a0 % 2251799813685248 + a4 / 2251799813685248 * 19 := by unfold c0; rw [and51 a0 la0 (by omega), wrap64u, wrap64u]; omega
    have ec : ∀ x y : Int, 0 ≤ x → x < 18446744073709551616 → 0 ≤ y → y < 18446744073709551616 → c1 x y = x % 2251799813685248 + y / 2251799813685248 := by
      intro x y a b c d
      unfold c1; rw [and51 x a b, wrap64u]; omega
    rw [e0, ec a1 a0 la1 (by omega) la0 (by omega), ec a2 a1 la2 (by omega) la1 (by omega), ec a3 a2 la3 (by omega) la2 (by omega), ec a4 a3 la4 (by omega) la3 (by omega)]
    refine ⟨by omega, by omega, by omega, by omega, by omega, by omega, by omega, by omega, by omega, by omega⟩, by
    obtain ⟨la0, ha0, la1, ha1, la2, ha2, la3, ha3, la4, ha4, hx⟩ := ha
    have h := carried_El a0 a1 a2 a3 a4 la0 (by omega) la1 (by omega) la2 (by omega) la3 (by omega) la4 (by omega)
    exact h.num.trans hx, hb⟩

set_option maxHeartbeats 4000000 in
theorem reduced_any {x : F} {a0 a1 a2 a3 a4 : Int} (ha : El x a0 a1 a2 a3 a4) (w : World) :
    Calls Try.prog 43 #[.agg #[.int .u64 a0, .int .u64 a1, .int .u64 a2, .int .u64 a3, .int .u64 a4]] w fun e w' =>
      ∃ r0 r1 r2 r3 r4 : Int, e = .returned (.agg #[.int .u64 r0, .int .u64 r1, .int .u64 r2, .int .u64 r3, .int .u64 r4]) ∧ Can x r0 r1 r2 r3 r4 ∧ Below w.heap.size w w' := by
  go_enter Try.func43, Try.ntmps43
  go_wp2_with fail
  refine Calls.mono (carried_tight ha _) ?_
  rintro e w1 ⟨r0, r1, r2, r3, r4, rfl, ⟨l0, h0, l1, h1, l2, h2, l3, h3, l4, h4⟩, hx, hb⟩
  have B2 : Blk w1 (w.heap.size + 1) #[.int .u64 0, .int .u64 0, .int .u64 0, .int .u64 0, .int .u64 0] 25 := hb.blk (Blk.at (w := w.alloc _) _ _ (by simp)) (by simp)
  have HB : Below w.heap.size w w1 := by repeat' first | (with_reducible exact Below.refl _ _) | (with_reducible refine Below.setCell ?_ (by first | (simp; done) | (simp; omega) | omega) _) | (with_reducible refine Below.alloc ?_ (by first | (simp; done) | (simp; omega) | omega) _) | (with_reducible refine Below.drew ?_) | (with_reducible refine Below.trans ?_ (Below.mono (by assumption) (by first | (simp; done) | (simp; omega) | omega)))
  have z1 := B2.lt
  have c2 := B2.cell
  have f2 := B2.free
  have fl := fld_l r0 r1 r2 r3 r4
  have i0 := idx5_0 r0 r1 r2 r3 r4
  have i1 := idx5_1 r0 r1 r2 r3 r4
  have i2 := idx5_2 r0 r1 r2 r3 r4
  have i3 := idx5_3 r0 r1 r2 r3 r4
  have i4 := idx5_4 r0 r1 r2 r3 r4
  clear hb
  dsimp only
  go_wp2_with fail
  refine wp_loop_rounds 6 ?_
  refine rounds_step ?_
  go_wp2_with fail
  refine rounds_step ?_
  go_wp2_with fail
  refine rounds_step ?_
  go_wp2_with fail
  refine rounds_step ?_
  go_wp2_with fail
  refine rounds_step ?_
  go_wp2_with fail
  refine rounds_step ?_
  go_wp2_with fail
  refine wp_loop_rounds 6 ?_
  refine rounds_step ?_
  go_wp2_with fail
  refine rounds_step ?_
  go_wp2_with fail
  refine rounds_step ?_
  go_wp2_with fail
  refine rounds_step ?_
  go_wp2_with fail
  refine rounds_step ?_
  go_wp2_with fail
  refine rounds_step ?_
  go_wp2_with fail
  refine bodyPost_ret (v := .agg #[.int .u64 (bits .and .u64 (r0 + q5 r0 r1 r2 r3 r4 * 19) 2251799813685247), .int .u64 (bits .and .u64 (r1 + (r0 + q5 r0 r1 r2 r3 r4 * 19) / 2251799813685248) 2251799813685247), .int .u64 (bits .and .u64 (r2 + (r1 + (r0 + q5 r0 r1 r2 r3 r4 * 19) / 2251799813685248) / 2251799813685248) 2251799813685247), .int .u64 (bits .and .u64 (r3 + (r2 + (r1 + (r0 + q5 r0 r1 r2 r3 r4 * 19) / 2251799813685248) / 2251799813685248) / 2251799813685248) 2251799813685247), .int .u64 (bits .and .u64 (r4 + (r3 + (r2 + (r1 + (r0 + q5 r0 r1 r2 r3 r4 * 19) / 2251799813685248) / 2251799813685248) / 2251799813685248) / 2251799813685248) 2251799813685247)]) ?_ rfl ⟨_, _, _, _, _, rfl, ?_, ?_⟩
  · simp [results, Try.results43, go_sem, c2, z1, q5]
  · have hn := reduced_num r0 r1 r2 r3 r4 l0 h0 l1 h1 l2 h2 l3 h3 l4 h4
    have hv : ((x.val : Nat) : Int) = S5 r0 r1 r2 r3 r4 % 57896044618658097711785492504343953926634992332820282019728792003956564819949 := by
      rw [← hx.out]; exact toF_val _
    have q0 : 0 ≤ q5 r0 r1 r2 r3 r4 := by unfold q5; omega
    have q1 : q5 r0 r1 r2 r3 r4 < 100 := by unfold q5; omega
    rw [← hv] at hn
    clear hv c2 f2 fl i0 i1 i2 i3 i4
    generalize q5 r0 r1 r2 r3 r4 = q at *
    rw [and51 (r0 + q * 19) (by omega) (by omega), and51 (r1 + (r0 + q * 19) / 2251799813685248) (by omega) (by omega), and51 (r2 + (r1 + (r0 + q * 19) / 2251799813685248) / 2251799813685248) (by omega) (by omega), and51 (r3 + (r2 + (r1 + (r0 + q * 19) / 2251799813685248) / 2251799813685248) / 2251799813685248) (by omega) (by omega), and51 (r4 + (r3 + (r2 + (r1 + (r0 + q * 19) / 2251799813685248) / 2251799813685248) / 2251799813685248) / 2251799813685248) (by omega) (by omega)]
    exact ⟨by omega, by omega, by omega, by omega, by omega, by omega, by omega, by omega, by omega, by omega, hn⟩
  · repeat' first | (with_reducible exact Below.refl _ _) | (with_reducible refine Below.setCell ?_ (by first | (simp; done) | (simp; omega) | omega) _) | (with_reducible refine Below.alloc ?_ (by first | (simp; done) | (simp; omega) | omega) _) | (with_reducible refine Below.drew ?_) | (with_reducible refine Below.trans ?_ (Below.mono (by assumption) (by first | (simp; done) | (simp; omega) | omega)))

end Go.Proofs.Ytikjcikedbcfmaa
/-
  PURE: a number's bytes, filled bit by bit.
-/
namespace Go.Proofs.Ytikjcikedbcfmaa

/-- Byte j of what the lowest bits, so many, are. -/
def byteOf (N k j : Nat) : Nat := N % 2 ^ k / 2 ^ (8 * j) % 256
def byteA (N k : Nat) : Array Value := ((List.range 32).map fun j => Value.int .u8 ((byteOf N k j : Nat) : Int)).toArray

theorem byteOf_lt (N k j : Nat) : byteOf N k j < 256 := Nat.mod_lt _ (by omega)

theorem byteOf_testBit (N k j i : Nat) : (byteOf N k j).testBit i = (decide (i < 8) && (decide (8 * j + i < k) && N.testBit (8 * j + i))) := by
  unfold byteOf
  rw [show (256 : Nat) = 2 ^ 8 from rfl, Nat.testBit_mod_two_pow, Nat.testBit_div_two_pow, Nat.testBit_mod_two_pow, Nat.add_comm i (8 * j)]

theorem byteOf_other (N k j : Nat) (h : k / 8 ≠ j) : byteOf N (k + 1) j = byteOf N k j := by
  apply Nat.eq_of_testBit_eq
  intro i
  rw [byteOf_testBit, byteOf_testBit]
  by_cases hi : i < 8
  · have : decide (8 * j + i < k + 1) = decide (8 * j + i < k) := by
      have : 8 * j + i ≠ k := by omega
      simp; omega
    rw [this]
  · simp [hi]

theorem byteOf_bit (N k j m b : Nat) (hj : k / 8 = j) (hm : k % 8 = m) (hb : b = N / 2 ^ k % 2) : byteOf N k j ||| b * 2 ^ m = byteOf N (k + 1) j := by
  apply Nat.eq_of_testBit_eq
  intro i
  have hb2 : b * 2 ^ m = b <<< m := by rw [Nat.shiftLeft_eq]
  rw [Nat.testBit_or, byteOf_testBit, byteOf_testBit, hb2, Nat.testBit_shiftLeft]
  have hbt : ∀ t, b.testBit t = (decide (t = 0) && N.testBit k) := by
    intro t
    rw [hb]
    cases t with
    | zero => simp [Nat.testBit, Nat.shiftRight_eq_div_pow]
    | succ t =>
      have : N / 2 ^ k % 2 < 2 ^ (t + 1) := by
        have h1 : N / 2 ^ k % 2 < 2 := Nat.mod_lt _ (by omega)
        have h2 : 2 ^ 1 ≤ 2 ^ (t + 1) := Nat.pow_le_pow_right (by omega) (by omega)
        omega
      rw [Nat.testBit_lt_two_pow this]; simp
  rw [hbt]
  by_cases hi : i < 8
  · by_cases h1 : 8 * j + i = k
    · have : i = m := by omega
      subst this
      have e : 8 * j + i = k := h1
      rw [e]
      simp [hi]
    · have e1 : decide (8 * j + i < k + 1) = decide (8 * j + i < k) := by simp; omega
      have e2 : (decide (m ≤ i) && (decide (i - m = 0) && N.testBit k)) = false := by
        by_cases h2 : m ≤ i
        · have : ¬ (i - m = 0) := by omega
          simp [this]
        · simp [h2]
      rw [e1]
      simp only [ge_iff_le, e2, Bool.or_false]
  · have e2 : (decide (m ≤ i) && (decide (i - m = 0) && N.testBit k)) = false := by
      have : ¬ (i - m = 0) := by omega
      simp [this]
    simp [hi]
    omega

theorem byteA_size (N k : Nat) : (byteA N k).size = 32 := by simp [byteA]
theorem byteA_get (N k j : Nat) (hj : j < 32) : (byteA N k)[j]? = some (.int .u8 ((byteOf N k j : Nat) : Int)) := by
  simp [byteA, hj]

theorem byteA_set (N k : Nat) (_hk : k / 8 < 32) : (byteA N k).setIfInBounds (k / 8) (.int .u8 ((byteOf N (k + 1) (k / 8) : Nat) : Int)) = byteA N (k + 1) := by
  apply Array.ext
  · simp [byteA]
  · intro i h1 h2
    have hi : i < 32 := by simpa [byteA] using h2
    rw [Array.getElem_setIfInBounds (by simpa [byteA] using hi)]
    split
    · rename_i e; subst e; simp [byteA]
    · rename_i e
      simp [byteA, byteOf_other N k i e]

/-- The step as the walk spells it. -/
theorem bit_step (N k j m K : Nat) (r : Int) (hj : k / 8 = j) (hm : k % 8 = m) (hr0 : 0 ≤ r) (hr : r < 2251799813685248) (hbit : r.toNat / 2 ^ K % 2 = N / 2 ^ k % 2) :
    bits .or .u8 ((byteOf N k j : Nat) : Int) (bits .and .u64 (r / 2 ^ K) 1 % 256 * 2 ^ m % 256) = ((byteOf N (k + 1) j : Nat) : Int) := by
  obtain ⟨R, rfl⟩ := Int.eq_ofNat_of_zero_le hr0
  have e1 : ((R : Int) / 2 ^ K) = ((R / 2 ^ K : Nat) : Int) := by simp
  have hlt : R / 2 ^ K < 18446744073709551616 := Nat.lt_of_le_of_lt (Nat.div_le_self _ _) (by omega)
  rw [e1, show (1 : Int) = ((1 : Nat) : Int) from rfl, u64_and_nat _ _ hlt (by omega), nat_mask1]
  have hb : R / 2 ^ K % 2 < 2 := Nat.mod_lt _ (by omega)
  have hm8 : m < 8 := by omega
  have hp : 2 ^ m ≤ 2 ^ 7 := Nat.pow_le_pow_right (by omega) (by omega)
  have e2 : (((R / 2 ^ K % 2 : Nat) : Int) % 256 * 2 ^ m % 256) = ((R / 2 ^ K % 2 * 2 ^ m : Nat) : Int) := by
    have h1 : R / 2 ^ K % 2 * 2 ^ m ≤ 1 * 2 ^ 7 := Nat.mul_le_mul (by omega) hp
    have h2 : ((R / 2 ^ K % 2 : Nat) : Int) % 256 = ((R / 2 ^ K % 2 : Nat) : Int) := by omega
    rw [h2, show ((2 : Int) ^ m) = ((2 ^ m : Nat) : Int) by simp, ← Int.natCast_mul]
    omega
  rw [e2]
  have h1 : R / 2 ^ K % 2 * 2 ^ m ≤ 1 * 2 ^ 7 := Nat.mul_le_mul (by omega) hp
  rw [u8_or_nat _ _ (byteOf_lt _ _ _) (by omega)]
  have hbit' : R / 2 ^ K % 2 = N / 2 ^ k % 2 := by simpa using hbit
  rw [byteOf_bit N k j m _ hj hm hbit']

end Go.Proofs.Ytikjcikedbcfmaa
/-
  WALKS: package field: Bytes.
-/
namespace Go.Proofs.Ytikjcikedbcfmaa
open Go.RowKit

theorem byteA_zero (N : Nat) : byteA N 0 = byteA 0 0 := by unfold byteA byteOf; simp [Nat.mod_one]

theorem mk32 (w : World) : (Instr.makeSlice 22 (.int .i64 32) (.int .i64 32)).run Try.prog w = .ok (.slice (some ⟨w.heap.size, 0, none⟩) 32 32) (w.alloc (.cells (byteA 0 0) 5)) := by kernel_rfl

theorem limb_bit (N K c : Nat) (r : Int) (hK : K < 51) (h : N / 2 ^ c % 2251799813685248 = r.toNat) : r.toNat / 2 ^ K % 2 = N / 2 ^ (c + K) % 2 := by
  have h1 : (N / 2 ^ c % 2 ^ 51).testBit K = (N / 2 ^ c).testBit K := by rw [Nat.testBit_mod_two_pow]; simp [hK]
  rw [show (2 : Nat) ^ 51 = 2251799813685248 from rfl, h, Nat.testBit_div_two_pow, Nat.testBit_eq_decide_div_mod_eq, Nat.testBit_eq_decide_div_mod_eq, Nat.add_comm K c] at h1
  have h2 : (r.toNat / 2 ^ K % 2 = 1) ↔ (N / 2 ^ (c + K) % 2 = 1) := by simpa using h1
  have h3 : r.toNat / 2 ^ K % 2 < 2 := Nat.mod_lt _ (by omega)
  have h4 : N / 2 ^ (c + K) % 2 < 2 := Nat.mod_lt _ (by omega)
  omega

set_option maxHeartbeats 8000000 in
theorem Bytes_any {x : F} {a0 a1 a2 a3 a4 : Int} (ha : El x a0 a1 a2 a3 a4) (w : World) :
    Calls Try.prog 30 #[.agg #[.int .u64 a0, .int .u64 a1, .int .u64 a2, .int .u64 a3, .int .u64 a4]] w fun e w' =>
      ∃ g : Nat, e = .returned (.slice (some ⟨g, 0, none⟩) 32 32) ∧ w.heap.size ≤ g ∧ Blk w' g (byteA x.val 255) 5 ∧ Below w.heap.size w w' := by
  have hmk : ∀ w, (Instr.makeSlice 22 (.int .i64 32) (.int .i64 32)).run Try.prog w = .ok (.slice (some ⟨w.heap.size, 0, none⟩) 32 32) (w.alloc (.cells (byteA x.val 0) 5)) := fun w => by
    rw [byteA_zero]; exact mk32 w
  go_enter Try.func30, Try.ntmps30
  go_wp2_with fail
  refine Calls.mono (reduced_any ha _) ?_
  rintro e w1 ⟨r0, r1, r2, r3, r4, rfl, hC, hb⟩
  have B0 : Blk w1 (w.heap.size + 1) (byteA x.val 0) 5 := hb.blk (Blk.at (w := w.alloc _) _ _ (by simp)) (by simp)
  have HB0 : Below w.heap.size w w1 := by repeat' first | (with_reducible exact Below.refl _ _) | (with_reducible refine Below.setCell ?_ (by first | (simp; done) | (simp; omega) | omega) _) | (with_reducible refine Below.alloc ?_ (by first | (simp; done) | (simp; omega) | omega) _) | (with_reducible refine Below.drew ?_) | (with_reducible refine Below.trans ?_ (Below.mono (by assumption) (by first | (simp; done) | (simp; omega) | omega)))
  have HN : Hid (x.val = (S5 r0 r1 r2 r3 r4).toNat) := by have := hC.num; show _ = _; omega
  obtain ⟨l0, h0, l1, h1, l2, h2, l3, h3, l4, h4, _⟩ := hC
  have L0 : Hid (x.val / 2 ^ 0 % 2251799813685248 = r0.toNat) := by show _ = _; rw [HN.out]; unfold S5; omega
  have L1 : Hid (x.val / 2 ^ 51 % 2251799813685248 = r1.toNat) := by show x.val / 2251799813685248 % 2251799813685248 = _; rw [HN.out]; unfold S5; omega
  have L2 : Hid (x.val / 2 ^ 102 % 2251799813685248 = r2.toNat) := by show x.val / 5070602400912917605986812821504 % 2251799813685248 = _; rw [HN.out]; unfold S5; omega
  have L3 : Hid (x.val / 2 ^ 153 % 2251799813685248 = r3.toNat) := by show x.val / 11417981541647679048466287755595961091061972992 % 2251799813685248 = _; rw [HN.out]; unfold S5; omega
  have L4 : Hid (x.val / 2 ^ 204 % 2251799813685248 = r4.toNat) := by show x.val / 25711008708143844408671393477458601640355247900524685364822016 % 2251799813685248 = _; rw [HN.out]; unfold S5; omega
  have i0 := idx5_0 r0 r1 r2 r3 r4
  have i1 := idx5_1 r0 r1 r2 r3 r4
  have i2 := idx5_2 r0 r1 r2 r3 r4
  have i3 := idx5_3 r0 r1 r2 r3 r4
  have i4 := idx5_4 r0 r1 r2 r3 r4
  clear hb hmk
  dsimp only
  go_wp2_with fail
  refine wp_loop_rounds 6 ?_
  refine rounds_step ?_
  go_wp2_with fail
  go_loopw [15] (fun k wr => ∃ K : Nat, k = .int .i64 K ∧ K ≤ 51 ∧ Blk wr (w.heap.size + 1) (byteA x.val K) 5 ∧ Below w.heap.size w wr) (fun k _ => 51 - (intOf k).toNat)
  case atStart => exact ⟨0, rfl, by omega, B0, HB0⟩
  case round =>
    obtain ⟨K, rfl, hK, BK, HK⟩ := hrel
    by_cases hlt : K < 51
    · obtain ⟨j, ej⟩ : ∃ j : Nat, (K : Int) / 8 = (j : Int) := ⟨K / 8, by omega⟩
      obtain ⟨m, em⟩ : ∃ m : Nat, (K : Int).tmod 8 = (m : Int) := ⟨K % 8, by rw [Int.tmod_eq_emod_of_nonneg (by omega)]; omega⟩
      have ej2 : Hid (K / 8 = j) := by show _ = _; omega
      have em2 : Hid (K % 8 = m) := by show _ = _; rw [Int.tmod_eq_emod_of_nonneg (by omega)] at em; omega
      have hj : j < 32 := by have := ej2.out; omega
      have hjI : (j : Int) < 32 := by omega
      have hm : m < 8 := by have := em2.out; omega
      have hmI : (m : Int) < 8 := by omega
      have hc : wr.cell? ⟨w.heap.size + 1, j, none⟩ = some (.int .u8 ((byteOf x.val K j : Nat) : Int)) := (BK.cell j).trans (byteA_get _ _ _ hj)
      have hf := BK.free j
      have e8 : IntKind.i64.wrap (j : Int) = (j : Int) := IntWalk.i64_in _ (by omega)
      have e8' : IntKind.i64.wrap (m : Int) = (m : Int) := IntWalk.i64_in _ (by omega)
      go_wp2_with fail
      (refine tail_any 15 (by kernel_rfl) ?_; rintro W rfl; simp only [List.take_succ_cons, List.take_zero, List.drop_succ_cons, List.drop_zero]; (repeat still_step); refine wpStill_nil ?_)
      go_wp2_with fail
      rw [bit_step x.val K j m K r0 ej2.out em2.out l0 h0 (by rw [limb_bit x.val K 0 r0 hlt L0.out]; simp)]
      go_roundw
      case rel => exact ⟨K + 1, by go_num, by omega, by (have q := BK.set (K / 8) (.int .u8 ((byteOf x.val (K + 1) (K / 8) : Nat) : Int)); rw [byteA_set _ _ (by omega), ej2.out] at q; exact q), (HK.setCell (by simp) _).drew⟩
      case measure => simp [intOf]; omega
    · obtain rfl : K = 51 := by omega
      obtain ⟨wo, rfl⟩ : ∃ wo : World, wo = wr := ⟨_, rfl⟩
      have B1 : Blk wo (w.heap.size + 1) (byteA x.val 51) 5 := BK
      have HB1 := HK
      clear BK HK hlt hK
      go_wp2_with fail
      refine rounds_step ?_
      go_wp2_with fail
      go_loopw [15] (fun k wr => ∃ K : Nat, k = .int .i64 K ∧ K ≤ 51 ∧ Blk wr (w.heap.size + 1) (byteA x.val (51 + K)) 5 ∧ Below w.heap.size w wr) (fun k _ => 51 - (intOf k).toNat)
      case atStart => exact ⟨0, rfl, by omega, B1, HB1⟩
      case round =>
        obtain ⟨K, rfl, hK, BK, HK⟩ := hrel
        by_cases hlt : K < 51
        · obtain ⟨j, ej⟩ : ∃ j : Nat, (51 + (K : Int)) / 8 = (j : Int) := ⟨(51 + K) / 8, by omega⟩
          obtain ⟨m, em⟩ : ∃ m : Nat, (51 + (K : Int)).tmod 8 = (m : Int) := ⟨(51 + K) % 8, by rw [Int.tmod_eq_emod_of_nonneg (by omega)]; omega⟩
          have ej' : (51 + (K : Int)).tdiv 8 = (j : Int) := by rw [Int.tdiv_eq_ediv_of_nonneg (by omega)]; exact ej
          have ej2 : Hid ((51 + K) / 8 = j) := by show _ = _; omega
          have em2 : Hid ((51 + K) % 8 = m) := by show _ = _; rw [Int.tmod_eq_emod_of_nonneg (by omega)] at em; omega
          have hj : j < 32 := by have := ej2.out; omega
          have hjI : (j : Int) < 32 := by omega
          have hm : m < 8 := by have := em2.out; omega
          have hmI : (m : Int) < 8 := by omega
          have hc : wr.cell? ⟨w.heap.size + 1, j, none⟩ = some (.int .u8 ((byteOf x.val (51 + K) j : Nat) : Int)) := (BK.cell j).trans (byteA_get _ _ _ hj)
          have hf := BK.free j
          have e8 : IntKind.i64.wrap (j : Int) = (j : Int) := IntWalk.i64_in _ (by omega)
          have e8' : IntKind.i64.wrap (m : Int) = (m : Int) := IntWalk.i64_in _ (by omega)
          go_wp2_with fail
          (refine tail_any 15 (by kernel_rfl) ?_; rintro W rfl; simp only [List.take_succ_cons, List.take_zero, List.drop_succ_cons, List.drop_zero]; (repeat still_step); refine wpStill_nil ?_)
          go_wp2_with fail
          rw [bit_step x.val (51 + K) j m K r1 ej2.out em2.out l1 h1 (by rw [limb_bit x.val K 51 r1 hlt L1.out])]
          go_roundw
          case rel => exact ⟨K + 1, by go_num, by omega, by (have q := BK.set ((51 + K) / 8) (.int .u8 ((byteOf x.val ((51 + K) + 1) ((51 + K) / 8) : Nat) : Int)); rw [byteA_set _ _ (by omega), ej2.out] at q; exact q), (HK.setCell (by simp) _).drew⟩
          case measure => simp [intOf]; omega
        · obtain rfl : K = 51 := by omega
          obtain ⟨wo, rfl⟩ : ∃ wo : World, wo = wr := ⟨_, rfl⟩
          have B2 : Blk wo (w.heap.size + 1) (byteA x.val 102) 5 := BK
          have HB2 := HK
          clear BK HK hlt hK
          go_wp2_with fail
          refine rounds_step ?_
          go_wp2_with fail
          go_loopw [15] (fun k wr => ∃ K : Nat, k = .int .i64 K ∧ K ≤ 51 ∧ Blk wr (w.heap.size + 1) (byteA x.val (102 + K)) 5 ∧ Below w.heap.size w wr) (fun k _ => 51 - (intOf k).toNat)
          case atStart => exact ⟨0, rfl, by omega, B2, HB2⟩
          case round =>
            obtain ⟨K, rfl, hK, BK, HK⟩ := hrel
            by_cases hlt : K < 51
            · obtain ⟨j, ej⟩ : ∃ j : Nat, (102 + (K : Int)) / 8 = (j : Int) := ⟨(102 + K) / 8, by omega⟩
              obtain ⟨m, em⟩ : ∃ m : Nat, (102 + (K : Int)).tmod 8 = (m : Int) := ⟨(102 + K) % 8, by rw [Int.tmod_eq_emod_of_nonneg (by omega)]; omega⟩
              have ej' : (102 + (K : Int)).tdiv 8 = (j : Int) := by rw [Int.tdiv_eq_ediv_of_nonneg (by omega)]; exact ej
              have ej2 : Hid ((102 + K) / 8 = j) := by show _ = _; omega
              have em2 : Hid ((102 + K) % 8 = m) := by show _ = _; rw [Int.tmod_eq_emod_of_nonneg (by omega)] at em; omega
              have hj : j < 32 := by have := ej2.out; omega
              have hjI : (j : Int) < 32 := by omega
              have hm : m < 8 := by have := em2.out; omega
              have hmI : (m : Int) < 8 := by omega
              have hc : wr.cell? ⟨w.heap.size + 1, j, none⟩ = some (.int .u8 ((byteOf x.val (102 + K) j : Nat) : Int)) := (BK.cell j).trans (byteA_get _ _ _ hj)
              have hf := BK.free j
              have e8 : IntKind.i64.wrap (j : Int) = (j : Int) := IntWalk.i64_in _ (by omega)
              have e8' : IntKind.i64.wrap (m : Int) = (m : Int) := IntWalk.i64_in _ (by omega)
              go_wp2_with fail
              (refine tail_any 15 (by kernel_rfl) ?_; rintro W rfl; simp only [List.take_succ_cons, List.take_zero, List.drop_succ_cons, List.drop_zero]; (repeat still_step); refine wpStill_nil ?_)
              go_wp2_with fail
              rw [bit_step x.val (102 + K) j m K r2 ej2.out em2.out l2 h2 (by rw [limb_bit x.val K 102 r2 hlt L2.out])]
              go_roundw
              case rel => exact ⟨K + 1, by go_num, by omega, by (have q := BK.set ((102 + K) / 8) (.int .u8 ((byteOf x.val ((102 + K) + 1) ((102 + K) / 8) : Nat) : Int)); rw [byteA_set _ _ (by omega), ej2.out] at q; exact q), (HK.setCell (by simp) _).drew⟩
              case measure => simp [intOf]; omega
            · obtain rfl : K = 51 := by omega
              obtain ⟨wo, rfl⟩ : ∃ wo : World, wo = wr := ⟨_, rfl⟩
              have B3 : Blk wo (w.heap.size + 1) (byteA x.val 153) 5 := BK
              have HB3 := HK
              clear BK HK hlt hK
              go_wp2_with fail
              refine rounds_step ?_
              go_wp2_with fail
              go_loopw [15] (fun k wr => ∃ K : Nat, k = .int .i64 K ∧ K ≤ 51 ∧ Blk wr (w.heap.size + 1) (byteA x.val (153 + K)) 5 ∧ Below w.heap.size w wr) (fun k _ => 51 - (intOf k).toNat)
              case atStart => exact ⟨0, rfl, by omega, B3, HB3⟩
              case round =>
                obtain ⟨K, rfl, hK, BK, HK⟩ := hrel
                by_cases hlt : K < 51
                · obtain ⟨j, ej⟩ : ∃ j : Nat, (153 + (K : Int)) / 8 = (j : Int) := ⟨(153 + K) / 8, by omega⟩
                  obtain ⟨m, em⟩ : ∃ m : Nat, (153 + (K : Int)).tmod 8 = (m : Int) := ⟨(153 + K) % 8, by rw [Int.tmod_eq_emod_of_nonneg (by omega)]; omega⟩
                  have ej' : (153 + (K : Int)).tdiv 8 = (j : Int) := by rw [Int.tdiv_eq_ediv_of_nonneg (by omega)]; exact ej
                  have ej2 : Hid ((153 + K) / 8 = j) := by show _ = _; omega
                  have em2 : Hid ((153 + K) % 8 = m) := by show _ = _; rw [Int.tmod_eq_emod_of_nonneg (by omega)] at em; omega
                  have hj : j < 32 := by have := ej2.out; omega
                  have hjI : (j : Int) < 32 := by omega
                  have hm : m < 8 := by have := em2.out; omega
                  have hmI : (m : Int) < 8 := by omega
                  have hc : wr.cell? ⟨w.heap.size + 1, j, none⟩ = some (.int .u8 ((byteOf x.val (153 + K) j : Nat) : Int)) := (BK.cell j).trans (byteA_get _ _ _ hj)
                  have hf := BK.free j
                  have e8 : IntKind.i64.wrap (j : Int) = (j : Int) := IntWalk.i64_in _ (by omega)
                  have e8' : IntKind.i64.wrap (m : Int) = (m : Int) := IntWalk.i64_in _ (by omega)
                  go_wp2_with fail
                  (refine tail_any 15 (by kernel_rfl) ?_; rintro W rfl; simp only [List.take_succ_cons, List.take_zero, List.drop_succ_cons, List.drop_zero]; (repeat still_step); refine wpStill_nil ?_)
                  go_wp2_with fail
                  rw [bit_step x.val (153 + K) j m K r3 ej2.out em2.out l3 h3 (by rw [limb_bit x.val K 153 r3 hlt L3.out])]
                  go_roundw
                  case rel => exact ⟨K + 1, by go_num, by omega, by (have q := BK.set ((153 + K) / 8) (.int .u8 ((byteOf x.val ((153 + K) + 1) ((153 + K) / 8) : Nat) : Int)); rw [byteA_set _ _ (by omega), ej2.out] at q; exact q), (HK.setCell (by simp) _).drew⟩
                  case measure => simp [intOf]; omega
                · obtain rfl : K = 51 := by omega
                  obtain ⟨wo, rfl⟩ : ∃ wo : World, wo = wr := ⟨_, rfl⟩
                  have B4 : Blk wo (w.heap.size + 1) (byteA x.val 204) 5 := BK
                  have HB4 := HK
                  clear BK HK hlt hK
                  go_wp2_with fail
                  refine rounds_step ?_
                  go_wp2_with fail
                  go_loopw [15] (fun k wr => ∃ K : Nat, k = .int .i64 K ∧ K ≤ 51 ∧ Blk wr (w.heap.size + 1) (byteA x.val (204 + K)) 5 ∧ Below w.heap.size w wr) (fun k _ => 51 - (intOf k).toNat)
                  case atStart => exact ⟨0, rfl, by omega, B4, HB4⟩
                  case round =>
                    obtain ⟨K, rfl, hK, BK, HK⟩ := hrel
                    by_cases hlt : K < 51
                    · obtain ⟨j, ej⟩ : ∃ j : Nat, (204 + (K : Int)) / 8 = (j : Int) := ⟨(204 + K) / 8, by omega⟩
                      obtain ⟨m, em⟩ : ∃ m : Nat, (204 + (K : Int)).tmod 8 = (m : Int) := ⟨(204 + K) % 8, by rw [Int.tmod_eq_emod_of_nonneg (by omega)]; omega⟩
                      have ej' : (204 + (K : Int)).tdiv 8 = (j : Int) := by rw [Int.tdiv_eq_ediv_of_nonneg (by omega)]; exact ej
                      have ej2 : Hid ((204 + K) / 8 = j) := by show _ = _; omega
                      have em2 : Hid ((204 + K) % 8 = m) := by show _ = _; rw [Int.tmod_eq_emod_of_nonneg (by omega)] at em; omega
                      have hj : j < 32 := by have := ej2.out; omega
                      have hjI : (j : Int) < 32 := by omega
                      have hm : m < 8 := by have := em2.out; omega
                      have hmI : (m : Int) < 8 := by omega
                      have hc : wr.cell? ⟨w.heap.size + 1, j, none⟩ = some (.int .u8 ((byteOf x.val (204 + K) j : Nat) : Int)) := (BK.cell j).trans (byteA_get _ _ _ hj)
                      have hf := BK.free j
                      have e8 : IntKind.i64.wrap (j : Int) = (j : Int) := IntWalk.i64_in _ (by omega)
                      have e8' : IntKind.i64.wrap (m : Int) = (m : Int) := IntWalk.i64_in _ (by omega)
                      go_wp2_with fail
                      (refine tail_any 15 (by kernel_rfl) ?_; rintro W rfl; simp only [List.take_succ_cons, List.take_zero, List.drop_succ_cons, List.drop_zero]; (repeat still_step); refine wpStill_nil ?_)
                      go_wp2_with fail
                      rw [bit_step x.val (204 + K) j m K r4 ej2.out em2.out l4 h4 (by rw [limb_bit x.val K 204 r4 hlt L4.out])]
                      go_roundw
                      case rel => exact ⟨K + 1, by go_num, by omega, by (have q := BK.set ((204 + K) / 8) (.int .u8 ((byteOf x.val ((204 + K) + 1) ((204 + K) / 8) : Nat) : Int)); rw [byteA_set _ _ (by omega), ej2.out] at q; exact q), (HK.setCell (by simp) _).drew⟩
                      case measure => simp [intOf]; omega
                    · obtain rfl : K = 51 := by omega
                      obtain ⟨wo, rfl⟩ : ∃ wo : World, wo = wr := ⟨_, rfl⟩
                      have B5 : Blk wo (w.heap.size + 1) (byteA x.val 255) 5 := BK
                      have HB5 := HK
                      clear BK HK hlt hK
                      go_wp2_with fail
                      refine rounds_step ?_
                      go_wp2_with fail
                      go_ret
                      exact ⟨_, rfl, by omega, B5, HB5⟩

end Go.Proofs.Ytikjcikedbcfmaa
/-
  WALKS: slices.Equal at bytes.
-/
namespace Go.Proofs.Ytikjcikedbcfmaa
open Go.RowKit

set_option maxHeartbeats 1000000 in
theorem Equal_any {A B : Option Addr} {c d : Nat} {xs ys : List Nat} (w : World) (ha : Bs w A c xs) (hb : Bs w B d ys) :
    Calls Try.prog 37 #[.slice A xs.length c, .slice B ys.length d] w fun e w' => e = .returned (.bool (decide (xs = ys))) ∧ Below w.heap.size w w' := by
  have hm := ha.max
  have hle := ha.le
  unfold maxLen at hm
  by_cases hl : xs.length = ys.length
  · have hl2 : Hid (xs.length = ys.length) := hl
    rw [← hl]
    clear hl
    generalize hn : xs.length = n at *
    have HN : Hid (xs.length = n) := hn
    clear hn
    have HA : Hid (Bs w A c xs) := ha
    have HB : Hid (Bs w B d ys) := hb
    clear ha hb
    go_enter Try.func37, Try.ntmps37
    go_wp2_with fail
    go_loopw [13] (fun k wr => ∃ K : Nat, k = .int .i64 K ∧ K ≤ n ∧ Hid (∀ i, i < K → xs.getD i 0 = ys.getD i 0) ∧ Below w.heap.size w wr) (fun k _ => n - (intOf k).toNat)
    case atStart => exact ⟨0, rfl, by omega, fun i hi => by omega, Below.refl _ _⟩
    case round =>
      obtain ⟨K, rfl, hK, hE, HW⟩ := hrel
      by_cases hlt : K < n
      · obtain ⟨b, off, rfl, h1⟩ := (HA.out.below HW).at (i := K) (by rw [HN.out]; exact hlt)
        obtain ⟨b2, off2, rfl, h2⟩ := (HB.out.below HW).at (i := K) (by rw [← hl2.out]; exact hlt)
        have hltI : (K : Int) < (n : Int) := by omega
        obtain ⟨p, q, HP, h3, h4⟩ : ∃ p q : Nat, Hid (xs.getD K 0 = p ∧ ys.getD K 0 = q) ∧ wr.cell? ⟨b, off + K, none⟩ = some (.int .u8 (p : Int)) ∧ wr.cell? ⟨b2, off2 + K, none⟩ = some (.int .u8 (q : Int)) := ⟨_, _, ⟨rfl, rfl⟩, h1, h2⟩
        clear h1 h2
        by_cases he : p = q
        · subst he
          have hbne : ((p : Int) != (p : Int)) = false := by simp
          go_wp2_with fail
          (refine still_any (by kernel_rfl) ?_; rintro W rfl; (repeat still_step); refine wpStill_nil ?_)
          go_wp2_with fail
          go_roundw
          case rel => exact ⟨K + 1, by go_num, by omega, fun i hi => by
            by_cases h : i < K
            · exact hE.out i h
            · obtain rfl : i = K := by omega
              exact HP.out.1.trans HP.out.2.symm, HW.drew⟩
          case measure => simp [intOf]; omega
        · have hbne : ((p : Int) != (q : Int)) = true := by simp; omega
          have he' : Hid (¬ p = q) := he
          clear he
          go_wp2_with fail
          (refine still_any (by kernel_rfl) ?_; rintro W rfl; (repeat still_step); refine wpStill_nil ?_)
          go_wp2_with fail
          go_ret
          refine ⟨?_, HW.drew⟩
          have hne : ¬ xs = ys := fun h => he'.out (by rw [← HP.out.1, ← HP.out.2, h])
          simp [hne]
      · obtain rfl : K = n := by omega
        go_wp2_with fail
        go_ret
        refine ⟨?_, HW⟩
        have heq : xs = ys := eq_of_getD (HN.out.trans hl2.out) (fun i hi => hE.out i (by rw [← HN.out]; exact hi))
        simp [heq]
  · have hne : ¬ xs = ys := fun h => hl (by rw [h])
    have hlI : ((xs.length : Int) != (ys.length : Int)) = true := by simp; omega
    have HH : Hid (¬ xs = ys) := hne
    have hbm := hb.max
    have hble := hb.le
    unfold maxLen at hbm
    clear hne hl
    go_enter Try.func37, Try.ntmps37
    go_wp2_with fail
    go_ret
    exact ⟨by simp [HH.out], Below.refl _ _⟩

end Go.Proofs.Ytikjcikedbcfmaa
/-
  WALKS: package field: Same.
-/
namespace Go.Proofs.Ytikjcikedbcfmaa
open Go.RowKit

/-- The 32 bytes of a number, low first. -/
def byteL (N : Nat) : List Nat := (List.range 32).map (byteOf N 255)

theorem byteL_length (N : Nat) : (byteL N).length = 32 := by simp [byteL]

theorem Bs_byteA {w : World} {g N : Nat} (h : Blk w g (byteA N 255) 5) : Bs w (some ⟨g, 0, none⟩) 32 (byteL N) := by
  refine ⟨by simp [byteL], by unfold maxLen; omega, fun x hx => ?_, .inr ⟨g, 0, rfl, fun i hi => ?_⟩⟩
  · obtain ⟨j, _, rfl⟩ := List.mem_map.1 hx
    exact byteOf_lt _ _ _
  · have hi' : i < 32 := by simpa [byteL] using hi
    have := (h.cell i).trans (byteA_get N 255 i hi')
    rw [Nat.zero_add]
    simpa [byteL, hi'] using this

theorem byteL_inj {N M : Nat} (hN : N < 2 ^ 255) (hM : M < 2 ^ 255) (h : byteL N = byteL M) : N = M := by
  have hb : ∀ j, j < 32 → byteOf N 255 j = byteOf M 255 j := fun j hj => by
    have := congrArg (fun l => l[j]?) h
    simpa [byteL, hj] using this
  apply Nat.eq_of_testBit_eq
  intro i
  by_cases hi : i < 255
  · have h1 := congrArg (fun n => n.testBit (i % 8)) (hb (i / 8) (by omega))
    simp only [byteOf_testBit] at h1
    have e : 8 * (i / 8) + i % 8 = i := by omega
    rw [e] at h1
    have h8 : i % 8 < 8 := by omega
    simpa [hi, h8] using h1
  · have hp : (2 : Nat) ^ 255 ≤ 2 ^ i := Nat.pow_le_pow_right (by omega) (by omega)
    rw [Nat.testBit_lt_two_pow (by omega), Nat.testBit_lt_two_pow (by omega)]

theorem F.lt255 (x : F) : x.val < 2 ^ 255 := by have := x.isLt; simp only [P] at this; omega

theorem byteL_F (x y : F) : (byteL x.val = byteL y.val) = (x = y) := by
  apply propext
  constructor
  · intro h; exact Fin.ext (byteL_inj x.lt255 y.lt255 h)
  · intro h; rw [h]

theorem exec_load_elem {o : Oper} {a : Act} {w : World} {x : Operand} {g : Nat} {a0 a1 a2 a3 a4 : Int} (ho : o.op = .load 27 x) (hx : a.eval x = .pointer (some ⟨g, 0, none⟩))
    (hB : Blk w g #[.int .u64 a0, .int .u64 a1, .int .u64 a2, .int .u64 a3, .int .u64 a4] 27) : (execOp a.eval o).run Try.prog w = .ok (.value (.agg #[.int .u64 a0, .int .u64 a1, .int .u64 a2, .int .u64 a3, .int .u64 a4])) w := by
  have hc := hB.cell
  generalize a.eval = ev at hx ⊢
  simp [execOp, ho, hx, go_sem, hc]

def SameS (x y : F) (a0 a1 a2 a3 a4 b0 b1 b2 b3 b4 : Int) : Nat → World → Value → Prop
  | 0, _, v => v = .agg #[.int .u64 a0, .int .u64 a1, .int .u64 a2, .int .u64 a3, .int .u64 a4]
  | 1, w, v => ∃ g, v = .slice (some ⟨g, 0, none⟩) 32 32 ∧ Blk w g (byteA x.val 255) 5
  | 2, _, v => v = .agg #[.int .u64 b0, .int .u64 b1, .int .u64 b2, .int .u64 b3, .int .u64 b4]
  | 3, w, v => ∃ g, v = .slice (some ⟨g, 0, none⟩) 32 32 ∧ Blk w g (byteA y.val 255) 5
  | _, _, v => v = .bool (decide (x = y))

set_option maxHeartbeats 1000000 in
theorem Same_any {x y : F} {a0 a1 a2 a3 a4 b0 b1 b2 b3 b4 : Int} (ha : El x a0 a1 a2 a3 a4) (hb : El y b0 b1 b2 b3 b4) (w : World) :
    Calls Try.prog 20 #[.agg #[.int .u64 a0, .int .u64 a1, .int .u64 a2, .int .u64 a3, .int .u64 a4], .agg #[.int .u64 b0, .int .u64 b1, .int .u64 b2, .int .u64 b3, .int .u64 b4]] w fun e w' =>
      e = .returned (.bool (decide (x = y))) ∧ Below w.heap.size w w' := by
  go_enter Try.func20, Try.ntmps20
  go_wp2_with fail
  refine region_any 6 (SameS x y a0 a1 a2 a3 a4 b0 b1 b2 b3 b4) (by kernel_rfl) (by kernel_rfl) (by kernel_rfl) ?_ (steps_all ?_) ?_
  · intro i w w' v h hb
    match i with
    | 0 => exact h
    | 1 => obtain ⟨g, hv, hB⟩ := h; exact ⟨g, hv, hB.old hb⟩
    | 2 => exact h
    | 3 => obtain ⟨g, hv, hB⟩ := h; exact ⟨g, hv, hB.old hb⟩
    | _ + 4 => exact h
  · simp only [List.take_succ_cons, List.take_zero, StepsFrom]
    refine ⟨?_, ?_, ?_, ?_, ?_, ?_, trivial⟩
    · refine step_plain rfl (fun a' w' hb' hO _ => .inl ⟨_, _, exec_load_elem rfl ((hO 2 (by decide)).trans rfl) (hb'.blk (cur := #[.int .u64 a0, .int .u64 a1, .int .u64 a2, .int .u64 a3, .int .u64 a4]) ?_ ?_), rfl, Below.refl _ _⟩)
      · exact (Blk.new w _ _).alloc _
      · simp; omega
    · refine step_plain rfl (fun a' w' hb' hO hD => ?_)
      have h0 : a'.eval (.tmp 5) = .agg #[.int .u64 a0, .int .u64 a1, .int .u64 a2, .int .u64 a3, .int .u64 a4] := hD ⟨0, .data⟩ (by simp) rfl 5 rfl
      exact .inr ⟨_, #[.agg #[.int .u64 a0, .int .u64 a1, .int .u64 a2, .int .u64 a3, .int .u64 a4]], exec_call Try.func30 (by kernel_rfl) (by kernel_rfl) _ rfl _ _ (by simp [h0]), Calls.mono (Bytes_any ha _) (fun e w2 ⟨g, he, _, hB, hbl⟩ => ⟨_, he, ⟨g, rfl, hB⟩, hbl⟩)⟩
    · refine step_plain rfl (fun a' w' hb' hO _ => .inl ⟨_, _, exec_load_elem rfl ((hO 3 (by decide)).trans rfl) (hb'.blk (cur := #[.int .u64 b0, .int .u64 b1, .int .u64 b2, .int .u64 b3, .int .u64 b4]) ?_ ?_), rfl, Below.refl _ _⟩)
      · exact Blk.at _ _ (by simp)
      · simp
    · refine step_plain rfl (fun a' w' hb' hO hD => ?_)
      have h0 : a'.eval (.tmp 7) = .agg #[.int .u64 b0, .int .u64 b1, .int .u64 b2, .int .u64 b3, .int .u64 b4] := hD ⟨2, .data⟩ (by simp) rfl 7 rfl
      exact .inr ⟨_, #[.agg #[.int .u64 b0, .int .u64 b1, .int .u64 b2, .int .u64 b3, .int .u64 b4]], exec_call Try.func30 (by kernel_rfl) (by kernel_rfl) _ rfl _ _ (by simp [h0]), Calls.mono (Bytes_any hb _) (fun e w2 ⟨g, he, _, hB, hbl⟩ => ⟨_, he, ⟨g, rfl, hB⟩, hbl⟩)⟩
    · refine step_plain rfl (fun a' w' hb' hO hD => ?_)
      obtain ⟨g1, h0, B1⟩ : ∃ g, a'.eval (.tmp 6) = .slice (some ⟨g, 0, none⟩) 32 32 ∧ Blk w' g (byteA x.val 255) 5 := hD ⟨1, .data⟩ (by simp) rfl 6 rfl
      obtain ⟨g2, h1, B2⟩ : ∃ g, a'.eval (.tmp 8) = .slice (some ⟨g, 0, none⟩) 32 32 ∧ Blk w' g (byteA y.val 255) 5 := hD ⟨3, .data⟩ (by simp) rfl 8 rfl
      have H := Equal_any w' (Bs_byteA B1) (Bs_byteA B2)
      rw [byteL_length, byteL_length] at H
      simp only [byteL_F] at H
      exact .inr ⟨_, #[.slice (some ⟨g1, 0, none⟩) 32 32, .slice (some ⟨g2, 0, none⟩) 32 32], exec_call Try.func37 (by kernel_rfl) (by kernel_rfl) _ rfl _ _ (by simp [h0, h1]), Calls.mono H (fun e w2 ⟨he, hbl⟩ => ⟨_, he, rfl, hbl⟩)⟩
    · refine step_plain rfl (fun a' w' hb' hO hD => .inl ⟨a'.eval (.tmp 9), _, rfl, ?_, Below.refl _ _⟩)
      exact hD ⟨4, .data⟩ (by simp) rfl 9 rfl
  · intro a' w' hb' hsz hdf hO hV
    obtain ⟨⟨tm⟩, df⟩ := a'
    match tm, hsz with
    | [x0, x1, x2, x3, x4, x5, x6, x7, x8, x9], _ =>
      have h4 : x4 = .bool (decide (x = y)) := hV 5 (by omega) 4 rfl
      have hdf' : df = [] := hdf
      subst h4
      subst hdf'
      have HB : Below w.heap.size w w' := (((Below.refl _ _).alloc (Nat.le_refl _) _).alloc (by simp) _).trans (hb'.mono (by simp; omega))
      clear hO hV hb' hdf
      show Exit.then _ _ .normal _ _
      go_wp2_with fail
      go_ret
      exact ⟨rfl, HB⟩

end Go.Proofs.Ytikjcikedbcfmaa
/-
  WALKS: sapperlaw5.awake.
-/
namespace Go.Proofs.Ytikjcikedbcfmaa
open Go.RowKit

theorem toF_258 : (toF 258).val = 258 := by decide +kernel
theorem toF_42 : decide (toF 6 * toF 7 = toF 42) = true := by decide +kernel

set_option maxHeartbeats 2000000 in
theorem awake5_any (w : World) : Calls Try.prog 5 #[] w fun e w' => e = .returned (.bool true) ∧ Below w.heap.size w w' := by
  go_enter Try.func5, Try.ntmps5
  go_wp2_with fail
  refine Calls.mono (Of_any 258 _ (by omega) (by omega)) ?_
  rintro e w1 ⟨a0, a1, a2, a3, a4, rfl, h1, hb1⟩
  dsimp only
  go_wp2_with fail
  refine Calls.mono (Bytes_any h1 _) ?_
  rintro e w2 ⟨g, rfl, hg, B, hb2⟩
  have c0 : w2.cell? ⟨g, 0, none⟩ = some (.int .u8 2) := (B.cell 0).trans ((byteA_get _ _ 0 (by omega)).trans (by rw [toF_258]; rfl))
  have c1 : w2.cell? ⟨g, 1, none⟩ = some (.int .u8 1) := (B.cell 1).trans ((byteA_get _ _ 1 (by omega)).trans (by rw [toF_258]; rfl))
  clear B
  dsimp only
  go_wp2_with fail
  refine Calls.mono (Of_any 6 _ (by omega) (by omega)) ?_
  rintro e w3 ⟨p0, p1, p2, p3, p4, rfl, h6, hb3⟩
  dsimp only
  go_wp2_with fail
  refine Calls.mono (Of_any 7 _ (by omega) (by omega)) ?_
  rintro e w4 ⟨q0, q1, q2, q3, q4, rfl, h7, hb4⟩
  dsimp only
  go_wp2_with fail
  refine Calls.mono (Mul_any h6 h7 _) ?_
  rintro e w5 ⟨r0, r1, r2, r3, r4, rfl, h67, hb5⟩
  dsimp only
  go_wp2_with fail
  refine Calls.mono (Of_any 42 _ (by omega) (by omega)) ?_
  rintro e w6 ⟨s0, s1, s2, s3, s4, rfl, h42, hb6⟩
  dsimp only
  go_wp2_with fail
  refine Calls.mono (Same_any h67 h42 _) ?_
  rintro e w7 ⟨rfl, hb7⟩
  rw [toF_42]
  have HB : Below w.heap.size w w7 := hb1.trans ((hb2.mono hb1.size).trans ((hb3.mono (Nat.le_trans hb1.size hb2.size)).trans ((hb4.mono (Nat.le_trans hb1.size (Nat.le_trans hb2.size hb3.size))).trans ((hb5.mono (Nat.le_trans hb1.size (Nat.le_trans hb2.size (Nat.le_trans hb3.size hb4.size)))).trans ((hb6.mono (Nat.le_trans hb1.size (Nat.le_trans hb2.size (Nat.le_trans hb3.size (Nat.le_trans hb4.size hb5.size))))).trans (hb7.mono (Nat.le_trans hb1.size (Nat.le_trans hb2.size (Nat.le_trans hb3.size (Nat.le_trans hb4.size (Nat.le_trans hb5.size hb6.size)))))))))))
  dsimp only
  go_wp2_with fail
  go_ret
  exact ⟨rfl, HB⟩

end Go.Proofs.Ytikjcikedbcfmaa
/-
  Contracts of package field, said of values: 'ElV x v': v is the value of an element that is x.
-/
namespace Go.Proofs.Ytikjcikedbcfmaa
open Go.RowKit
set_option linter.unusedVariables false
set_option linter.unusedSimpArgs false

theorem Add_V {x y : F} {u v : Value} (hu : ElV x u) (hv : ElV y v) (w : World) : Calls Try.prog 12 #[u, v] w fun e w' => ∃ r, e = .returned r ∧ ElV (x + y) r ∧ Below w.heap.size w w' := by
  obtain ⟨a0, a1, a2, a3, a4, rfl, ha⟩ := hu
  obtain ⟨b0, b1, b2, b3, b4, rfl, hb⟩ := hv
  exact (Add_any ha hb w).mono fun e w' ⟨r0, r1, r2, r3, r4, he, hE, hB⟩ => ⟨_, he, ⟨_, _, _, _, _, rfl, hE⟩, hB⟩
theorem Sub_V {x y : F} {u v : Value} (hu : ElV x u) (hv : ElV y v) (w : World) : Calls Try.prog 14 #[u, v] w fun e w' => ∃ r, e = .returned r ∧ ElV (x - y) r ∧ Below w.heap.size w w' := by
  obtain ⟨a0, a1, a2, a3, a4, rfl, ha⟩ := hu
  obtain ⟨b0, b1, b2, b3, b4, rfl, hb⟩ := hv
  exact (Sub_any ha hb w).mono fun e w' ⟨r0, r1, r2, r3, r4, he, hE, hB⟩ => ⟨_, he, ⟨_, _, _, _, _, rfl, hE⟩, hB⟩
theorem Mul_V {x y : F} {u v : Value} (hu : ElV x u) (hv : ElV y v) (w : World) : Calls Try.prog 16 #[u, v] w fun e w' => ∃ r, e = .returned r ∧ ElV (x * y) r ∧ Below w.heap.size w w' := by
  obtain ⟨a0, a1, a2, a3, a4, rfl, ha⟩ := hu
  obtain ⟨b0, b1, b2, b3, b4, rfl, hb⟩ := hv
  exact (Mul_any ha hb w).mono fun e w' ⟨r0, r1, r2, r3, r4, he, hE, hB⟩ => ⟨_, he, ⟨_, _, _, _, _, rfl, hE⟩, hB⟩
theorem Of_V (n : Int) (w : World) (h0 : 0 ≤ n) (h1 : n < 18446744073709551616) : Calls Try.prog 9 #[.int .u64 n] w fun e w' => ∃ r, e = .returned r ∧ ElV (toF n) r ∧ Below w.heap.size w w' :=
  (Of_any n w h0 h1).mono fun e w' ⟨r0, r1, r2, r3, r4, he, hE, hB⟩ => ⟨_, he, ⟨_, _, _, _, _, rfl, hE⟩, hB⟩
theorem Same_V {x y : F} {u v : Value} (hu : ElV x u) (hv : ElV y v) (w : World) : Calls Try.prog 20 #[u, v] w fun e w' => ∃ r, e = .returned r ∧ r = .bool (decide (x = y)) ∧ Below w.heap.size w w' := by
  obtain ⟨a0, a1, a2, a3, a4, rfl, ha⟩ := hu
  obtain ⟨b0, b1, b2, b3, b4, rfl, hb⟩ := hv
  exact (Same_any ha hb w).mono fun e w' ⟨he, hB⟩ => ⟨_, he, rfl, hB⟩
theorem Same_T {x y : F} {u v : Value} (hu : ElV x u) (hv : ElV y v) (w : World) (h : x = y) : Calls Try.prog 20 #[u, v] w fun e w' => ∃ r, e = .returned r ∧ r = .bool true ∧ Below w.heap.size w w' := by
  have H := Same_V hu hv w
  rwa [decide_eq_true h] at H
theorem awake5_V (w : World) : Calls Try.prog 5 #[] w fun e w' => ∃ r, e = .returned r ∧ r = .bool true ∧ Below w.heap.size w w' :=
  (awake5_any w).mono fun e w' ⟨he, hB⟩ => ⟨_, he, rfl, hB⟩

theorem toF_small {a b : Int} (ha : 0 ≤ a) (ha' : a < 18446744073709551616) (hb : 0 ≤ b) (hb' : b < 18446744073709551616) : (toF a = toF b) = (a = b) := by
  apply propext
  constructor
  · intro h
    have h1 := toF_val a
    have h2 := toF_val b
    rw [h] at h1
    omega
  · intro h; rw [h]

end Go.Proofs.Ytikjcikedbcfmaa
