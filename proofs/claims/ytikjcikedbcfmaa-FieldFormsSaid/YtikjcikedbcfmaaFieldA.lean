/-
  WALKS: package field: carried, Of, Add, Sub.
-/
import Derived.Test.YtikjcikedbcfmaaBase
import Derived.Test.YtikjcikedbcfmaaMath
namespace Go.Proofs.Ytikjcikedbcfmaa
open Go.RowKit
set_option maxRecDepth 100000

set_option maxHeartbeats 1000000 in
theorem carried_raw (a0 a1 a2 a3 a4 : Int) (w : World) :
    Calls Try.prog 34 #[.agg #[.int .u64 a0, .int .u64 a1, .int .u64 a2, .int .u64 a3, .int .u64 a4]] w fun e w' =>
      e = .returned (.agg #[.int .u64 (c0 a0 a4), .int .u64 (c1 a1 a0), .int .u64 (c1 a2 a1), .int .u64 (c1 a3 a2), .int .u64 (c1 a4 a3)]) ∧ Below w.heap.size w w' := by
  go_enter Try.func34, Try.ntmps34
  go_wp2
  go_rounds 6
  go_rounds 6
  refine bodyPost_ret (v := .agg #[.int .u64 (c0 a0 a4), .int .u64 (c1 a1 a0), .int .u64 (c1 a2 a1), .int .u64 (c1 a3 a2), .int .u64 (c1 a4 a3)]) ?_ rfl ⟨rfl, ?_⟩
  · simp [results, Try.results34, go_sem]
    exact ⟨rfl, rfl, rfl, rfl, rfl⟩
  · exact (((Below.refl _ _).alloc (Nat.le_refl _) _).alloc (by simp) _).alloc (by simp; omega) _

/-- An element's value, of a number. -/
def ElV (x : F) (v : Value) : Prop := ∃ a0 a1 a2 a3 a4 : Int, v = .agg #[.int .u64 a0, .int .u64 a1, .int .u64 a2, .int .u64 a3, .int .u64 a4] ∧ El x a0 a1 a2 a3 a4

theorem carried_any (a0 a1 a2 a3 a4 : Int) (w : World) (l0 : 0 ≤ a0) (h0 : a0 < 18446744073709551616) (l1 : 0 ≤ a1) (h1 : a1 < 18446744073709551616)
    (l2 : 0 ≤ a2) (h2 : a2 < 18446744073709551616) (l3 : 0 ≤ a3) (h3 : a3 < 18446744073709551616) (l4 : 0 ≤ a4) (h4 : a4 < 18446744073709551616) :
    Calls Try.prog 34 #[.agg #[.int .u64 a0, .int .u64 a1, .int .u64 a2, .int .u64 a3, .int .u64 a4]] w fun e w' =>
      ∃ r0 r1 r2 r3 r4 : Int, e = .returned (.agg #[.int .u64 r0, .int .u64 r1, .int .u64 r2, .int .u64 r3, .int .u64 r4]) ∧ El (toF (S5 a0 a1 a2 a3 a4)) r0 r1 r2 r3 r4 ∧ Below w.heap.size w w' :=
  (carried_raw a0 a1 a2 a3 a4 w).mono fun _ _ ⟨he, hb⟩ => ⟨_, _, _, _, _, he, carried_El a0 a1 a2 a3 a4 l0 h0 l1 h1 l2 h2 l3 h3 l4 h4, hb⟩

set_option maxHeartbeats 1000000 in
theorem Of_raw (n : Int) (w : World) :
    Calls Try.prog 9 #[.int .u64 n] w fun e w' =>
      e = .returned (.agg #[.int .u64 (c0 n 0), .int .u64 (c1 0 n), .int .u64 (c1 0 0), .int .u64 (c1 0 0), .int .u64 (c1 0 0)]) ∧ Below w.heap.size w w' := by
  go_enter Try.func9, Try.ntmps9
  go_wp2_with (go_at_call 34; refine (carried_raw _ _ _ _ _ _).mono ?_; rintro e w' ⟨rfl, hb⟩; obtain ⟨hc, hf⟩ := bcell hb)
  refine bodyPost_ret (v := .agg #[.int .u64 (c0 n 0), .int .u64 (c1 0 n), .int .u64 (c1 0 0), .int .u64 (c1 0 0), .int .u64 (c1 0 0)]) ?_ rfl ⟨rfl, ?_⟩
  · simp [results, Try.results9, go_sem, hc]
  · repeat' first | (with_reducible exact Below.refl _ _) | (with_reducible refine Below.setCell ?_ (by first | (simp; done) | (simp; omega) | omega) _) | (with_reducible refine Below.alloc ?_ (by first | (simp; done) | (simp; omega) | omega) _) | (with_reducible refine Below.drew ?_) | (with_reducible refine Below.trans ?_ (Below.mono (by assumption) (by first | (simp; done) | (simp; omega) | omega)))

set_option maxHeartbeats 2000000 in
theorem Add_raw (a0 a1 a2 a3 a4 b0 b1 b2 b3 b4 : Int) (w : World) :
    Calls Try.prog 12 #[.agg #[.int .u64 a0, .int .u64 a1, .int .u64 a2, .int .u64 a3, .int .u64 a4], .agg #[.int .u64 b0, .int .u64 b1, .int .u64 b2, .int .u64 b3, .int .u64 b4]] w fun e w' =>
      e = .returned (.agg #[.int .u64 (c0 (IntKind.u64.wrap (a0 + b0)) (IntKind.u64.wrap (a4 + b4))), .int .u64 (c1 (IntKind.u64.wrap (a1 + b1)) (IntKind.u64.wrap (a0 + b0))), .int .u64 (c1 (IntKind.u64.wrap (a2 + b2)) (IntKind.u64.wrap (a1 + b1))),
        .int .u64 (c1 (IntKind.u64.wrap (a3 + b3)) (IntKind.u64.wrap (a2 + b2))), .int .u64 (c1 (IntKind.u64.wrap (a4 + b4)) (IntKind.u64.wrap (a3 + b3)))]) ∧ Below w.heap.size w w' := by
  go_enter Try.func12, Try.ntmps12
  go_wp2
  refine wp_loop_rounds 6 ?_
  iterate 5 (rw [rounds_succ]; go_wp2; (refine tail_any 11 (by kernel_rfl) ?_; rintro W rfl; simp only [List.take_succ_cons, List.take_zero, List.drop_succ_cons, List.drop_zero]; (repeat still_step); refine wpStill_nil ?_); go_wp2)
  rw [rounds_succ]
  go_wp2_with (go_at_call 34; refine (carried_raw _ _ _ _ _ _).mono ?_; rintro e w' ⟨rfl, hb⟩; obtain ⟨hc, hf⟩ := bcell hb)
  refine bodyPost_ret (v := .agg #[.int .u64 (c0 (IntKind.u64.wrap (a0 + b0)) (IntKind.u64.wrap (a4 + b4))), .int .u64 (c1 (IntKind.u64.wrap (a1 + b1)) (IntKind.u64.wrap (a0 + b0))), .int .u64 (c1 (IntKind.u64.wrap (a2 + b2)) (IntKind.u64.wrap (a1 + b1))),
        .int .u64 (c1 (IntKind.u64.wrap (a3 + b3)) (IntKind.u64.wrap (a2 + b2))), .int .u64 (c1 (IntKind.u64.wrap (a4 + b4)) (IntKind.u64.wrap (a3 + b3)))]) ?_ rfl ⟨rfl, ?_⟩
  · simp [results, Try.results12, go_sem, hc]
  · repeat' first | (with_reducible exact Below.refl _ _) | (with_reducible refine Below.setCell ?_ (by first | (simp; done) | (simp; omega) | omega) _) | (with_reducible refine Below.alloc ?_ (by first | (simp; done) | (simp; omega) | omega) _) | (with_reducible refine Below.drew ?_) | (with_reducible refine Below.trans ?_ (Below.mono (by assumption) (by first | (simp; done) | (simp; omega) | omega)))

set_option maxHeartbeats 2000000 in
theorem Sub_raw (a0 a1 a2 a3 a4 b0 b1 b2 b3 b4 : Int) (w : World) :
    Calls Try.prog 14 #[.agg #[.int .u64 a0, .int .u64 a1, .int .u64 a2, .int .u64 a3, .int .u64 a4], .agg #[.int .u64 b0, .int .u64 b1, .int .u64 b2, .int .u64 b3, .int .u64 b4]] w fun e w' =>
      e = .returned (.agg #[.int .u64 (c0 (IntKind.u64.wrap (a0 + IntKind.u64.wrap (9007199254740916 - b0))) (IntKind.u64.wrap (a4 + IntKind.u64.wrap (9007199254740988 - b4)))), .int .u64 (c1 (IntKind.u64.wrap (a1 + IntKind.u64.wrap (9007199254740988 - b1))) (IntKind.u64.wrap (a0 + IntKind.u64.wrap (9007199254740916 - b0)))), .int .u64 (c1 (IntKind.u64.wrap (a2 + IntKind.u64.wrap (9007199254740988 - b2))) (IntKind.u64.wrap (a1 + IntKind.u64.wrap (9007199254740988 - b1)))), .int .u64 (c1 (IntKind.u64.wrap (a3 + IntKind.u64.wrap (9007199254740988 - b3))) (IntKind.u64.wrap (a2 + IntKind.u64.wrap (9007199254740988 - b2)))), .int .u64 (c1 (IntKind.u64.wrap (a4 + IntKind.u64.wrap (9007199254740988 - b4))) (IntKind.u64.wrap (a3 + IntKind.u64.wrap (9007199254740988 - b3))))]) ∧ Below w.heap.size w w' := by
  go_enter Try.func14, Try.ntmps14
  go_wp2
  refine wp_loop_rounds 6 ?_
  iterate 5 (rw [rounds_succ]; go_wp2; (refine tail_any 13 (by kernel_rfl) ?_; rintro W rfl; simp only [List.take_succ_cons, List.take_zero, List.drop_succ_cons, List.drop_zero]; (repeat still_step); refine wpStill_nil ?_); go_wp2)
  rw [rounds_succ]
  go_wp2_with (go_at_call 34; refine (carried_raw _ _ _ _ _ _).mono ?_; rintro e w' ⟨rfl, hb⟩; obtain ⟨hc, hf⟩ := bcell hb)
  refine bodyPost_ret (v := .agg #[.int .u64 (c0 (IntKind.u64.wrap (a0 + IntKind.u64.wrap (9007199254740916 - b0))) (IntKind.u64.wrap (a4 + IntKind.u64.wrap (9007199254740988 - b4)))), .int .u64 (c1 (IntKind.u64.wrap (a1 + IntKind.u64.wrap (9007199254740988 - b1))) (IntKind.u64.wrap (a0 + IntKind.u64.wrap (9007199254740916 - b0)))), .int .u64 (c1 (IntKind.u64.wrap (a2 + IntKind.u64.wrap (9007199254740988 - b2))) (IntKind.u64.wrap (a1 + IntKind.u64.wrap (9007199254740988 - b1)))), .int .u64 (c1 (IntKind.u64.wrap (a3 + IntKind.u64.wrap (9007199254740988 - b3))) (IntKind.u64.wrap (a2 + IntKind.u64.wrap (9007199254740988 - b2)))), .int .u64 (c1 (IntKind.u64.wrap (a4 + IntKind.u64.wrap (9007199254740988 - b4))) (IntKind.u64.wrap (a3 + IntKind.u64.wrap (9007199254740988 - b3))))]) ?_ rfl ⟨rfl, ?_⟩
  · simp [results, Try.results14, go_sem, hc]
  · repeat' first | (with_reducible exact Below.refl _ _) | (with_reducible refine Below.setCell ?_ (by first | (simp; done) | (simp; omega) | omega) _) | (with_reducible refine Below.alloc ?_ (by first | (simp; done) | (simp; omega) | omega) _) | (with_reducible refine Below.drew ?_) | (with_reducible refine Below.trans ?_ (Below.mono (by assumption) (by first | (simp; done) | (simp; omega) | omega)))

theorem Of_any (n : Int) (w : World) (h0 : 0 ≤ n) (h1 : n < 18446744073709551616) :
    Calls Try.prog 9 #[.int .u64 n] w fun e w' =>
      ∃ r0 r1 r2 r3 r4 : Int, e = .returned (.agg #[.int .u64 r0, .int .u64 r1, .int .u64 r2, .int .u64 r3, .int .u64 r4]) ∧ El (toF n) r0 r1 r2 r3 r4 ∧ Below w.heap.size w w' :=
  (Of_raw n w).mono fun _ _ ⟨he, hb⟩ => ⟨_, _, _, _, _, he, by
    have h := carried_El n 0 0 0 0 h0 h1 (by omega) (by omega) (by omega) (by omega) (by omega) (by omega) (by omega) (by omega)
    simpa [S5] using h, hb⟩

theorem Add_any {x y : F} {a0 a1 a2 a3 a4 b0 b1 b2 b3 b4 : Int} (ha : El x a0 a1 a2 a3 a4) (hb : El y b0 b1 b2 b3 b4) (w : World) :
    Calls Try.prog 12 #[.agg #[.int .u64 a0, .int .u64 a1, .int .u64 a2, .int .u64 a3, .int .u64 a4], .agg #[.int .u64 b0, .int .u64 b1, .int .u64 b2, .int .u64 b3, .int .u64 b4]] w fun e w' =>
      ∃ r0 r1 r2 r3 r4 : Int, e = .returned (.agg #[.int .u64 r0, .int .u64 r1, .int .u64 r2, .int .u64 r3, .int .u64 r4]) ∧ El (x + y) r0 r1 r2 r3 r4 ∧ Below w.heap.size w w' :=
  (Add_raw a0 a1 a2 a3 a4 b0 b1 b2 b3 b4 w).mono fun _ _ ⟨he, hw⟩ => ⟨_, _, _, _, _, he, by
    have e : ∀ u v : Int, 0 ≤ u → u < 4503599627370496 → 0 ≤ v → v < 4503599627370496 → IntKind.u64.wrap (u + v) = u + v := by intro u v _ _ _ _; rw [wrap64u]; omega
    obtain ⟨la0, ha0, la1, ha1, la2, ha2, la3, ha3, la4, ha4, rfl⟩ := ha
    obtain ⟨lb0, hb0, lb1, hb1, lb2, hb2, lb3, hb3, lb4, hb4, rfl⟩ := hb
    rw [e a0 b0 la0 ha0 lb0 hb0, e a1 b1 la1 ha1 lb1 hb1, e a2 b2 la2 ha2 lb2 hb2, e a3 b3 la3 ha3 lb3 hb3, e a4 b4 la4 ha4 lb4 hb4]
    have h := carried_El (a0 + b0) (a1 + b1) (a2 + b2) (a3 + b3) (a4 + b4) (by omega) (by omega) (by omega) (by omega) (by omega) (by omega) (by omega) (by omega) (by omega) (by omega)
    have e2 : toF (S5 (a0 + b0) (a1 + b1) (a2 + b2) (a3 + b3) (a4 + b4)) = toF (S5 a0 a1 a2 a3 a4) + toF (S5 b0 b1 b2 b3 b4) := by
      rw [← toF_add]; congr 1; unfold S5; omega
    rw [e2] at h
    exact h, hw⟩

theorem Sub_any {x y : F} {a0 a1 a2 a3 a4 b0 b1 b2 b3 b4 : Int} (ha : El x a0 a1 a2 a3 a4) (hb : El y b0 b1 b2 b3 b4) (w : World) :
    Calls Try.prog 14 #[.agg #[.int .u64 a0, .int .u64 a1, .int .u64 a2, .int .u64 a3, .int .u64 a4], .agg #[.int .u64 b0, .int .u64 b1, .int .u64 b2, .int .u64 b3, .int .u64 b4]] w fun e w' =>
      ∃ r0 r1 r2 r3 r4 : Int, e = .returned (.agg #[.int .u64 r0, .int .u64 r1, .int .u64 r2, .int .u64 r3, .int .u64 r4]) ∧ El (x - y) r0 r1 r2 r3 r4 ∧ Below w.heap.size w w' :=
  (Sub_raw a0 a1 a2 a3 a4 b0 b1 b2 b3 b4 w).mono fun _ _ ⟨he, hw⟩ => ⟨_, _, _, _, _, he, by
    have e : ∀ u v c : Int, 0 ≤ u → u < 4503599627370496 → 0 ≤ v → v < 4503599627370496 → 9007199254740000 ≤ c → c < 9007199254740990 → IntKind.u64.wrap (u + IntKind.u64.wrap (c - v)) = u + (c - v) := by intro u v c _ _ _ _ _ _; rw [wrap64u, wrap64u]; omega
    obtain ⟨la0, ha0, la1, ha1, la2, ha2, la3, ha3, la4, ha4, rfl⟩ := ha
    obtain ⟨lb0, hb0, lb1, hb1, lb2, hb2, lb3, hb3, lb4, hb4, rfl⟩ := hb
    rw [e a0 b0 _ la0 ha0 lb0 hb0 (by omega) (by omega), e a1 b1 _ la1 ha1 lb1 hb1 (by omega) (by omega), e a2 b2 _ la2 ha2 lb2 hb2 (by omega) (by omega), e a3 b3 _ la3 ha3 lb3 hb3 (by omega) (by omega), e a4 b4 _ la4 ha4 lb4 hb4 (by omega) (by omega)]
    have h := carried_El (a0 + (9007199254740916 - b0)) (a1 + (9007199254740988 - b1)) (a2 + (9007199254740988 - b2)) (a3 + (9007199254740988 - b3)) (a4 + (9007199254740988 - b4)) (by omega) (by omega) (by omega) (by omega) (by omega) (by omega) (by omega) (by omega) (by omega) (by omega)
    have e2 : toF (S5 (a0 + (9007199254740916 - b0)) (a1 + (9007199254740988 - b1)) (a2 + (9007199254740988 - b2)) (a3 + (9007199254740988 - b3)) (a4 + (9007199254740988 - b4))) = toF (S5 a0 a1 a2 a3 a4) - toF (S5 b0 b1 b2 b3 b4) := by
      rw [← toF_sub]
      refine toF_congr 4 ?_
      unfold S5; omega
    rw [e2] at h
    exact h, hw⟩

end Go.Proofs.Ytikjcikedbcfmaa
