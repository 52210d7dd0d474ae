/-
  WALKS: package field: Parse.
-/
import Derived.Test.YtikjcikedbcfmaaFldM
import Derived.Test.YtikjcikedbcfmaaWord
namespace Go.Proofs.Ytikjcikedbcfmaa
open Go.RowKit
set_option maxRecDepth 100000
set_option linter.unusedVariables false

theorem lowN_split (xs : List Nat) (i k : Nat) : lowN xs 0 (i + k) = lowN xs 0 i + 2 ^ (8 * i) * lowN xs i k := by
  induction k with
  | zero => simp [lowN]
  | succ k ih =>
    rw [← Nat.add_assoc]
    simp only [lowN]
    rw [ih, Nat.zero_add, show 8 * (i + k) = 8 * i + 8 * k by omega, Nat.pow_add, Nat.mul_add, Nat.add_assoc]
    congr 1
    rw [Nat.mul_comm (xs.getD (i + k) 0), Nat.mul_assoc, Nat.mul_comm (2 ^ (8 * k))]

theorem lowN_over (xs : List Nat) (n k : Nat) (h : xs.length ≤ n) : lowN xs 0 (n + k) = lowN xs 0 n := by
  induction k with
  | zero => rfl
  | succ k ih =>
    rw [← Nat.add_assoc]
    simp only [lowN]
    rw [ih, List.getD_eq_getElem?_getD, List.getElem?_eq_none (by omega)]
    simp

theorem parse_El {xs : List Nat} (h8 : ∀ x ∈ xs, x < 256) (hl : xs.length = 32) {l0 l1 l2 l3 l4 : Nat} (e0 : l0 = lowN xs 0 8) (e1 : l1 = lowN xs 6 8) (e2 : l2 = lowN xs 12 8) (e3 : l3 = lowN xs 19 8) (e4 : l4 = lowN xs 25 8) :
    El (toF ((lowN xs 0 32 % 57896044618658097711785492504343953926634992332820282019728792003956564819968 : Nat) : Int)) (bits .and .u64 (l0 : Int) 2251799813685247) (bits .and .u64 ((l1 : Int) / 8) 2251799813685247) (bits .and .u64 ((l2 : Int) / 64) 2251799813685247) (bits .and .u64 ((l3 : Int) / 2) 2251799813685247) (bits .and .u64 ((l4 : Int) / 16) 2251799813685247) := by
  have b : ∀ i, lowN xs i 8 < 18446744073709551616 := fun i => lowN_lt h8 i 8
  have b0 := b 0
  have b1 := b 6
  have b2 := b 12
  have b3 := b 19
  have b4 := b 25
  rw [← e0] at b0
  rw [← e1] at b1
  rw [← e2] at b2
  rw [← e3] at b3
  rw [← e4] at b4
  rw [and51 _ (by omega) (by omega), and51 _ (by omega) (by omega), and51 _ (by omega) (by omega), and51 _ (by omega) (by omega), and51 _ (by omega) (by omega)]
  have s0 := lowN_split xs 8 24
  have s1 := lowN_split xs 14 18
  have t1 := lowN_split xs 6 8
  have s2 := lowN_split xs 20 12
  have t2 := lowN_split xs 12 8
  have s3 := lowN_split xs 27 5
  have t3 := lowN_split xs 19 8
  have s4 := lowN_over xs 32 1 (by omega)
  have t4 := lowN_split xs 25 8
  have u1 := lowN_lt h8 0 6
  have u2 := lowN_lt h8 0 12
  have u3 := lowN_lt h8 0 19
  have u4 := lowN_lt h8 0 25
  simp only [Nat.reduceAdd, Nat.reduceMul, Nat.reducePow] at s0 s1 t1 s2 t2 s3 t3 s4 t4 u1 u2 u3 u4
  rw [← e0] at s0
  rw [← e1] at t1
  rw [← e2] at t2
  rw [← e3] at t3
  rw [← e4] at t4
  generalize lowN xs 0 32 = N at *
  generalize lowN xs 8 24 = R0 at *
  generalize lowN xs 14 18 = R1 at *
  generalize lowN xs 20 12 = R2 at *
  generalize lowN xs 27 5 = R3 at *
  clear e0 e1 e2 e3 e4 b h8
  have k0 : (l0 : Int) % 2251799813685248 = ((N % 2251799813685248 : Nat) : Int) := by clear s1 s2 s3 s4 t1 t2 t3 t4; omega
  have k1 : (l1 : Int) / 8 % 2251799813685248 = ((N / 2251799813685248 % 2251799813685248 : Nat) : Int) := by clear s0 s2 s3 s4 t2 t3 t4; omega
  have k2 : (l2 : Int) / 64 % 2251799813685248 = ((N / 5070602400912917605986812821504 % 2251799813685248 : Nat) : Int) := by clear s0 s1 s3 s4 t1 t3 t4; omega
  have k3 : (l3 : Int) / 2 % 2251799813685248 = ((N / 11417981541647679048466287755595961091061972992 % 2251799813685248 : Nat) : Int) := by clear s0 s1 s2 s4 t1 t2 t4; omega
  have k4 : (l4 : Int) / 16 % 2251799813685248 = ((N / 25711008708143844408671393477458601640355247900524685364822016 % 2251799813685248 : Nat) : Int) := by clear s0 s1 s2 s3 t1 t2 t3; omega
  rw [k0, k1, k2, k3, k4]
  clear k0 k1 k2 k3 k4 s0 s1 s2 s3 s4 t1 t2 t3 t4 u1 u2 u3 u4
  refine ⟨by omega, by omega, by omega, by omega, by omega, by omega, by omega, by omega, by omega, by omega, ?_⟩
  congr 1
  unfold S5
  omega

set_option maxHeartbeats 2000000 in
theorem Parse_any {A : Option Addr} {c : Nat} {xs : List Nat} (w : World) (ha : Bs w A c xs) (hl : xs.length = 32) :
    Calls Try.prog 6 #[.slice A xs.length c] w fun e w' =>
      ∃ r0 r1 r2 r3 r4 : Int, e = .returned (.tuple #[.agg #[.int .u64 r0, .int .u64 r1, .int .u64 r2, .int .u64 r3, .int .u64 r4], .int .i64 0]) ∧ El (toF ((lowN xs 0 32 % 57896044618658097711785492504343953926634992332820282019728792003956564819968 : Nat) : Int)) r0 r1 r2 r3 r4 ∧ Below w.heap.size w w' := by
  have h8 := ha.b8
  have H := fun (W : World) (hb : Below w.heap.size w W) (i : Nat) (hi : i < 4611686018427387904) => Low64_any W (ha.below hb) i hi
  obtain ⟨l0, e0⟩ : ∃ l : Nat, l = lowN xs 0 8 := ⟨_, rfl⟩
  obtain ⟨l1, e1⟩ : ∃ l : Nat, l = lowN xs 6 8 := ⟨_, rfl⟩
  obtain ⟨l2, e2⟩ : ∃ l : Nat, l = lowN xs 12 8 := ⟨_, rfl⟩
  obtain ⟨l3, e3⟩ : ∃ l : Nat, l = lowN xs 19 8 := ⟨_, rfl⟩
  obtain ⟨l4, e4⟩ : ∃ l : Nat, l = lowN xs 25 8 := ⟨_, rfl⟩
  have H0 := fun W hb => H W hb 0 (by omega)
  have H1 := fun W hb => H W hb 6 (by omega)
  have H2 := fun W hb => H W hb 12 (by omega)
  have H3 := fun W hb => H W hb 19 (by omega)
  have H4 := fun W hb => H W hb 25 (by omega)
  rw [hl] at H0 H1 H2 H3 H4
  rw [← e0] at H0
  rw [← e1] at H1
  rw [← e2] at H2
  rw [← e3] at H3
  rw [← e4] at H4
  rw [hl]
  clear H ha
  have E : Hid (l0 = lowN xs 0 8 ∧ l1 = lowN xs 6 8 ∧ l2 = lowN xs 12 8 ∧ l3 = lowN xs 19 8 ∧ l4 = lowN xs 25 8 ∧ xs.length = 32) := ⟨e0, e1, e2, e3, e4, hl⟩
  clear e0 e1 e2 e3 e4 hl
  go_enter Try.func6, Try.ntmps6
  go_wp2_with fail
  refine wp_loop_rounds 6 ?_
  refine rounds_step ?_
  go_wp2_with fail
  refine Calls.mono (H0 _ (by repeat' first | (with_reducible exact Below.refl _ _) | (with_reducible refine Below.setCell ?_ (by first | (simp; done) | (simp; omega) | omega) _) | (with_reducible refine Below.alloc ?_ (by first | (simp; done) | (simp; omega) | omega) _) | (with_reducible refine Below.drew ?_) | (with_reducible refine Below.trans ?_ (Below.mono (by assumption) (by first | (simp; done) | (simp; omega) | omega))))) ?_
  rintro e w' ⟨rfl, rfl⟩
  dsimp only
  go_wp2_with fail
  refine rounds_step ?_
  go_wp2_with fail
  refine Calls.mono (H1 _ (by repeat' first | (with_reducible exact Below.refl _ _) | (with_reducible refine Below.setCell ?_ (by first | (simp; done) | (simp; omega) | omega) _) | (with_reducible refine Below.alloc ?_ (by first | (simp; done) | (simp; omega) | omega) _) | (with_reducible refine Below.drew ?_) | (with_reducible refine Below.trans ?_ (Below.mono (by assumption) (by first | (simp; done) | (simp; omega) | omega))))) ?_
  rintro e w' ⟨rfl, rfl⟩
  dsimp only
  go_wp2_with fail
  refine rounds_step ?_
  go_wp2_with fail
  refine Calls.mono (H2 _ (by repeat' first | (with_reducible exact Below.refl _ _) | (with_reducible refine Below.setCell ?_ (by first | (simp; done) | (simp; omega) | omega) _) | (with_reducible refine Below.alloc ?_ (by first | (simp; done) | (simp; omega) | omega) _) | (with_reducible refine Below.drew ?_) | (with_reducible refine Below.trans ?_ (Below.mono (by assumption) (by first | (simp; done) | (simp; omega) | omega))))) ?_
  rintro e w' ⟨rfl, rfl⟩
  dsimp only
  go_wp2_with fail
  refine rounds_step ?_
  go_wp2_with fail
  refine Calls.mono (H3 _ (by repeat' first | (with_reducible exact Below.refl _ _) | (with_reducible refine Below.setCell ?_ (by first | (simp; done) | (simp; omega) | omega) _) | (with_reducible refine Below.alloc ?_ (by first | (simp; done) | (simp; omega) | omega) _) | (with_reducible refine Below.drew ?_) | (with_reducible refine Below.trans ?_ (Below.mono (by assumption) (by first | (simp; done) | (simp; omega) | omega))))) ?_
  rintro e w' ⟨rfl, rfl⟩
  dsimp only
  go_wp2_with fail
  refine rounds_step ?_
  go_wp2_with fail
  refine Calls.mono (H4 _ (by repeat' first | (with_reducible exact Below.refl _ _) | (with_reducible refine Below.setCell ?_ (by first | (simp; done) | (simp; omega) | omega) _) | (with_reducible refine Below.alloc ?_ (by first | (simp; done) | (simp; omega) | omega) _) | (with_reducible refine Below.drew ?_) | (with_reducible refine Below.trans ?_ (Below.mono (by assumption) (by first | (simp; done) | (simp; omega) | omega))))) ?_
  rintro e w' ⟨rfl, rfl⟩
  dsimp only
  go_wp2_with fail
  refine rounds_step ?_
  go_wp2_with fail
  refine bodyPost_ret (v := .tuple #[.agg #[.int .u64 (bits .and .u64 (l0 : Int) 2251799813685247), .int .u64 (bits .and .u64 ((l1 : Int) / 8) 2251799813685247), .int .u64 (bits .and .u64 ((l2 : Int) / 64) 2251799813685247), .int .u64 (bits .and .u64 ((l3 : Int) / 2) 2251799813685247), .int .u64 (bits .and .u64 ((l4 : Int) / 16) 2251799813685247)], .int .i64 0]) ?_ rfl ⟨_, _, _, _, _, rfl, ?_, ?_⟩
  · simp [results, Try.results6, go_sem]
  · clear H0 H1 H2 H3 H4
    obtain ⟨e0, e1, e2, e3, e4, hl⟩ := E.out
    exact parse_El h8 hl e0 e1 e2 e3 e4
  · repeat' first | (with_reducible exact Below.refl _ _) | (with_reducible refine Below.setCell ?_ (by first | (simp; done) | (simp; omega) | omega) _) | (with_reducible refine Below.alloc ?_ (by first | (simp; done) | (simp; omega) | omega) _) | (with_reducible refine Below.drew ?_) | (with_reducible refine Below.trans ?_ (Below.mono (by assumption) (by first | (simp; done) | (simp; omega) | omega)))

theorem Parse_no {A : Option Addr} {c : Nat} {xs : List Nat} (w : World) (ha : Bs w A c xs) (hl : ¬ xs.length = 32) :
    Calls Try.prog 6 #[.slice A xs.length c] w fun e w' =>
      e = .returned (.tuple #[.agg #[.int .u64 0, .int .u64 0, .int .u64 0, .int .u64 0, .int .u64 0], .int .i64 1]) ∧ Below w.heap.size w w' := by
  generalize xs.length = n at *
  clear ha
  have h1 : ((n : Int) != 32) = true := by simp; omega
  clear hl
  go_enter Try.func6, Try.ntmps6
  go_wp2_with fail
  refine bodyPost_ret (v := .tuple #[.agg #[.int .u64 0, .int .u64 0, .int .u64 0, .int .u64 0, .int .u64 0], .int .i64 1]) ?_ rfl ⟨rfl, ?_⟩
  · simp [results, Try.results6, go_sem]
  · repeat' first | (with_reducible exact Below.refl _ _) | (with_reducible refine Below.setCell ?_ (by first | (simp; done) | (simp; omega) | omega) _) | (with_reducible refine Below.alloc ?_ (by first | (simp; done) | (simp; omega) | omega) _) | (with_reducible refine Below.drew ?_) | (with_reducible refine Below.trans ?_ (Below.mono (by assumption) (by first | (simp; done) | (simp; omega) | omega)))

end Go.Proofs.Ytikjcikedbcfmaa
