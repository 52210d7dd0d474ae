/-
 WALKS: package word: at, low, Low64.
-/
import Derived.Test.YtkhbihnnkflfkaaGreatBytes1
namespace Go.Proofs.YtkhbihnnkflfkaaGreat
open Go.RowKit
set_option maxRecDepth 100000
set_option linter.unusedVariables false

variable {A : Option Addr} {c : Nat} {xs : List Nat}
set_option maxHeartbeats 1000000 in
theorem at_any (w : World) (ha : Bs w A c xs) (i k : Nat) (hi : i < 4611686018427387904) (hk : k < 4611686018427387904) :
  Calls Tryz.prog 151 #[.slice A xs.length c, .int .i64 i, .int .i64 k] w fun e w' => e = .returned (.int .u64 ((xs.getD (i + k) 0 : Nat) : Int)) ∧ w = w' := by
 have hm := ha.max
 have hle := ha.le
 have h8 := ha.b8
 unfold maxLen at hm
 by_cases h : i + k < xs.length
 ·obtain ⟨b, off, rfl, h1⟩ := ha.at (i := i + k) h
  obtain ⟨p, HP, hp, h3⟩ : ∃ p : Nat, Hid (xs.getD (i + k) 0 = p) ∧ p < 256 ∧ w.cell? ⟨b, off + (i + k), none⟩ = some (.int .u8 (p : Int)) := ⟨_, rfl, getD_lt h8 _, h1⟩
  rw [HP.out]
  generalize xs.length = n at *
  clear h1 ha HP h8
  have c1 : ¬ ((i : Int) < 0) := by omega
  have c2 : ¬ ((i : Int) > (n : Int)) := by omega
  have c3 : ¬ ((i : Int) + (k : Int) ≥ (n : Int)) := by omega
  go_enter Tryz.func151, Tryz.ntmps151
  go_wp2_with fail
  go_ret
  exact ⟨rfl, rfl⟩
 ·have hz : xs.getD (i + k) 0 = 0 := by rw [List.getD_eq_getElem?_getD, List.getElem?_eq_none (by omega)]; rfl
  rw [hz]
  generalize xs.length = n at *
  clear ha hz h8
  have c1 : ¬ ((i : Int) < 0) := by omega
  by_cases h2 : n < i
  ·have c2 : ((i : Int) > (n : Int)) := by omega
   go_enter Tryz.func151, Tryz.ntmps151
   go_wp2_with fail
   go_ret
   exact ⟨rfl, rfl⟩
  ·have c2 : ¬ ((i : Int) > (n : Int)) := by omega
   have c3 : ((i : Int) + (k : Int) ≥ (n : Int)) := by omega
   go_enter Tryz.func151, Tryz.ntmps151
   go_wp2_with fail
   go_ret
   exact ⟨rfl, rfl⟩

def lowN (xs : List Nat) (i : Nat) : Nat → Nat
 | 0 => 0
 | k + 1 => lowN xs i k + xs.getD (i + k) 0 * 2 ^ (8 * k)

theorem lowN_lt (h : ∀ x ∈ xs, x < 256) (i k : Nat) : lowN xs i k < 2 ^ (8 * k) := by
 induction k with
 | zero => simp [lowN]
 | succ k ih =>
  have hx := getD_lt h (i + k)
  have : xs.getD (i + k) 0 * 2 ^ (8 * k) ≤ 255 * 2 ^ (8 * k) := Nat.mul_le_mul_right _ (by omega)
  have e : 2 ^ (8 * (k + 1)) = 256 * 2 ^ (8 * k) := by rw [show 8 * (k + 1) = 8 + 8 * k by omega, Nat.pow_add]
  simp only [lowN]
  omega

theorem or_low (q p K : Nat) (hq : q < 2 ^ (8 * K)) (hp : p < 256) (hK : K < 8) : bits .or .u64 (q : Int) (IntKind.u64.wrap ((p : Int) * 2 ^ (8 * K))) = ((q + p * 2 ^ (8 * K) : Nat) : Int) := by
 have h1 : 2 ^ (8 * K) ≤ 2 ^ 56 := Nat.pow_le_pow_right (by omega) (by omega)
 have h2 : p * 2 ^ (8 * K) ≤ 255 * 2 ^ 56 := Nat.mul_le_mul (by omega) h1
 have e1 : (p : Int) * 2 ^ (8 * K) = ((p * 2 ^ (8 * K) : Nat) : Int) := by simp
 have e2 : IntKind.u64.wrap ((p * 2 ^ (8 * K) : Nat) : Int) = ((p * 2 ^ (8 * K) : Nat) : Int) := by rw [IntKind.wrap_u64]; omega
 rw [e1, e2, u64_or_nat _ _ (by omega) (by omega), Nat.or_comm, nat_join (8 * K) _ _ (Nat.mul_mod_left _ _) hq, Nat.add_comm]

set_option maxHeartbeats 1000000 in
theorem low_any (w : World) (ha : Bs w A c xs) (i W : Nat) (hi : i < 4611686018427387904) (hW : W ≤ 8) :
  Calls Tryz.prog 141 #[.slice A xs.length c, .int .i64 i, .int .i64 W] w fun e w' => e = .returned (.int .u64 ((lowN xs i W : Nat) : Int)) ∧ w = w' := by
 have h8 := ha.b8
 have HA : Hid (Bs w A c xs) := ha
 clear ha
 generalize hn : xs.length = n
 have HN : Hid (xs.length = n) := hn
 clear hn
 go_enter Tryz.func141, Tryz.ntmps141
 go_wp2_with fail
 go_loop [7, 10] (fun x k => ∃ K : Nat, k = .int .i64 K ∧ K ≤ W ∧ x = .int .u64 ((lowN xs i K : Nat) : Int)) (fun _ k => W - (intOf k).toNat)
 case atStart => exact ⟨0, rfl, by omega, rfl⟩
 case round =>
  obtain ⟨K, rfl, hK, rfl⟩ := hrel
  by_cases hlt : K < W
  ·have H := at_any w HA.out i K hi (by omega)
   rw [HN.out] at H
   obtain ⟨p, HP, hp⟩ : ∃ p : Nat, Hid (xs.getD (i + K) 0 = p) ∧ p < 256 := ⟨_, rfl, getD_lt h8 _⟩
   rw [HP.out] at H
   obtain ⟨q, HQ⟩ : ∃ q : Nat, Hid (lowN xs i K = q) := ⟨_, rfl⟩
   rw [HQ.out]
   go_wp2_with fail
   refine Calls.mono H ?_
   rintro e w' ⟨rfl, rfl⟩
   dsimp only
   go_wp2_with fail
   rw [or_low q p K (by rw [← HQ.out]; exact lowN_lt h8 i K) hp (by omega)]
   go_round
   case rel => exact ⟨K + 1, by go_num, by omega, by simp only [lowN]; rw [HQ.out, HP.out]⟩
   case measure => simp [intOf]; omega
  ·obtain rfl : K = W := by omega
   go_wp2_with fail
   go_ret
   exact ⟨rfl, rfl⟩

theorem Low64_any (w : World) (ha : Bs w A c xs) (i : Nat) (hi : i < 4611686018427387904) :
  Calls Tryz.prog 119 #[.slice A xs.length c, .int .i64 i] w fun e w' => e = .returned (.int .u64 ((lowN xs i 8 : Nat) : Int)) ∧ w = w' := by
 have H := low_any w ha i 8 hi (by omega)
 generalize lowN xs i 8 = q at *
 generalize xs.length = n at *
 clear ha
 go_enter Tryz.func119, Tryz.ntmps119
 go_wp2_with fail
 refine Calls.mono H ?_
 rintro e w' ⟨rfl, rfl⟩
 dsimp only
 go_wp2_with fail
 go_ret
 exact ⟨rfl, rfl⟩

end Go.Proofs.YtkhbihnnkflfkaaGreat
