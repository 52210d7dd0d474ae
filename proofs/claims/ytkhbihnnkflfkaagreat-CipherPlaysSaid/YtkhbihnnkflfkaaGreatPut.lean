/-
 WALKS: package word: put, PutLow64, PutLow32, Low32.
-/
import Derived.Test.YtkhbihnnkflfkaaGreatWord
namespace Go.Proofs.YtkhbihnnkflfkaaGreat
open Go.RowKit
set_option maxRecDepth 100000
set_option linter.unusedVariables false
set_option linter.unusedSimpArgs false

def putL (x : Nat) : Nat → List Nat
 | 0 => []
 | k + 1 => putL x k ++ [x / 2 ^ (8 * k) % 256]
theorem putL_length (x k : Nat) : (putL x k).length = k := by
 induction k with
 | zero => rfl
 | succ k ih => simp [putL, ih]
theorem putL_lt (x k : Nat) : ∀ y ∈ putL x k, y < 256 := by
 induction k with
 | zero => intro y hy; cases hy
 | succ k ih =>
  intro y hy
  rcases List.mem_append.1 hy with h | h
  ·exact ih y h
  ·rw [List.mem_singleton.1 h]; exact Nat.mod_lt _ (by omega)

set_option maxHeartbeats 4000000 in
theorem put_any (x W : Nat) (w : World) (hx : x < 18446744073709551616) (hW : W ≤ 8) :
  Calls Tryz.prog 103 #[.int .u64 (x : Int), .int .i64 (W : Int)] w fun e w' => ∃ A c, e = .returned (.slice A W c) ∧ Own w' w.heap.size A c (putL x W) ∧ Below w.heap.size w w' := by
 go_enter Tryz.func103, Tryz.ntmps103
 go_wp2_with fail
 go_loopw [5, 8] (fun b i wr => ∃ (K : Nat) (A : Option Addr) (c : Nat), i = .int .i64 (K : Int) ∧ K ≤ W ∧ b = .slice A K c ∧ Own wr w.heap.size A c (putL x K) ∧ Below w.heap.size w wr) (fun _ i _ => W - (intOf i).toNat)
 case atStart => exact ⟨0, none, 0, rfl, by omega, rfl, Own.nil _ _, Below.refl _ _⟩
 case round =>
  obtain ⟨K, A, c, rfl, hK, rfl, hO, HW⟩ := hrel
  have HO := hidd hO
  clear hO
  by_cases hlt : K < W
  ·obtain ⟨v, hv, hv8, HV⟩ : ∃ v : Nat, (x : Int) / 2 ^ (8 * K) % 256 = (v : Int) ∧ v < 256 ∧ Hid (x / 2 ^ (8 * K) % 256 = v) := ⟨x / 2 ^ (8 * K) % 256, by simp, Nat.mod_lt _ (by omega), rfl⟩
   go_wp2_with (at_builtin; refine wpList_app (xs := putL x K) (ys := [v]) (base := w.heap.size) (.tmp 11) (.tmp 17) rfl rfl rfl rfl (HO.out.below ((Below.refl _ _).alloc (Nat.le_refl _) _)) (Bs.one hv8) (putL_length _ _) rfl (by omega) (by have := HW.size; simp; omega) ?_; intro A1 c1 w1 ho hb1 hg hat; clear hg hat)
   clear hv
   go_roundw
   case rel => exact ⟨K + 1, A1, c1, by go_num, by omega, rfl, by (rw [putL, HV.out]; exact ho), (HW.alloc HW.size _).trans hb1⟩
   case measure => simp [intOf]; omega
  ·obtain rfl : K = W := by omega
   go_wp2_with fail
   go_ret
   exact ⟨A, c, rfl, HO.out, HW⟩
theorem PutLow64_any (x : Nat) (w : World) (hx : x < 18446744073709551616) :
  Calls Tryz.prog 62 #[.int .u64 (x : Int)] w fun e w' => ∃ A c, e = .returned (.slice A 8 c) ∧ Own w' w.heap.size A c (putL x 8) ∧ Below w.heap.size w w' := by
 have H := put_any x 8 w hx (by omega)
 go_enter Tryz.func62, Tryz.ntmps62
 go_wp2_with fail
 refine Calls.mono H ?_
 rintro e w1 ⟨A, c, rfl, ho, hb⟩
 clear H
 have HO := hidd ho
 clear ho
 dsimp only
 go_wp2_with fail
 go_ret
 exact ⟨A, c, rfl, HO.out, hb⟩

theorem PutLow32_any (x : Nat) (w : World) (hx : x < 4294967296) :
  Calls Tryz.prog 129 #[.int .u32 (x : Int)] w fun e w' => ∃ A c, e = .returned (.slice A 4 c) ∧ Own w' w.heap.size A c (putL x 4) ∧ Below w.heap.size w w' := by
 have H := put_any x 4 w (by omega) (by omega)
 have hxI : (x : Int) < 18446744073709551616 := by omega
 go_enter Tryz.func129, Tryz.ntmps129
 go_wp2_with fail
 refine Calls.mono H ?_
 rintro e w1 ⟨A, c, rfl, ho, hb⟩
 clear H
 have HO := hidd ho
 clear ho
 dsimp only
 go_wp2_with fail
 go_ret
 exact ⟨A, c, rfl, HO.out, hb⟩

theorem Low32_any {A : Option Addr} {c n : Nat} {xs : List Nat} (w : World) (ha : Bs w A c xs) (hn : xs.length = n) (i : Nat) (hi : i < 4611686018427387904) :
  Calls Tryz.prog 144 #[.slice A n c, .int .i64 (i : Int)] w fun e w' => e = .returned (.int .u32 ((lowN xs i 4 : Nat) : Int)) ∧ w = w' := by
 subst hn
 have H := low_any w ha i 4 hi (by omega)
 have hlt := lowN_lt ha.b8 i 4
 generalize lowN xs i 4 = q at *
 have hq : (q : Int) < 4294967296 := by omega
 generalize xs.length = n at *
 clear ha
 go_enter Tryz.func144, Tryz.ntmps144
 go_wp2_with fail
 refine Calls.mono H ?_
 rintro e w' ⟨rfl, rfl⟩
 clear H
 dsimp only
 go_wp2_with fail
 go_ret
 refine ⟨?_, rfl⟩
 first | rfl | (congr 2; first | omega | (rw [IntKind.wrap_u32]; omega))
end Go.Proofs.YtkhbihnnkflfkaaGreat
