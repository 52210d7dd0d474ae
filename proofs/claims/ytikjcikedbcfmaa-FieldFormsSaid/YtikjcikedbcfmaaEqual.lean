/-
  WALKS: slices.Equal at bytes.
-/
import Derived.Test.YtikjcikedbcfmaaBytes1
namespace Go.Proofs.Ytikjcikedbcfmaa
open Go.RowKit
set_option maxRecDepth 100000

set_option maxHeartbeats 1000000 in
theorem Equal_any {A B : Option Addr} {c d : Nat} {xs ys : List Nat} (w : World) (ha : Bs w A c xs) (hb : Bs w B d ys) :
    Calls Try.prog 37 #[.slice A xs.length c, .slice B ys.length d] w fun e w' => e = .returned (.bool (decide (xs = ys))) ∧ Below w.heap.size w w' := by
  have hm := ha.max
  have hle := ha.le
  unfold maxLen at hm
  by_cases hl : xs.length = ys.length
  · have hl2 : Hid (xs.length = ys.length) := hl
    rw [← hl]
    clear hl
    generalize hn : xs.length = n at *
    have HN : Hid (xs.length = n) := hn
    clear hn
    have HA : Hid (Bs w A c xs) := ha
    have HB : Hid (Bs w B d ys) := hb
    clear ha hb
    go_enter Try.func37, Try.ntmps37
    go_wp2_with fail
    go_loopw [13] (fun k wr => ∃ K : Nat, k = .int .i64 K ∧ K ≤ n ∧ Hid (∀ i, i < K → xs.getD i 0 = ys.getD i 0) ∧ Below w.heap.size w wr) (fun k _ => n - (intOf k).toNat)
    case atStart => exact ⟨0, rfl, by omega, fun i hi => by omega, Below.refl _ _⟩
    case round =>
      obtain ⟨K, rfl, hK, hE, HW⟩ := hrel
      by_cases hlt : K < n
      · obtain ⟨b, off, rfl, h1⟩ := (HA.out.below HW).at (i := K) (by rw [HN.out]; exact hlt)
        obtain ⟨b2, off2, rfl, h2⟩ := (HB.out.below HW).at (i := K) (by rw [← hl2.out]; exact hlt)
        have hltI : (K : Int) < (n : Int) := by omega
        obtain ⟨p, q, HP, h3, h4⟩ : ∃ p q : Nat, Hid (xs.getD K 0 = p ∧ ys.getD K 0 = q) ∧ wr.cell? ⟨b, off + K, none⟩ = some (.int .u8 (p : Int)) ∧ wr.cell? ⟨b2, off2 + K, none⟩ = some (.int .u8 (q : Int)) := ⟨_, _, ⟨rfl, rfl⟩, h1, h2⟩
        clear h1 h2
        by_cases he : p = q
        · subst he
          have hbne : ((p : Int) != (p : Int)) = false := by simp
          go_wp2_with fail
          (refine still_any (by kernel_rfl) ?_; rintro W rfl; (repeat still_step); refine wpStill_nil ?_)
          go_wp2_with fail
          go_roundw
          case rel => exact ⟨K + 1, by go_num, by omega, fun i hi => by
            by_cases h : i < K
            · exact hE.out i h
            · obtain rfl : i = K := by omega
              exact HP.out.1.trans HP.out.2.symm, HW.drew⟩
          case measure => simp [intOf]; omega
        · have hbne : ((p : Int) != (q : Int)) = true := by simp; omega
          have he' : Hid (¬ p = q) := he
          clear he
          go_wp2_with fail
          (refine still_any (by kernel_rfl) ?_; rintro W rfl; (repeat still_step); refine wpStill_nil ?_)
          go_wp2_with fail
          go_ret
          refine ⟨?_, HW.drew⟩
          have hne : ¬ xs = ys := fun h => he'.out (by rw [← HP.out.1, ← HP.out.2, h])
          simp [hne]
      · obtain rfl : K = n := by omega
        go_wp2_with fail
        go_ret
        refine ⟨?_, HW⟩
        have heq : xs = ys := eq_of_getD (HN.out.trans hl2.out) (fun i hi => hE.out i (by rw [← HN.out]; exact hi))
        simp [heq]
  · have hne : ¬ xs = ys := fun h => hl (by rw [h])
    have hlI : ((xs.length : Int) != (ys.length : Int)) = true := by simp; omega
    have HH : Hid (¬ xs = ys) := hne
    have hbm := hb.max
    have hble := hb.le
    unfold maxLen at hbm
    clear hne hl
    go_enter Try.func37, Try.ntmps37
    go_wp2_with fail
    go_ret
    exact ⟨by simp [HH.out], Below.refl _ _⟩

end Go.Proofs.Ytikjcikedbcfmaa
