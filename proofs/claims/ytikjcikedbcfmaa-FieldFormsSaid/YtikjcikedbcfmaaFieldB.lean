/-
  WALKS: math/bits.Mul64, Add64; package field: a sum of 128 bits.
-/
import Derived.Test.YtikjcikedbcfmaaBase
import Derived.Test.YtikjcikedbcfmaaMath
import Derived.Test.YtikjcikedbcfmaaBits64
namespace Go.Proofs.Ytikjcikedbcfmaa
open Go.RowKit
set_option maxRecDepth 100000

set_option maxHeartbeats 1000000 in
theorem sumadd_any (T h l a b : Int) (w : World) (hT : W2 T h l) (ha0 : 0 ≤ a) (ha : a < 18446744073709551616) (hb0 : 0 ≤ b) (hb : b < 18446744073709551616)
    (hsum : T + a * b < 340282366920938463463374607431768211456) :
    Calls Try.prog 36 #[.agg #[.int .u64 h, .int .u64 l], .int .u64 a, .int .u64 b] w fun e w' => ∃ h' l', e = .returned (.agg #[.int .u64 h', .int .u64 l']) ∧ W2 (T + a * b) h' l' ∧ Below w.heap.size w w' := by
  have HM := fun w => Mul64_any a b w ha0 ha hb0 hb
  obtain ⟨h0, h1, l0, l1, hn⟩ := hT
  have HN : Hid (18446744073709551616 * h + l = T ∧ h < 18446744073709551616 ∧ l < 18446744073709551616 ∧ T + a * b < 340282366920938463463374607431768211456) := ⟨hn, h1, l1, hsum⟩
  clear hn h1 l1 ha hb hsum
  go_enter Try.func36, Try.ntmps36
  go_wp2_with fail
  refine (HM _).mono ?_
  rintro e w' ⟨h', l', rfl, hW, rfl⟩
  obtain ⟨h0', h1', l0', l1', hn'⟩ := hW
  have e1 := Add64_run l l' 0 l0 l0' (by omega) (by omega)
  have c0 : 0 ≤ (l + l') / 18446744073709551616 := by omega
  have c1 : (l + l') / 18446744073709551616 ≤ 1 := by have := HN.out; omega
  have e2 := Add64_run h h' ((l + l') / 18446744073709551616) h0 h0' c0 c1
  simp only [Int.add_zero] at e1
  have HN' : Hid (18446744073709551616 * h' + l' = a * b ∧ h' < 18446744073709551616 ∧ l' < 18446744073709551616) := ⟨hn', h1', l1'⟩
  clear hn' h1' l1' HM
  go_wp2
  refine bodyPost_ret (v := .agg #[.int .u64 ((h + h' + (l + l') / 18446744073709551616) % 18446744073709551616), .int .u64 ((l + l') % 18446744073709551616)]) ?_ rfl ⟨_, _, rfl, ?_, ?_⟩
  · simp [results, Try.results36, go_sem]
  · have q1 := HN.out
    have q2 := HN'.out
    generalize a * b = ab at *
    exact ⟨by omega, by omega, by omega, by omega, by omega⟩
  · repeat' first | (with_reducible exact Below.refl _ _) | (with_reducible refine Below.setCell ?_ (by first | (simp; done) | (simp; omega) | omega) _) | (with_reducible refine Below.alloc ?_ (by first | (simp; done) | (simp; omega) | omega) _) | (with_reducible refine Below.drew ?_) | (with_reducible refine Below.trans ?_ (Below.mono (by assumption) (by first | (simp; done) | (simp; omega) | omega)))
end Go.Proofs.Ytikjcikedbcfmaa
