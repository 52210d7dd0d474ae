/-
  WALKS: package field: Bytes.
-/
import Derived.Test.YtikjcikedbcfmaaFieldD
import Derived.Test.YtikjcikedbcfmaaBytesMath
namespace Go.Proofs.Ytikjcikedbcfmaa
open Go.RowKit
set_option maxRecDepth 100000

theorem byteA_zero (N : Nat) : byteA N 0 = byteA 0 0 := by unfold byteA byteOf; simp [Nat.mod_one]

theorem mk32 (w : World) : (Instr.makeSlice 22 (.int .i64 32) (.int .i64 32)).run Try.prog w = .ok (.slice (some ⟨w.heap.size, 0, none⟩) 32 32) (w.alloc (.cells (byteA 0 0) 5)) := by kernel_rfl

theorem limb_bit (N K c : Nat) (r : Int) (hK : K < 51) (h : N / 2 ^ c % 2251799813685248 = r.toNat) : r.toNat / 2 ^ K % 2 = N / 2 ^ (c + K) % 2 := by
  have h1 : (N / 2 ^ c % 2 ^ 51).testBit K = (N / 2 ^ c).testBit K := by rw [Nat.testBit_mod_two_pow]; simp [hK]
  rw [show (2 : Nat) ^ 51 = 2251799813685248 from rfl, h, Nat.testBit_div_two_pow, Nat.testBit_eq_decide_div_mod_eq, Nat.testBit_eq_decide_div_mod_eq, Nat.add_comm K c] at h1
  have h2 : (r.toNat / 2 ^ K % 2 = 1) ↔ (N / 2 ^ (c + K) % 2 = 1) := by simpa using h1
  have h3 : r.toNat / 2 ^ K % 2 < 2 := Nat.mod_lt _ (by omega)
  have h4 : N / 2 ^ (c + K) % 2 < 2 := Nat.mod_lt _ (by omega)
  omega

set_option maxHeartbeats 8000000 in
theorem Bytes_any {x : F} {a0 a1 a2 a3 a4 : Int} (ha : El x a0 a1 a2 a3 a4) (w : World) :
    Calls Try.prog 30 #[.agg #[.int .u64 a0, .int .u64 a1, .int .u64 a2, .int .u64 a3, .int .u64 a4]] w fun e w' =>
      ∃ g : Nat, e = .returned (.slice (some ⟨g, 0, none⟩) 32 32) ∧ w.heap.size ≤ g ∧ Blk w' g (byteA x.val 255) 5 ∧ Below w.heap.size w w' := by
  have hmk : ∀ w, (Instr.makeSlice 22 (.int .i64 32) (.int .i64 32)).run Try.prog w = .ok (.slice (some ⟨w.heap.size, 0, none⟩) 32 32) (w.alloc (.cells (byteA x.val 0) 5)) := fun w => by
    rw [byteA_zero]; exact mk32 w
  go_enter Try.func30, Try.ntmps30
  go_wp2_with fail
  refine Calls.mono (reduced_any ha _) ?_
  rintro e w1 ⟨r0, r1, r2, r3, r4, rfl, hC, hb⟩
  have B0 : Blk w1 (w.heap.size + 1) (byteA x.val 0) 5 := hb.blk (Blk.at (w := w.alloc _) _ _ (by simp)) (by simp)
  have HB0 : Below w.heap.size w w1 := by repeat' first | (with_reducible exact Below.refl _ _) | (with_reducible refine Below.setCell ?_ (by first | (simp; done) | (simp; omega) | omega) _) | (with_reducible refine Below.alloc ?_ (by first | (simp; done) | (simp; omega) | omega) _) | (with_reducible refine Below.drew ?_) | (with_reducible refine Below.trans ?_ (Below.mono (by assumption) (by first | (simp; done) | (simp; omega) | omega)))
  have HN : Hid (x.val = (S5 r0 r1 r2 r3 r4).toNat) := by have := hC.num; show _ = _; omega
  obtain ⟨l0, h0, l1, h1, l2, h2, l3, h3, l4, h4, _⟩ := hC
  have L0 : Hid (x.val / 2 ^ 0 % 2251799813685248 = r0.toNat) := by show _ = _; rw [HN.out]; unfold S5; omega
  have L1 : Hid (x.val / 2 ^ 51 % 2251799813685248 = r1.toNat) := by show x.val / 2251799813685248 % 2251799813685248 = _; rw [HN.out]; unfold S5; omega
  have L2 : Hid (x.val / 2 ^ 102 % 2251799813685248 = r2.toNat) := by show x.val / 5070602400912917605986812821504 % 2251799813685248 = _; rw [HN.out]; unfold S5; omega
  have L3 : Hid (x.val / 2 ^ 153 % 2251799813685248 = r3.toNat) := by show x.val / 11417981541647679048466287755595961091061972992 % 2251799813685248 = _; rw [HN.out]; unfold S5; omega
  have L4 : Hid (x.val / 2 ^ 204 % 2251799813685248 = r4.toNat) := by show x.val / 25711008708143844408671393477458601640355247900524685364822016 % 2251799813685248 = _; rw [HN.out]; unfold S5; omega
  have i0 := idx5_0 r0 r1 r2 r3 r4
  have i1 := idx5_1 r0 r1 r2 r3 r4
  have i2 := idx5_2 r0 r1 r2 r3 r4
  have i3 := idx5_3 r0 r1 r2 r3 r4
  have i4 := idx5_4 r0 r1 r2 r3 r4
  clear hb hmk
  dsimp only
  go_wp2_with fail
  refine wp_loop_rounds 6 ?_
  refine rounds_step ?_
  go_wp2_with fail
  go_loopw [15] (fun k wr => ∃ K : Nat, k = .int .i64 K ∧ K ≤ 51 ∧ Blk wr (w.heap.size + 1) (byteA x.val K) 5 ∧ Below w.heap.size w wr) (fun k _ => 51 - (intOf k).toNat)
  case atStart => exact ⟨0, rfl, by omega, B0, HB0⟩
  case round =>
    obtain ⟨K, rfl, hK, BK, HK⟩ := hrel
    by_cases hlt : K < 51
    · obtain ⟨j, ej⟩ : ∃ j : Nat, (K : Int) / 8 = (j : Int) := ⟨K / 8, by omega⟩
      obtain ⟨m, em⟩ : ∃ m : Nat, (K : Int).tmod 8 = (m : Int) := ⟨K % 8, by rw [Int.tmod_eq_emod_of_nonneg (by omega)]; omega⟩
      have ej2 : Hid (K / 8 = j) := by show _ = _; omega
      have em2 : Hid (K % 8 = m) := by show _ = _; rw [Int.tmod_eq_emod_of_nonneg (by omega)] at em; omega
      have hj : j < 32 := by have := ej2.out; omega
      have hjI : (j : Int) < 32 := by omega
      have hm : m < 8 := by have := em2.out; omega
      have hmI : (m : Int) < 8 := by omega
      have hc : wr.cell? ⟨w.heap.size + 1, j, none⟩ = some (.int .u8 ((byteOf x.val K j : Nat) : Int)) := (BK.cell j).trans (byteA_get _ _ _ hj)
      have hf := BK.free j
      have e8 : IntKind.i64.wrap (j : Int) = (j : Int) := IntWalk.i64_in _ (by omega)
      have e8' : IntKind.i64.wrap (m : Int) = (m : Int) := IntWalk.i64_in _ (by omega)
      go_wp2_with fail
      (refine tail_any 15 (by kernel_rfl) ?_; rintro W rfl; simp only [List.take_succ_cons, List.take_zero, List.drop_succ_cons, List.drop_zero]; (repeat still_step); refine wpStill_nil ?_)
      go_wp2_with fail
      rw [bit_step x.val K j m K r0 ej2.out em2.out l0 h0 (by rw [limb_bit x.val K 0 r0 hlt L0.out]; simp)]
      go_roundw
      case rel => exact ⟨K + 1, by go_num, by omega, by (have q := BK.set (K / 8) (.int .u8 ((byteOf x.val (K + 1) (K / 8) : Nat) : Int)); rw [byteA_set _ _ (by omega), ej2.out] at q; exact q), (HK.setCell (by simp) _).drew⟩
      case measure => simp [intOf]; omega
    · obtain rfl : K = 51 := by omega
      obtain ⟨wo, rfl⟩ : ∃ wo : World, wo = wr := ⟨_, rfl⟩
      have B1 : Blk wo (w.heap.size + 1) (byteA x.val 51) 5 := BK
      have HB1 := HK
      clear BK HK hlt hK
      go_wp2_with fail
      refine rounds_step ?_
      go_wp2_with fail
      go_loopw [15] (fun k wr => ∃ K : Nat, k = .int .i64 K ∧ K ≤ 51 ∧ Blk wr (w.heap.size + 1) (byteA x.val (51 + K)) 5 ∧ Below w.heap.size w wr) (fun k _ => 51 - (intOf k).toNat)
      case atStart => exact ⟨0, rfl, by omega, B1, HB1⟩
      case round =>
        obtain ⟨K, rfl, hK, BK, HK⟩ := hrel
        by_cases hlt : K < 51
        · obtain ⟨j, ej⟩ : ∃ j : Nat, (51 + (K : Int)) / 8 = (j : Int) := ⟨(51 + K) / 8, by omega⟩
          obtain ⟨m, em⟩ : ∃ m : Nat, (51 + (K : Int)).tmod 8 = (m : Int) := ⟨(51 + K) % 8, by rw [Int.tmod_eq_emod_of_nonneg (by omega)]; omega⟩
          have ej' : (51 + (K : Int)).tdiv 8 = (j : Int) := by rw [Int.tdiv_eq_ediv_of_nonneg (by omega)]; exact ej
          have ej2 : Hid ((51 + K) / 8 = j) := by show _ = _; omega
          have em2 : Hid ((51 + K) % 8 = m) := by show _ = _; rw [Int.tmod_eq_emod_of_nonneg (by omega)] at em; omega
          have hj : j < 32 := by have := ej2.out; omega
          have hjI : (j : Int) < 32 := by omega
          have hm : m < 8 := by have := em2.out; omega
          have hmI : (m : Int) < 8 := by omega
          have hc : wr.cell? ⟨w.heap.size + 1, j, none⟩ = some (.int .u8 ((byteOf x.val (51 + K) j : Nat) : Int)) := (BK.cell j).trans (byteA_get _ _ _ hj)
          have hf := BK.free j
          have e8 : IntKind.i64.wrap (j : Int) = (j : Int) := IntWalk.i64_in _ (by omega)
          have e8' : IntKind.i64.wrap (m : Int) = (m : Int) := IntWalk.i64_in _ (by omega)
          go_wp2_with fail
          (refine tail_any 15 (by kernel_rfl) ?_; rintro W rfl; simp only [List.take_succ_cons, List.take_zero, List.drop_succ_cons, List.drop_zero]; (repeat still_step); refine wpStill_nil ?_)
          go_wp2_with fail
          rw [bit_step x.val (51 + K) j m K r1 ej2.out em2.out l1 h1 (by rw [limb_bit x.val K 51 r1 hlt L1.out])]
          go_roundw
          case rel => exact ⟨K + 1, by go_num, by omega, by (have q := BK.set ((51 + K) / 8) (.int .u8 ((byteOf x.val ((51 + K) + 1) ((51 + K) / 8) : Nat) : Int)); rw [byteA_set _ _ (by omega), ej2.out] at q; exact q), (HK.setCell (by simp) _).drew⟩
          case measure => simp [intOf]; omega
        · obtain rfl : K = 51 := by omega
          obtain ⟨wo, rfl⟩ : ∃ wo : World, wo = wr := ⟨_, rfl⟩
          have B2 : Blk wo (w.heap.size + 1) (byteA x.val 102) 5 := BK
          have HB2 := HK
          clear BK HK hlt hK
          go_wp2_with fail
          refine rounds_step ?_
          go_wp2_with fail
          go_loopw [15] (fun k wr => ∃ K : Nat, k = .int .i64 K ∧ K ≤ 51 ∧ Blk wr (w.heap.size + 1) (byteA x.val (102 + K)) 5 ∧ Below w.heap.size w wr) (fun k _ => 51 - (intOf k).toNat)
          case atStart => exact ⟨0, rfl, by omega, B2, HB2⟩
          case round =>
            obtain ⟨K, rfl, hK, BK, HK⟩ := hrel
            by_cases hlt : K < 51
            · obtain ⟨j, ej⟩ : ∃ j : Nat, (102 + (K : Int)) / 8 = (j : Int) := ⟨(102 + K) / 8, by omega⟩
              obtain ⟨m, em⟩ : ∃ m : Nat, (102 + (K : Int)).tmod 8 = (m : Int) := ⟨(102 + K) % 8, by rw [Int.tmod_eq_emod_of_nonneg (by omega)]; omega⟩
              have ej' : (102 + (K : Int)).tdiv 8 = (j : Int) := by rw [Int.tdiv_eq_ediv_of_nonneg (by omega)]; exact ej
              have ej2 : Hid ((102 + K) / 8 = j) := by show _ = _; omega
              have em2 : Hid ((102 + K) % 8 = m) := by show _ = _; rw [Int.tmod_eq_emod_of_nonneg (by omega)] at em; omega
              have hj : j < 32 := by have := ej2.out; omega
              have hjI : (j : Int) < 32 := by omega
              have hm : m < 8 := by have := em2.out; omega
              have hmI : (m : Int) < 8 := by omega
              have hc : wr.cell? ⟨w.heap.size + 1, j, none⟩ = some (.int .u8 ((byteOf x.val (102 + K) j : Nat) : Int)) := (BK.cell j).trans (byteA_get _ _ _ hj)
              have hf := BK.free j
              have e8 : IntKind.i64.wrap (j : Int) = (j : Int) := IntWalk.i64_in _ (by omega)
              have e8' : IntKind.i64.wrap (m : Int) = (m : Int) := IntWalk.i64_in _ (by omega)
              go_wp2_with fail
              (refine tail_any 15 (by kernel_rfl) ?_; rintro W rfl; simp only [List.take_succ_cons, List.take_zero, List.drop_succ_cons, List.drop_zero]; (repeat still_step); refine wpStill_nil ?_)
              go_wp2_with fail
              rw [bit_step x.val (102 + K) j m K r2 ej2.out em2.out l2 h2 (by rw [limb_bit x.val K 102 r2 hlt L2.out])]
              go_roundw
              case rel => exact ⟨K + 1, by go_num, by omega, by (have q := BK.set ((102 + K) / 8) (.int .u8 ((byteOf x.val ((102 + K) + 1) ((102 + K) / 8) : Nat) : Int)); rw [byteA_set _ _ (by omega), ej2.out] at q; exact q), (HK.setCell (by simp) _).drew⟩
              case measure => simp [intOf]; omega
            · obtain rfl : K = 51 := by omega
              obtain ⟨wo, rfl⟩ : ∃ wo : World, wo = wr := ⟨_, rfl⟩
              have B3 : Blk wo (w.heap.size + 1) (byteA x.val 153) 5 := BK
              have HB3 := HK
              clear BK HK hlt hK
              go_wp2_with fail
              refine rounds_step ?_
              go_wp2_with fail
              go_loopw [15] (fun k wr => ∃ K : Nat, k = .int .i64 K ∧ K ≤ 51 ∧ Blk wr (w.heap.size + 1) (byteA x.val (153 + K)) 5 ∧ Below w.heap.size w wr) (fun k _ => 51 - (intOf k).toNat)
              case atStart => exact ⟨0, rfl, by omega, B3, HB3⟩
              case round =>
                obtain ⟨K, rfl, hK, BK, HK⟩ := hrel
                by_cases hlt : K < 51
                · obtain ⟨j, ej⟩ : ∃ j : Nat, (153 + (K : Int)) / 8 = (j : Int) := ⟨(153 + K) / 8, by omega⟩
                  obtain ⟨m, em⟩ : ∃ m : Nat, (153 + (K : Int)).tmod 8 = (m : Int) := ⟨(153 + K) % 8, by rw [Int.tmod_eq_emod_of_nonneg (by omega)]; omega⟩
                  have ej' : (153 + (K : Int)).tdiv 8 = (j : Int) := by rw [Int.tdiv_eq_ediv_of_nonneg (by omega)]; exact ej
                  have ej2 : Hid ((153 + K) / 8 = j) := by show _ = _; omega
                  have em2 : Hid ((153 + K) % 8 = m) := by show _ = _; rw [Int.tmod_eq_emod_of_nonneg (by omega)] at em; omega
                  have hj : j < 32 := by have := ej2.out; omega
                  have hjI : (j : Int) < 32 := by omega
                  have hm : m < 8 := by have := em2.out; omega
                  have hmI : (m : Int) < 8 := by omega
                  have hc : wr.cell? ⟨w.heap.size + 1, j, none⟩ = some (.int .u8 ((byteOf x.val (153 + K) j : Nat) : Int)) := (BK.cell j).trans (byteA_get _ _ _ hj)
                  have hf := BK.free j
                  have e8 : IntKind.i64.wrap (j : Int) = (j : Int) := IntWalk.i64_in _ (by omega)
                  have e8' : IntKind.i64.wrap (m : Int) = (m : Int) := IntWalk.i64_in _ (by omega)
                  go_wp2_with fail
                  (refine tail_any 15 (by kernel_rfl) ?_; rintro W rfl; simp only [List.take_succ_cons, List.take_zero, List.drop_succ_cons, List.drop_zero]; (repeat still_step); refine wpStill_nil ?_)
                  go_wp2_with fail
                  rw [bit_step x.val (153 + K) j m K r3 ej2.out em2.out l3 h3 (by rw [limb_bit x.val K 153 r3 hlt L3.out])]
                  go_roundw
                  case rel => exact ⟨K + 1, by go_num, by omega, by (have q := BK.set ((153 + K) / 8) (.int .u8 ((byteOf x.val ((153 + K) + 1) ((153 + K) / 8) : Nat) : Int)); rw [byteA_set _ _ (by omega), ej2.out] at q; exact q), (HK.setCell (by simp) _).drew⟩
                  case measure => simp [intOf]; omega
                · obtain rfl : K = 51 := by omega
                  obtain ⟨wo, rfl⟩ : ∃ wo : World, wo = wr := ⟨_, rfl⟩
                  have B4 : Blk wo (w.heap.size + 1) (byteA x.val 204) 5 := BK
                  have HB4 := HK
                  clear BK HK hlt hK
                  go_wp2_with fail
                  refine rounds_step ?_
                  go_wp2_with fail
                  go_loopw [15] (fun k wr => ∃ K : Nat, k = .int .i64 K ∧ K ≤ 51 ∧ Blk wr (w.heap.size + 1) (byteA x.val (204 + K)) 5 ∧ Below w.heap.size w wr) (fun k _ => 51 - (intOf k).toNat)
                  case atStart => exact ⟨0, rfl, by omega, B4, HB4⟩
                  case round =>
                    obtain ⟨K, rfl, hK, BK, HK⟩ := hrel
                    by_cases hlt : K < 51
                    · obtain ⟨j, ej⟩ : ∃ j : Nat, (204 + (K : Int)) / 8 = (j : Int) := ⟨(204 + K) / 8, by omega⟩
                      obtain ⟨m, em⟩ : ∃ m : Nat, (204 + (K : Int)).tmod 8 = (m : Int) := ⟨(204 + K) % 8, by rw [Int.tmod_eq_emod_of_nonneg (by omega)]; omega⟩
                      have ej' : (204 + (K : Int)).tdiv 8 = (j : Int) := by rw [Int.tdiv_eq_ediv_of_nonneg (by omega)]; exact ej
                      have ej2 : Hid ((204 + K) / 8 = j) := by show _ = _; omega
                      have em2 : Hid ((204 + K) % 8 = m) := by show _ = _; rw [Int.tmod_eq_emod_of_nonneg (by omega)] at em; omega
                      have hj : j < 32 := by have := ej2.out; omega
                      have hjI : (j : Int) < 32 := by omega
                      have hm : m < 8 := by have := em2.out; omega
                      have hmI : (m : Int) < 8 := by omega
                      have hc : wr.cell? ⟨w.heap.size + 1, j, none⟩ = some (.int .u8 ((byteOf x.val (204 + K) j : Nat) : Int)) := (BK.cell j).trans (byteA_get _ _ _ hj)
                      have hf := BK.free j
                      have e8 : IntKind.i64.wrap (j : Int) = (j : Int) := IntWalk.i64_in _ (by omega)
                      have e8' : IntKind.i64.wrap (m : Int) = (m : Int) := IntWalk.i64_in _ (by omega)
                      go_wp2_with fail
                      (refine tail_any 15 (by kernel_rfl) ?_; rintro W rfl; simp only [List.take_succ_cons, List.take_zero, List.drop_succ_cons, List.drop_zero]; (repeat still_step); refine wpStill_nil ?_)
                      go_wp2_with fail
                      rw [bit_step x.val (204 + K) j m K r4 ej2.out em2.out l4 h4 (by rw [limb_bit x.val K 204 r4 hlt L4.out])]
                      go_roundw
                      case rel => exact ⟨K + 1, by go_num, by omega, by (have q := BK.set ((204 + K) / 8) (.int .u8 ((byteOf x.val ((204 + K) + 1) ((204 + K) / 8) : Nat) : Int)); rw [byteA_set _ _ (by omega), ej2.out] at q; exact q), (HK.setCell (by simp) _).drew⟩
                      case measure => simp [intOf]; omega
                    · obtain rfl : K = 51 := by omega
                      obtain ⟨wo, rfl⟩ : ∃ wo : World, wo = wr := ⟨_, rfl⟩
                      have B5 : Blk wo (w.heap.size + 1) (byteA x.val 255) 5 := BK
                      have HB5 := HK
                      clear BK HK hlt hK
                      go_wp2_with fail
                      refine rounds_step ?_
                      go_wp2_with fail
                      go_ret
                      exact ⟨_, rfl, by omega, B5, HB5⟩

end Go.Proofs.Ytikjcikedbcfmaa
