/-
  WALKS: package field: Inv.
-/
import Derived.Test.YtikjcikedbcfmaaFldM
namespace Go.Proofs.Ytikjcikedbcfmaa
open Go.RowKit
set_option maxRecDepth 100000
set_option linter.unusedVariables false

/-- Is bit i of 2^255 - 21 set? -/
def bitP (i : Nat) : Bool := decide (4 < i) || i == 3 || i == 1 || i == 0
/-- What 'Inv' holds when the bits from i on are through. -/
def invAt (x : F) : Nat → F
  | 0 => 1
  | k + 1 => if bitP (254 - k) then invAt x k * invAt x k * x else invAt x k * invAt x k
theorem invAt_set (x : F) (K : Nat) (h : bitP (254 - K) = true) : invAt x (K + 1) = invAt x K * invAt x K * x := by rw [invAt, if_pos h]
theorem invAt_not (x : F) (K : Nat) (h : bitP (254 - K) = false) : invAt x (K + 1) = invAt x K * invAt x K := by rw [invAt, if_neg (by rw [h]; simp)]
theorem bitP_high {K : Nat} (h : K < 250) : bitP (254 - K) = true := by
  have : 4 < 254 - K := by omega
  simp [bitP, this]
def finv (x : F) : F := invAt x 255

theorem i_next (K : Nat) : Value.int .i64 (254 - (K : Int) - 1) = Value.int .i64 (254 - ((K + 1 : Nat) : Int)) := by
  have : (254 - (K : Int) - 1) = (254 - ((K + 1 : Nat) : Int)) := by omega
  rw [this]
theorem Blk.set5 {w : World} {g' : Nat} {T : TypeId} {c0 c1 c2 c3 c4 : Value} (v0 v1 v2 v3 v4 : Value) (h : Blk w g' #[c0, c1, c2, c3, c4] T) : Blk (((((w.setCell ⟨g', 0, none⟩ v0).setCell ⟨g', 1, none⟩ v1).setCell ⟨g', 2, none⟩ v2).setCell ⟨g', 3, none⟩ v3).setCell ⟨g', 4, none⟩ v4) g' #[v0, v1, v2, v3, v4] T := by
  have h := ((((h.set 0 v0).set 1 v1).set 2 v2).set 3 v3).set 4 v4
  simpa using h
theorem Blk.other5 {w : World} {g g' : Nat} {cur : Array Value} {T : TypeId} (v0 v1 v2 v3 v4 : Value) (h : Blk w g cur T) (hne : g ≠ g') : Blk (((((w.setCell ⟨g', 0, none⟩ v0).setCell ⟨g', 1, none⟩ v1).setCell ⟨g', 2, none⟩ v2).setCell ⟨g', 3, none⟩ v3).setCell ⟨g', 4, none⟩ v4) g cur T :=
  ((((h.set_other _ _ hne).set_other _ _ hne).set_other _ _ hne).set_other _ _ hne).set_other _ _ hne
theorem below_set5 {B : Nat} {w0 w : World} {g' : Nat} (v0 v1 v2 v3 v4 : Value) (h : Below B w0 w) (hg : B ≤ g') : Below B w0 (((((w.setCell ⟨g', 0, none⟩ v0).setCell ⟨g', 1, none⟩ v1).setCell ⟨g', 2, none⟩ v2).setCell ⟨g', 3, none⟩ v3).setCell ⟨g', 4, none⟩ v4) :=
  ((((h.setCell (p := ⟨g', 0, none⟩) hg _).setCell (p := ⟨g', 1, none⟩) hg _).setCell (p := ⟨g', 2, none⟩) hg _).setCell (p := ⟨g', 3, none⟩) hg _).setCell (p := ⟨g', 4, none⟩) hg _
theorem size_set5 {w : World} {g' : Nat} (v0 v1 v2 v3 v4 : Value) : (((((w.setCell ⟨g', 0, none⟩ v0).setCell ⟨g', 1, none⟩ v1).setCell ⟨g', 2, none⟩ v2).setCell ⟨g', 3, none⟩ v3).setCell ⟨g', 4, none⟩ v4).heap.size = w.heap.size := by simp [World.setCell]

set_option maxHeartbeats 4000000 in
theorem Inv_any {x : F} {a0 a1 a2 a3 a4 : Int} (ha : El x a0 a1 a2 a3 a4) (w : World) :
    Calls Try.prog 18 #[.agg #[.int .u64 a0, .int .u64 a1, .int .u64 a2, .int .u64 a3, .int .u64 a4]] w fun e w' =>
      ∃ r0 r1 r2 r3 r4 : Int, e = .returned (.agg #[.int .u64 r0, .int .u64 r1, .int .u64 r2, .int .u64 r3, .int .u64 r4]) ∧ El (finv x) r0 r1 r2 r3 r4 ∧ Below w.heap.size w w' := by
  go_enter Try.func18, Try.ntmps18
  go_wp2_with fail
  refine Calls.mono (Of_any 1 _ (by omega) (by omega)) ?_
  rintro e w1 ⟨p0, p1, p2, p3, p4, rfl, h1, hb1⟩
  have BA : Blk w1 w.heap.size #[.int .u64 a0, .int .u64 a1, .int .u64 a2, .int .u64 a3, .int .u64 a4] 27 := hb1.blk ((Blk.new _ _ _).alloc _) (by simp; omega)
  have BR : Blk w1 (w.heap.size + 1) #[.int .u64 0, .int .u64 0, .int .u64 0, .int .u64 0, .int .u64 0] 27 := hb1.blk (Blk.at _ _ (by simp)) (by simp)
  have HB : Below w.heap.size w w1 := by repeat' first | (with_reducible exact Below.refl _ _) | (with_reducible refine Below.setCell ?_ (by first | (simp; done) | (simp; omega) | omega) _) | (with_reducible refine Below.alloc ?_ (by first | (simp; done) | (simp; omega) | omega) _) | (with_reducible refine Below.drew ?_) | (with_reducible refine Below.trans ?_ (Below.mono (by assumption) (by first | (simp; done) | (simp; omega) | omega)))
  have zA := BA.lt
  have zR := BR.lt
  clear hb1
  dsimp only
  go_wp2_with fail
  have z0 : w.heap.size ≠ w1.heap.size := by omega
  have z1 : w.heap.size + 1 ≠ w1.heap.size := by omega
  go_loopw [4] (fun i wr => ∃ (K : Nat) (r0 r1 r2 r3 r4 : Int), i = .int .i64 (254 - (K : Int)) ∧ K ≤ 255 ∧ El (invAt x K) r0 r1 r2 r3 r4 ∧ Blk wr w1.heap.size #[.int .u64 r0, .int .u64 r1, .int .u64 r2, .int .u64 r3, .int .u64 r4] 27 ∧
      Blk wr w.heap.size #[.int .u64 a0, .int .u64 a1, .int .u64 a2, .int .u64 a3, .int .u64 a4] 27 ∧ Blk wr (w.heap.size + 1) #[.int .u64 0, .int .u64 0, .int .u64 0, .int .u64 0, .int .u64 0] 27 ∧ Below w.heap.size w wr) (fun i _ => (intOf i + 1).toNat)
  case atStart => exact ⟨0, p0, p1, p2, p3, p4, rfl, by omega, by (have h := h1; rw [toF_one] at h; exact h), Blk.new _ _ _, BA.alloc _, BR.alloc _, HB.alloc HB.size _⟩
  case round =>
    obtain ⟨K, r0, r1, r2, r3, r4, rfl, hK, hE, BO, BA, BR, HW⟩ := hrel
    have cO := BO.cell
    have cA := BA.cell
    by_cases hlt : K < 250
    · have hI : ((254 : Int) - (K : Int) > 4) := by omega
      have hI2 : ((254 : Int) - (K : Int) ≥ 0) := by omega
      go_wp2_with fail
      refine Calls.mono (Mul_any hE hE _) ?_
      rintro e w2 ⟨s0, s1, s2, s3, s4, rfl, hE2, hb2⟩
      have BA2 := BA.old hb2
      have BR2 := BR.old hb2
      have BO2 := BO.old hb2
      have HB2 : Below w.heap.size w w2 := HW.trans (hb2.mono HW.size)
      have cO2 := BO2.cell
      have fO2 := BO2.free
      have cA2 := BA2.cell
      clear hb2 cA cO
      dsimp only
      go_wp2_with fail
      refine Calls.mono (Mul_any hE2 ha _) ?_
      rintro e w3 ⟨t0, t1, t2, t3, t4, rfl, hE3, hb3⟩
      have BA3 := hb3.blk (BA2.other5 (.int .u64 s0) (.int .u64 s1) (.int .u64 s2) (.int .u64 s3) (.int .u64 s4) z0) (by rw [size_set5]; exact BA2.lt)
      have BR3 := hb3.blk (BR2.other5 (.int .u64 s0) (.int .u64 s1) (.int .u64 s2) (.int .u64 s3) (.int .u64 s4) z1) (by rw [size_set5]; exact BR2.lt)
      have BO3 := hb3.blk (BO2.set5 (.int .u64 s0) (.int .u64 s1) (.int .u64 s2) (.int .u64 s3) (.int .u64 s4)) (by rw [size_set5]; exact BO2.lt)
      have HB3 : Below w.heap.size w w3 := (below_set5 _ _ _ _ _ HB2 (Nat.le_of_lt zA)).trans (hb3.mono (by rw [size_set5]; exact HB2.size))
      have cO3 := BO3.cell
      have fO3 := BO3.free
      clear hb3 cO2 fO2 cA2
      dsimp only
      go_wp2_with fail
      go_roundw
      case rel => exact ⟨K + 1, t0, t1, t2, t3, t4, i_next K, by omega, by rw [invAt_set x K (bitP_high hlt)]; exact hE3, BO3.set5 (.int .u64 t0) (.int .u64 t1) (.int .u64 t2) (.int .u64 t3) (.int .u64 t4), BA3.other5 (.int .u64 t0) (.int .u64 t1) (.int .u64 t2) (.int .u64 t3) (.int .u64 t4) z0, BR3.other5 (.int .u64 t0) (.int .u64 t1) (.int .u64 t2) (.int .u64 t3) (.int .u64 t4) z1, below_set5 _ _ _ _ _ HB3 (Nat.le_of_lt zA)⟩
      case measure => first | (simp [intOf]; done) | (simp [intOf]; omega)
    · by_cases hend : K = 255
      · subst hend
        clear hlt hK
        have h0 := BR.cell
        have h0f := BR.free
        go_wp2_with fail
        refine bodyPost_ret (v := .agg #[.int .u64 r0, .int .u64 r1, .int .u64 r2, .int .u64 r3, .int .u64 r4]) ?_ rfl ⟨r0, r1, r2, r3, r4, rfl, hE, ?_⟩
        · simp [results, Try.results18, go_sem, h0]
        · exact below_set5 _ _ _ _ _ HW (by omega)
      · have hc : K = 250 ∨ K = 251 ∨ K = 252 ∨ K = 253 ∨ K = 254 := by omega
        clear hend
        rcases hc with hK250 | hK251 | hK252 | hK253 | hK254
        · subst hK250
          clear hlt hK
          go_wp2_with fail
          refine Calls.mono (Mul_any hE hE _) ?_
          rintro e w2 ⟨s0, s1, s2, s3, s4, rfl, hE2, hb2⟩
          have BA2 := BA.old hb2
          have BR2 := BR.old hb2
          have BO2 := BO.old hb2
          have HB2 : Below w.heap.size w w2 := HW.trans (hb2.mono HW.size)
          have cO2 := BO2.cell
          have fO2 := BO2.free
          have cA2 := BA2.cell
          clear hb2 cA cO
          dsimp only
          go_wp2_with fail
          go_roundw
          case rel => exact ⟨251, s0, s1, s2, s3, s4, (by rfl), by omega, by rw [invAt_not x 250 (by decide)]; exact hE2, BO2.set5 (.int .u64 s0) (.int .u64 s1) (.int .u64 s2) (.int .u64 s3) (.int .u64 s4), BA2.other5 (.int .u64 s0) (.int .u64 s1) (.int .u64 s2) (.int .u64 s3) (.int .u64 s4) z0, BR2.other5 (.int .u64 s0) (.int .u64 s1) (.int .u64 s2) (.int .u64 s3) (.int .u64 s4) z1, below_set5 _ _ _ _ _ HB2 (Nat.le_of_lt zA)⟩
          case measure => simp [intOf]
        · subst hK251
          clear hlt hK
          go_wp2_with fail
          refine Calls.mono (Mul_any hE hE _) ?_
          rintro e w2 ⟨s0, s1, s2, s3, s4, rfl, hE2, hb2⟩
          have BA2 := BA.old hb2
          have BR2 := BR.old hb2
          have BO2 := BO.old hb2
          have HB2 : Below w.heap.size w w2 := HW.trans (hb2.mono HW.size)
          have cO2 := BO2.cell
          have fO2 := BO2.free
          have cA2 := BA2.cell
          clear hb2 cA cO
          dsimp only
          go_wp2_with fail
          refine Calls.mono (Mul_any hE2 ha _) ?_
          rintro e w3 ⟨t0, t1, t2, t3, t4, rfl, hE3, hb3⟩
          have BA3 := hb3.blk (BA2.other5 (.int .u64 s0) (.int .u64 s1) (.int .u64 s2) (.int .u64 s3) (.int .u64 s4) z0) (by rw [size_set5]; exact BA2.lt)
          have BR3 := hb3.blk (BR2.other5 (.int .u64 s0) (.int .u64 s1) (.int .u64 s2) (.int .u64 s3) (.int .u64 s4) z1) (by rw [size_set5]; exact BR2.lt)
          have BO3 := hb3.blk (BO2.set5 (.int .u64 s0) (.int .u64 s1) (.int .u64 s2) (.int .u64 s3) (.int .u64 s4)) (by rw [size_set5]; exact BO2.lt)
          have HB3 : Below w.heap.size w w3 := (below_set5 _ _ _ _ _ HB2 (Nat.le_of_lt zA)).trans (hb3.mono (by rw [size_set5]; exact HB2.size))
          have cO3 := BO3.cell
          have fO3 := BO3.free
          clear hb3 cO2 fO2 cA2
          dsimp only
          go_wp2_with fail
          go_roundw
          case rel => exact ⟨252, t0, t1, t2, t3, t4, (by rfl), by omega, by rw [invAt_set x 251 (by decide)]; exact hE3, BO3.set5 (.int .u64 t0) (.int .u64 t1) (.int .u64 t2) (.int .u64 t3) (.int .u64 t4), BA3.other5 (.int .u64 t0) (.int .u64 t1) (.int .u64 t2) (.int .u64 t3) (.int .u64 t4) z0, BR3.other5 (.int .u64 t0) (.int .u64 t1) (.int .u64 t2) (.int .u64 t3) (.int .u64 t4) z1, below_set5 _ _ _ _ _ HB3 (Nat.le_of_lt zA)⟩
          case measure => first | (simp [intOf]; done) | (simp [intOf]; omega)
        · subst hK252
          clear hlt hK
          go_wp2_with fail
          refine Calls.mono (Mul_any hE hE _) ?_
          rintro e w2 ⟨s0, s1, s2, s3, s4, rfl, hE2, hb2⟩
          have BA2 := BA.old hb2
          have BR2 := BR.old hb2
          have BO2 := BO.old hb2
          have HB2 : Below w.heap.size w w2 := HW.trans (hb2.mono HW.size)
          have cO2 := BO2.cell
          have fO2 := BO2.free
          have cA2 := BA2.cell
          clear hb2 cA cO
          dsimp only
          go_wp2_with fail
          go_roundw
          case rel => exact ⟨253, s0, s1, s2, s3, s4, (by rfl), by omega, by rw [invAt_not x 252 (by decide)]; exact hE2, BO2.set5 (.int .u64 s0) (.int .u64 s1) (.int .u64 s2) (.int .u64 s3) (.int .u64 s4), BA2.other5 (.int .u64 s0) (.int .u64 s1) (.int .u64 s2) (.int .u64 s3) (.int .u64 s4) z0, BR2.other5 (.int .u64 s0) (.int .u64 s1) (.int .u64 s2) (.int .u64 s3) (.int .u64 s4) z1, below_set5 _ _ _ _ _ HB2 (Nat.le_of_lt zA)⟩
          case measure => simp [intOf]
        · subst hK253
          clear hlt hK
          go_wp2_with fail
          refine Calls.mono (Mul_any hE hE _) ?_
          rintro e w2 ⟨s0, s1, s2, s3, s4, rfl, hE2, hb2⟩
          have BA2 := BA.old hb2
          have BR2 := BR.old hb2
          have BO2 := BO.old hb2
          have HB2 : Below w.heap.size w w2 := HW.trans (hb2.mono HW.size)
          have cO2 := BO2.cell
          have fO2 := BO2.free
          have cA2 := BA2.cell
          clear hb2 cA cO
          dsimp only
          go_wp2_with fail
          refine Calls.mono (Mul_any hE2 ha _) ?_
          rintro e w3 ⟨t0, t1, t2, t3, t4, rfl, hE3, hb3⟩
          have BA3 := hb3.blk (BA2.other5 (.int .u64 s0) (.int .u64 s1) (.int .u64 s2) (.int .u64 s3) (.int .u64 s4) z0) (by rw [size_set5]; exact BA2.lt)
          have BR3 := hb3.blk (BR2.other5 (.int .u64 s0) (.int .u64 s1) (.int .u64 s2) (.int .u64 s3) (.int .u64 s4) z1) (by rw [size_set5]; exact BR2.lt)
          have BO3 := hb3.blk (BO2.set5 (.int .u64 s0) (.int .u64 s1) (.int .u64 s2) (.int .u64 s3) (.int .u64 s4)) (by rw [size_set5]; exact BO2.lt)
          have HB3 : Below w.heap.size w w3 := (below_set5 _ _ _ _ _ HB2 (Nat.le_of_lt zA)).trans (hb3.mono (by rw [size_set5]; exact HB2.size))
          have cO3 := BO3.cell
          have fO3 := BO3.free
          clear hb3 cO2 fO2 cA2
          dsimp only
          go_wp2_with fail
          go_roundw
          case rel => exact ⟨254, t0, t1, t2, t3, t4, (by rfl), by omega, by rw [invAt_set x 253 (by decide)]; exact hE3, BO3.set5 (.int .u64 t0) (.int .u64 t1) (.int .u64 t2) (.int .u64 t3) (.int .u64 t4), BA3.other5 (.int .u64 t0) (.int .u64 t1) (.int .u64 t2) (.int .u64 t3) (.int .u64 t4) z0, BR3.other5 (.int .u64 t0) (.int .u64 t1) (.int .u64 t2) (.int .u64 t3) (.int .u64 t4) z1, below_set5 _ _ _ _ _ HB3 (Nat.le_of_lt zA)⟩
          case measure => first | (simp [intOf]; done) | (simp [intOf]; omega)
        · subst hK254
          clear hlt hK
          go_wp2_with fail
          refine Calls.mono (Mul_any hE hE _) ?_
          rintro e w2 ⟨s0, s1, s2, s3, s4, rfl, hE2, hb2⟩
          have BA2 := BA.old hb2
          have BR2 := BR.old hb2
          have BO2 := BO.old hb2
          have HB2 : Below w.heap.size w w2 := HW.trans (hb2.mono HW.size)
          have cO2 := BO2.cell
          have fO2 := BO2.free
          have cA2 := BA2.cell
          clear hb2 cA cO
          dsimp only
          go_wp2_with fail
          refine Calls.mono (Mul_any hE2 ha _) ?_
          rintro e w3 ⟨t0, t1, t2, t3, t4, rfl, hE3, hb3⟩
          have BA3 := hb3.blk (BA2.other5 (.int .u64 s0) (.int .u64 s1) (.int .u64 s2) (.int .u64 s3) (.int .u64 s4) z0) (by rw [size_set5]; exact BA2.lt)
          have BR3 := hb3.blk (BR2.other5 (.int .u64 s0) (.int .u64 s1) (.int .u64 s2) (.int .u64 s3) (.int .u64 s4) z1) (by rw [size_set5]; exact BR2.lt)
          have BO3 := hb3.blk (BO2.set5 (.int .u64 s0) (.int .u64 s1) (.int .u64 s2) (.int .u64 s3) (.int .u64 s4)) (by rw [size_set5]; exact BO2.lt)
          have HB3 : Below w.heap.size w w3 := (below_set5 _ _ _ _ _ HB2 (Nat.le_of_lt zA)).trans (hb3.mono (by rw [size_set5]; exact HB2.size))
          have cO3 := BO3.cell
          have fO3 := BO3.free
          clear hb3 cO2 fO2 cA2
          dsimp only
          go_wp2_with fail
          go_roundw
          case rel => exact ⟨255, t0, t1, t2, t3, t4, (by rfl), by omega, by rw [invAt_set x 254 (by decide)]; exact hE3, BO3.set5 (.int .u64 t0) (.int .u64 t1) (.int .u64 t2) (.int .u64 t3) (.int .u64 t4), BA3.other5 (.int .u64 t0) (.int .u64 t1) (.int .u64 t2) (.int .u64 t3) (.int .u64 t4) z0, BR3.other5 (.int .u64 t0) (.int .u64 t1) (.int .u64 t2) (.int .u64 t3) (.int .u64 t4) z1, below_set5 _ _ _ _ _ HB3 (Nat.le_of_lt zA)⟩
          case measure => first | (simp [intOf]; done) | (simp [intOf]; omega)

end Go.Proofs.Ytikjcikedbcfmaa
