/-
  WALKS: sapperlaw6.CurveWeak: places of small order give nothing away.
-/
import Derived.Test.YtdjdfmnjoilmkaaAwake6
namespace Go.Proofs.Ytdjdfmnjoilmkaa
open Go.RowKit
set_option linter.unusedVariables false
set_option linter.unusedSimpArgs false
set_option maxRecDepth 100000
set_option linter.constructorNameAsVariable false

theorem kbit_clamp (ks : List Nat) (hl : ks.length = 32) (i : Nat) (hi : i < 3) : kbit (clampL ks) i = 0 := by
  have h0 : (clampL ks).getD 0 0 = ks.getD 0 0 &&& 248 := by
    unfold clampL
    simp only [List.getD_eq_getElem?_getD]
    rw [List.getElem?_set_ne (by omega), List.getElem?_set_self (by omega)]
    rfl
  unfold kbit
  rw [show i / 8 = 0 by omega, h0, show i % 8 = i by omega]
  have h1 : (ks.getD 0 0 &&& 248).testBit i = false := by
    rw [Nat.testBit_and]
    have : (248 : Nat).testBit i = false := by
      have : i = 0 ∨ i = 1 ∨ i = 2 := by omega
      rcases this with rfl | rfl | rfl <;> decide
    rw [this, Bool.and_false]
  rw [Nat.testBit_eq_decide_div_mod_eq] at h1
  have h2 : ¬ ((ks.getD 0 0 &&& 248) / 2 ^ i % 2 = 1) := by simpa using h1
  omega

theorem lad_bit0 {ks : List Nat} {u : F} {K : Nat} {x0 z0 x1 z1 : F} (h : lad ks u K = (x0, z0, x1, z1)) (hb : kbit ks (254 - K) = 0) : lad ks u (K + 1) = (twiceX x0 z0, twiceZ x0 z0, bothX x0 z0 x1 z1, bothZ x0 z0 x1 z1 u) := by
  simp only [lad, h, hb, if_true]
theorem lad_bit1 {ks : List Nat} {u : F} {K : Nat} {x0 z0 x1 z1 : F} (h : lad ks u K = (x0, z0, x1, z1)) (hb : kbit ks (254 - K) = 1) : lad ks u (K + 1) = (bothX x1 z1 x0 z0, bothZ x1 z1 x0 z0 u, twiceX x1 z1, twiceZ x1 z1) := by
  simp only [lad, h, hb]
  rfl

theorem twZ_even {x z : F} (h : x * z = 0) : twiceZ x z = 0 := by
  unfold twiceZ
  have e : (x + z) * (x + z) - (x - z) * (x - z) = (x * z + x * z) + (x * z + x * z) := by grind
  rw [e, h]; grind

/-- u = 0: each place that comes up is infinity or 0. -/
theorem weak0 (ks : List Nat) : ∀ K, ∃ x0 z0 x1 z1, lad ks 0 K = (x0, z0, x1, z1) ∧ x0 * z0 = 0 ∧ x1 * z1 = 0 := by
  intro K
  induction K with
  | zero => exact ⟨1, 0, 0, 1, rfl, by grind, by grind⟩
  | succ K ih =>
    obtain ⟨x0, z0, x1, z1, h, h0, h1⟩ := ih
    rcases kbit_lt ks (254 - K) with hb | hb
    · exact ⟨_, _, _, _, lad_bit0 h hb, by rw [twZ_even h0]; grind, by unfold bothZ; grind⟩
    · exact ⟨_, _, _, _, lad_bit1 h hb, by unfold bothZ; grind, by rw [twZ_even h1]; grind⟩

theorem tw_even {x z : F} (h : x * z = 0) : twiceX x z * twiceZ x z = 0 := by rw [twZ_even h]; grind
theorem tw_odd {x z : F} (h : x = z) : twiceX x z * twiceZ x z = 0 := by subst h; unfold twiceX; grind
theorem bo_p {px pz qx qz : F} (h : px = pz) : bothX px pz qx qz = bothZ px pz qx qz 1 := by subst h; unfold bothX bothZ; grind
theorem bo_q {px pz qx qz : F} (h : qx = qz) : bothX px pz qx qz = bothZ px pz qx qz 1 := by subst h; unfold bothX bothZ; grind

/-- u = 1: of both places one is infinity or 0, the other one is 1. -/
theorem weak1 (ks : List Nat) : ∀ K, ∃ x0 z0 x1 z1, lad ks 1 K = (x0, z0, x1, z1) ∧ ((x0 * z0 = 0 ∧ x1 = z1) ∨ (x0 = z0 ∧ x1 * z1 = 0)) := by
  intro K
  induction K with
  | zero => exact ⟨1, 0, 1, 1, rfl, .inl ⟨by grind, rfl⟩⟩
  | succ K ih =>
    obtain ⟨x0, z0, x1, z1, h, hs⟩ := ih
    rcases kbit_lt ks (254 - K) with hb | hb
    · refine ⟨_, _, _, _, lad_bit0 h hb, .inl ?_⟩
      rcases hs with ⟨h0, h1⟩ | ⟨h0, h1⟩
      · exact ⟨tw_even h0, bo_q h1⟩
      · exact ⟨tw_odd h0, bo_p h0⟩
    · refine ⟨_, _, _, _, lad_bit1 h hb, .inr ?_⟩
      rcases hs with ⟨h0, h1⟩ | ⟨h0, h1⟩
      · exact ⟨bo_p h1, tw_odd h1⟩
      · exact ⟨bo_q h0, tw_even h1⟩

theorem xmul_weak0 {ks us : List Nat} (hl : ks.length = 32) (hu : numL us = 0) : (xmul ks us).val = 0 := by
  obtain ⟨x0, z0, x1, z1, h, h0, _⟩ := weak0 (clampL ks) 254
  have h2 := lad_bit0 h (kbit_clamp ks hl 0 (by omega))
  unfold xmul
  rw [hu, h2]
  show (twiceX x0 z0 * fi (twiceZ x0 z0)).val = 0
  rw [twZ_even h0, fi_zero, show twiceX x0 z0 * 0 = 0 by grind]
  rfl
theorem xmul_weak1 {ks us : List Nat} (hl : ks.length = 32) (hu : numL us = 1) : (xmul ks us).val = 0 := by
  obtain ⟨x0, z0, x1, z1, h, hs⟩ := weak1 (clampL ks) 253
  have h1 := lad_bit0 h (kbit_clamp ks hl 1 (by omega))
  have h2 := lad_bit0 h1 (kbit_clamp ks hl 0 (by omega))
  have h0 : twiceX x0 z0 * twiceZ x0 z0 = 0 := by
    rcases hs with ⟨h, _⟩ | ⟨h, _⟩
    · exact tw_even h
    · exact tw_odd h
  unfold xmul
  rw [hu, h2]
  show (twiceX (twiceX x0 z0) (twiceZ x0 z0) * fi (twiceZ (twiceX x0 z0) (twiceZ x0 z0))).val = 0
  rw [twZ_even h0, fi_zero, show ∀ y : F, y * 0 = 0 by intro y; grind]
  rfl

/-- The places. -/
def weakL : Nat → List Nat
  | 0 => List.replicate 32 0
  | 1 => 1 :: List.replicate 31 0
  | 2 => 237 :: (List.replicate 30 255 ++ [127])
  | _ => 238 :: (List.replicate 30 255 ++ [127])
theorem weakL_len (r : Nat) (hr : r < 4) : (weakL r).length = 32 := by
  have : r = 0 ∨ r = 1 ∨ r = 2 ∨ r = 3 := by omega
  rcases this with rfl | rfl | rfl | rfl <;> decide
theorem weakL_lt (r : Nat) (hr : r < 4) : ∀ x ∈ weakL r, x < 256 := by
  have : r = 0 ∨ r = 1 ∨ r = 2 ∨ r = 3 := by omega
  rcases this with rfl | rfl | rfl | rfl <;> decide
theorem weakL_val (r : Nat) (hr : r < 4) {ks : List Nat} (hl : ks.length = 32) : (xmul ks (weakL r)).val = 0 := by
  have : r = 0 ∨ r = 1 ∨ r = 2 ∨ r = 3 := by omega
  rcases this with rfl | rfl | rfl | rfl
  · exact xmul_weak0 hl (by decide +kernel)
  · exact xmul_weak1 hl (by decide +kernel)
  · exact xmul_weak0 hl (by decide +kernel)
  · exact xmul_weak1 hl (by decide +kernel)

theorem Mult_weak {A B : Option Addr} {c d : Nat} {ks : List Nat} {r : Nat} (w : World) (ha : Bs w A c ks) (hn : ks.length = 32) (hr : r < 4) (hb : Bs w B d (weakL r)) :
    Calls Try.prog 34 #[.slice A 32 c, .slice B 32 d] w fun e w' => e = .returned (.tuple #[.slice none 0 0, .int .i64 5]) ∧ Below w.heap.size w w' :=
  (Mult_any w ha hb hn (weakL_len r hr)).mono fun e w' ⟨h, hB⟩ => ⟨by unfold MultPost at h; rwa [if_pos (weakL_val r hr hn)] at h, hB⟩

set_option maxHeartbeats 8000000 in
theorem CurveWeak_any {A : Option Addr} {c : Nat} {xs : List Nat} (w : World) (ha : Bs w A c xs) (k0 : Int) :
    Calls Try.prog 10 #[.slice A xs.length c, .int .i64 k0] w fun e w' => e = .returned (.bool true) ∧ Below w.heap.size w w' := by
  have hmk := mk32z
  have HS := hidd ha
  obtain ⟨n, hn⟩ : ∃ n : Nat, xs.length = n := ⟨_, rfl⟩
  rw [hn]
  have HN := hidd hn
  clear ha hn
  by_cases g0 : (32 : Int) < (n : Int)
  · go_enter Try.func10, Try.ntmps10
    go_wp2_with fail
    refine Calls.mono (awake6_any _) ?_
    rintro e w1 ⟨rfl, hb1⟩
    dsimp only
    go_wp2_with fail
    go_ret
    exact ⟨rfl, by repeat' first | (with_reducible exact Below.refl _ _) | (with_reducible refine Below.setCell ?_ (by first | (simp; done) | (simp; omega) | omega) _) | (with_reducible refine Below.alloc ?_ (by first | (simp; done) | (simp; omega) | omega) _) | (with_reducible refine Below.drew ?_) | (with_reducible refine Below.trans ?_ (Below.mono (by assumption) (by first | (simp; done) | (simp; omega) | omega)))⟩
  · obtain ⟨r, er, hr⟩ : ∃ r : Nat, (IntKind.u64.wrap k0).tmod 4 = (r : Int) ∧ r < 4 := by
      refine ⟨(IntKind.u64.wrap k0 % 4).toNat, ?_, by omega⟩
      rw [Int.tmod_eq_emod_of_nonneg (by rw [wrap64u]; omega)]
      omega
    have ERR := hidd er
    clear er
    have hcase : r = 0 ∨ r = 1 ∨ r = 2 ∨ r = 3 := by omega
    rcases hcase with rfl | rfl | rfl | rfl
    · have er := ERR.out
      go_enter Try.func10, Try.ntmps10
      go_wp2_with fail
      have BU : Blk (w.alloc (.cells (u8s (weakL 0)).toArray 5)) w.heap.size (u8s (weakL 0)).toArray 5 := Blk.new _ _ _
      have HB : Below w.heap.size w (w.alloc (.cells (u8s (weakL 0)).toArray 5)) := (Below.refl _ _).alloc (Nat.le_refl _) _
      change Calls Try.prog _ _ (w.alloc (.cells (u8s (weakL 0)).toArray 5)) _
      generalize (w.alloc (.cells (u8s (weakL 0)).toArray 5)) = w1 at *
      (refine Calls.mono (Key6_n HN.out _ (Bs.under HS HB)) ?_; rintro e w2 ⟨gk, rfl, hk, hb2⟩; replace BU := BU.old hb2; replace HB := below_from HB hb2; clear hb2; dsimp only; go_wp2_with fail; refine Calls.mono (Mult_weak _ hk.bs (padTo_length _ _) hr (Bs_of_Blk BU (weakL_lt _ hr) (by rw [weakL_len _ hr]; omega))) ?_; rintro e w3 ⟨rfl, hb3⟩; replace HB := below_from HB hb3; clear hb3 hk BU; dsimp only; go_wp2_with fail; refine Calls.mono (awake6_any _) ?_; rintro e w4 ⟨rfl, hb4⟩; replace HB := below_from HB hb4; dsimp only; go_wp2_with fail; go_ret; exact ⟨rfl, HB⟩)
    · have er := ERR.out
      go_enter Try.func10, Try.ntmps10
      go_wp2_with fail
      have BU : Blk (w.alloc (.cells (u8s (weakL 1)).toArray 5)) w.heap.size (u8s (weakL 1)).toArray 5 := Blk.new _ _ _
      have HB : Below w.heap.size w (w.alloc (.cells (u8s (weakL 1)).toArray 5)) := (Below.refl _ _).alloc (Nat.le_refl _) _
      change Calls Try.prog _ _ (w.alloc (.cells (u8s (weakL 1)).toArray 5)) _
      generalize (w.alloc (.cells (u8s (weakL 1)).toArray 5)) = w1 at *
      (refine Calls.mono (Key6_n HN.out _ (Bs.under HS HB)) ?_; rintro e w2 ⟨gk, rfl, hk, hb2⟩; replace BU := BU.old hb2; replace HB := below_from HB hb2; clear hb2; dsimp only; go_wp2_with fail; refine Calls.mono (Mult_weak _ hk.bs (padTo_length _ _) hr (Bs_of_Blk BU (weakL_lt _ hr) (by rw [weakL_len _ hr]; omega))) ?_; rintro e w3 ⟨rfl, hb3⟩; replace HB := below_from HB hb3; clear hb3 hk BU; dsimp only; go_wp2_with fail; refine Calls.mono (awake6_any _) ?_; rintro e w4 ⟨rfl, hb4⟩; replace HB := below_from HB hb4; dsimp only; go_wp2_with fail; go_ret; exact ⟨rfl, HB⟩)
    · have er := ERR.out
      go_enter Try.func10, Try.ntmps10
      go_wp2_with fail
      refine wp_loop_rounds 33 ?_
      refine rounds_step ?_
      go_wp2_with fail
      refine rounds_step ?_
      go_wp2_with fail
      refine rounds_step ?_
      go_wp2_with fail
      refine rounds_step ?_
      go_wp2_with fail
      refine rounds_step ?_
      go_wp2_with fail
      refine rounds_step ?_
      go_wp2_with fail
      refine rounds_step ?_
      go_wp2_with fail
      refine rounds_step ?_
      go_wp2_with fail
      refine rounds_step ?_
      go_wp2_with fail
      refine rounds_step ?_
      go_wp2_with fail
      refine rounds_step ?_
      go_wp2_with fail
      refine rounds_step ?_
      go_wp2_with fail
      refine rounds_step ?_
      go_wp2_with fail
      refine rounds_step ?_
      go_wp2_with fail
      refine rounds_step ?_
      go_wp2_with fail
      refine rounds_step ?_
      go_wp2_with fail
      refine rounds_step ?_
      go_wp2_with fail
      refine rounds_step ?_
      go_wp2_with fail
      refine rounds_step ?_
      go_wp2_with fail
      refine rounds_step ?_
      go_wp2_with fail
      refine rounds_step ?_
      go_wp2_with fail
      refine rounds_step ?_
      go_wp2_with fail
      refine rounds_step ?_
      go_wp2_with fail
      refine rounds_step ?_
      go_wp2_with fail
      refine rounds_step ?_
      go_wp2_with fail
      refine rounds_step ?_
      go_wp2_with fail
      refine rounds_step ?_
      go_wp2_with fail
      refine rounds_step ?_
      go_wp2_with fail
      refine rounds_step ?_
      go_wp2_with fail
      refine rounds_step ?_
      go_wp2_with fail
      refine rounds_step ?_
      go_wp2_with fail
      refine rounds_step ?_
      go_wp2_with fail
      refine rounds_step ?_
      go_wp2_with fail
      have BU : Blk (w.alloc (.cells (u8s (weakL 2)).toArray 5)) w.heap.size (u8s (weakL 2)).toArray 5 := Blk.new _ _ _
      have HB : Below w.heap.size w (w.alloc (.cells (u8s (weakL 2)).toArray 5)) := (Below.refl _ _).alloc (Nat.le_refl _) _
      change Calls Try.prog _ _ (w.alloc (.cells (u8s (weakL 2)).toArray 5)) _
      generalize (w.alloc (.cells (u8s (weakL 2)).toArray 5)) = w1 at *
      (refine Calls.mono (Key6_n HN.out _ (Bs.under HS HB)) ?_; rintro e w2 ⟨gk, rfl, hk, hb2⟩; replace BU := BU.old hb2; replace HB := below_from HB hb2; clear hb2; dsimp only; go_wp2_with fail; refine Calls.mono (Mult_weak _ hk.bs (padTo_length _ _) hr (Bs_of_Blk BU (weakL_lt _ hr) (by rw [weakL_len _ hr]; omega))) ?_; rintro e w3 ⟨rfl, hb3⟩; replace HB := below_from HB hb3; clear hb3 hk BU; dsimp only; go_wp2_with fail; refine Calls.mono (awake6_any _) ?_; rintro e w4 ⟨rfl, hb4⟩; replace HB := below_from HB hb4; dsimp only; go_wp2_with fail; go_ret; exact ⟨rfl, HB⟩)
    · have er := ERR.out
      go_enter Try.func10, Try.ntmps10
      go_wp2_with fail
      refine wp_loop_rounds 33 ?_
      refine rounds_step ?_
      go_wp2_with fail
      refine rounds_step ?_
      go_wp2_with fail
      refine rounds_step ?_
      go_wp2_with fail
      refine rounds_step ?_
      go_wp2_with fail
      refine rounds_step ?_
      go_wp2_with fail
      refine rounds_step ?_
      go_wp2_with fail
      refine rounds_step ?_
      go_wp2_with fail
      refine rounds_step ?_
      go_wp2_with fail
      refine rounds_step ?_
      go_wp2_with fail
      refine rounds_step ?_
      go_wp2_with fail
      refine rounds_step ?_
      go_wp2_with fail
      refine rounds_step ?_
      go_wp2_with fail
      refine rounds_step ?_
      go_wp2_with fail
      refine rounds_step ?_
      go_wp2_with fail
      refine rounds_step ?_
      go_wp2_with fail
      refine rounds_step ?_
      go_wp2_with fail
      refine rounds_step ?_
      go_wp2_with fail
      refine rounds_step ?_
      go_wp2_with fail
      refine rounds_step ?_
      go_wp2_with fail
      refine rounds_step ?_
      go_wp2_with fail
      refine rounds_step ?_
      go_wp2_with fail
      refine rounds_step ?_
      go_wp2_with fail
      refine rounds_step ?_
      go_wp2_with fail
      refine rounds_step ?_
      go_wp2_with fail
      refine rounds_step ?_
      go_wp2_with fail
      refine rounds_step ?_
      go_wp2_with fail
      refine rounds_step ?_
      go_wp2_with fail
      refine rounds_step ?_
      go_wp2_with fail
      refine rounds_step ?_
      go_wp2_with fail
      refine rounds_step ?_
      go_wp2_with fail
      refine rounds_step ?_
      go_wp2_with fail
      refine rounds_step ?_
      go_wp2_with fail
      refine rounds_step ?_
      go_wp2_with fail
      have BU : Blk (w.alloc (.cells (u8s (weakL 3)).toArray 5)) w.heap.size (u8s (weakL 3)).toArray 5 := Blk.new _ _ _
      have HB : Below w.heap.size w (w.alloc (.cells (u8s (weakL 3)).toArray 5)) := (Below.refl _ _).alloc (Nat.le_refl _) _
      change Calls Try.prog _ _ (w.alloc (.cells (u8s (weakL 3)).toArray 5)) _
      generalize (w.alloc (.cells (u8s (weakL 3)).toArray 5)) = w1 at *
      (refine Calls.mono (Key6_n HN.out _ (Bs.under HS HB)) ?_; rintro e w2 ⟨gk, rfl, hk, hb2⟩; replace BU := BU.old hb2; replace HB := below_from HB hb2; clear hb2; dsimp only; go_wp2_with fail; refine Calls.mono (Mult_weak _ hk.bs (padTo_length _ _) hr (Bs_of_Blk BU (weakL_lt _ hr) (by rw [weakL_len _ hr]; omega))) ?_; rintro e w3 ⟨rfl, hb3⟩; replace HB := below_from HB hb3; clear hb3 hk BU; dsimp only; go_wp2_with fail; refine Calls.mono (awake6_any _) ?_; rintro e w4 ⟨rfl, hb4⟩; replace HB := below_from HB hb4; dsimp only; go_wp2_with fail; go_ret; exact ⟨rfl, HB⟩)
end Go.Proofs.Ytdjdfmnjoilmkaa
