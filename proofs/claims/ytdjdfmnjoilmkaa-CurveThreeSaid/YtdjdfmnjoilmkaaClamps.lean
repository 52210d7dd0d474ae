/-
  WALKS: sapperlaw6.CurveClamps.
-/
import Derived.Test.YtdjdfmnjoilmkaaAwake6
namespace Go.Proofs.Ytdjdfmnjoilmkaa
open Go.RowKit
set_option linter.unusedVariables false
set_option linter.unusedSimpArgs false
set_option maxRecDepth 100000
set_option linter.constructorNameAsVariable false

theorem clamp_get {xs : List Nat} (hl : xs.length = 32) (i : Nat) (hi : i < 32) : (clampL xs).getD i 0 = if i = 0 then xs.getD 0 0 &&& 248 else if i = 31 then xs.getD 31 0 &&& 127 ||| 64 else xs.getD i 0 := by
  unfold clampL
  simp only [List.getD_eq_getElem?_getD]
  by_cases h0 : i = 0
  · subst h0
    rw [if_pos rfl, List.getElem?_set_ne (by omega), List.getElem?_set_self (by omega)]
    rfl
  · rw [if_neg h0]
    by_cases h1 : i = 31
    · subst h1
      rw [if_pos rfl, List.getElem?_set_self (by rw [List.length_set]; omega)]
      rfl
    · rw [if_neg h1, List.getElem?_set_ne (by omega), List.getElem?_set_ne (by omega)]
theorem clamp_lt {xs : List Nat} (h8 : ∀ x ∈ xs, x < 256) : ∀ x ∈ clampL xs, x < 256 := by
  intro x hx
  unfold clampL at hx
  rcases List.mem_or_eq_of_mem_set hx with h | h
  · rcases List.mem_or_eq_of_mem_set h with h | h
    · exact h8 x h
    · rw [h]; exact and_lt _ _ (getD_lt h8 0)
  · rw [h]; exact top_lt _ (getD_lt h8 31)
theorem fin256 {p : Nat → Prop} (h : ∀ k : Fin 256, p k.val) (z : Nat) (hz : z < 256) : p z := h ⟨z, hz⟩
theorem clamp_clamp {xs : List Nat} (hl : xs.length = 32) (h8 : ∀ x ∈ xs, x < 256) : clampL (clampL xs) = clampL xs := by
  refine eq_of_getD (by simp [clampL]) (fun i hi => ?_)
  have hi' : i < 32 := by rw [clampL_length, clampL_length] at hi; omega
  rw [clamp_get (by rw [clampL_length]; exact hl) i hi']
  have h0 := clamp_get hl 0 (by omega)
  have h31 := clamp_get hl 31 (by omega)
  rw [if_pos rfl] at h0
  rw [if_neg (by omega), if_pos rfl] at h31
  rw [h0, h31, clamp_get hl i hi']
  have e1 : ∀ z, z < 256 → z &&& 248 &&& 248 = z &&& 248 := fin256 (by decide +kernel)
  have e2 : ∀ z, z < 256 → ((z &&& 127 ||| 64) &&& 127) ||| 64 = z &&& 127 ||| 64 := fin256 (by decide +kernel)
  by_cases g0 : i = 0
  · rw [if_pos g0, if_pos g0]; exact e1 _ (getD_lt h8 0)
  · rw [if_neg g0, if_neg g0]
    by_cases g1 : i = 31
    · rw [if_pos g1, if_pos g1]; exact e2 _ (getD_lt h8 31)
    · rw [if_neg g1, if_neg g1]
def keepN (i : Nat) : Nat := if i = 0 then 248 else if i = 31 then 63 else 255
theorem clamp_keep {xs : List Nat} (hl : xs.length = 32) (h8 : ∀ x ∈ xs, x < 256) (i : Nat) (hi : i < 32) : (clampL xs).getD i 0 &&& keepN i = xs.getD i 0 &&& keepN i := by
  rw [clamp_get hl i hi]
  have e1 : ∀ z, z < 256 → z &&& 248 &&& 248 = z &&& 248 := fin256 (by decide +kernel)
  have e2 : ∀ z, z < 256 → (z &&& 127 ||| 64) &&& 63 = z &&& 63 := fin256 (by decide +kernel)
  unfold keepN
  by_cases g0 : i = 0
  · subst g0; rw [if_pos rfl, if_pos rfl]; exact e1 _ (getD_lt h8 0)
  · rw [if_neg g0, if_neg g0]
    by_cases g1 : i = 31
    · subst g1; rw [if_pos rfl, if_pos rfl]; exact e2 _ (getD_lt h8 31)
    · rw [if_neg g1, if_neg g1]

theorem u8_and_nat (a b : Nat) (ha : a < 256) (hb : b < 256) : bits .and .u8 (a : Int) (b : Int) = ((a &&& b : Nat) : Int) := by
  rw [u8_and _ _ (by omega) (by omega) (by omega) (by omega), Int.toNat_natCast, Int.toNat_natCast]

set_option maxHeartbeats 8000000 in
theorem CurveClamps_any {A : Option Addr} {c : Nat} {xs : List Nat} (w : World) (ha : Bs w A c xs) :
    Calls Try.prog 11 #[.slice A xs.length c] w fun e w' => e = .returned (.bool true) ∧ Below w.heap.size w w' := by
  have HS := hidd ha
  have H8 := hidd ha.b8
  obtain ⟨n, hn⟩ : ∃ n : Nat, xs.length = n := ⟨_, rfl⟩
  rw [hn]
  have HN := hidd hn
  clear ha hn
  by_cases g0 : (32 : Int) < (n : Int)
  · go_enter Try.func11, Try.ntmps11
    go_wp2_with fail
    refine Calls.mono (awake6_any _) ?_
    rintro e w1 ⟨rfl, hb1⟩
    dsimp only
    go_wp2_with fail
    go_ret
    exact ⟨rfl, by repeat' first | (with_reducible exact Below.refl _ _) | (with_reducible refine Below.setCell ?_ (by first | (simp; done) | (simp; omega) | omega) _) | (with_reducible refine Below.alloc ?_ (by first | (simp; done) | (simp; omega) | omega) _) | (with_reducible refine Below.drew ?_) | (with_reducible refine Below.trans ?_ (Below.mono (by assumption) (by first | (simp; done) | (simp; omega) | omega)))⟩
  · go_enter Try.func11, Try.ntmps11
    go_wp2_with fail
    refine Calls.mono (Key6_n HN.out _ (Bs.under HS (Below.refl _ _))) ?_
    rintro e w1 ⟨gx, rfl, hx, hb1⟩
    have HB : Below w.heap.size w w1 := hb1
    obtain ⟨zs, HZ⟩ : ∃ zs, Hid (padTo 32 xs = zs) := ⟨_, hidd rfl⟩
    have hzl : zs.length = 32 := by rw [← HZ.out]; exact padTo_length _ _
    have hz8 : ∀ z ∈ zs, z < 256 := by rw [← HZ.out]; exact padTo_lt H8.out
    rw [HZ.out] at hx
    have HZL := hidd hzl
    have HZ8 := hidd hz8
    clear hb1 hzl hz8
    dsimp only
    go_wp2_with fail
    refine Calls.mono (Clamp_any _ hx.bs HZL.out) ?_
    rintro e w2 ⟨ga, ca, rfl, hA, hb2⟩
    replace HB := below_from HB hb2
    have hxb := hidd (hx.bs.below hb2)
    clear hx hb2
    dsimp only
    go_wp2_with fail
    refine Calls.mono (Clamp_any _ hA.bs (by rw [clampL_length]; exact HZL.out)) ?_
    rintro e w3 ⟨gb, cb, rfl, hO, hb3⟩
    rw [clamp_clamp HZL.out HZ8.out] at hO
    replace HB := below_from HB hb3
    have hab := hidd (hA.bs.below hb3)
    replace hxb := hidd (hxb.out.below hb3)
    have ca1 := conv_str hab.out
    have cb1 := conv_str hO.bs
    rw [clampL_length, HZL.out] at ca1 cb1
    clear hA hO hb3
    dsimp only
    go_wp2_with fail
    clear ca1 cb1
    go_loopw [46] (fun i wr => ∃ K : Nat, i = .int .i64 (K : Int) ∧ K ≤ 32 ∧ Below w3.heap.size w3 wr) (fun i _ => 32 - (intOf i).toNat)
    case atStart => exact ⟨0, rfl, by omega, Below.refl _ _⟩
    case round =>
      obtain ⟨K, rfl, hK, HW⟩ := hrel
      by_cases hlt : K < 32
      · obtain ⟨b1, o1, ha1, h1⟩ := (hab.out.below HW).at (i := K) (by rw [clampL_length, HZL.out]; omega)
        obtain ⟨b2, o2, hx1, h2⟩ := (hxb.out.below HW).at (i := K) (by rw [HZL.out]; omega)
        simp only [Option.some.injEq, Addr.mk.injEq, and_true] at ha1 hx1
        obtain ⟨rfl, rfl⟩ := ha1
        obtain ⟨rfl, rfl⟩ := hx1
        simp only [Nat.zero_add] at h1 h2
        obtain ⟨p, HP, hp8⟩ : ∃ p : Nat, Hid ((clampL zs).getD K 0 = p) ∧ p < 256 := ⟨_, hidd rfl, getD_lt (clamp_lt HZ8.out) K⟩
        obtain ⟨q, HQ, hq8⟩ : ∃ q : Nat, Hid (zs.getD K 0 = q) ∧ q < 256 := ⟨_, hidd rfl, getD_lt HZ8.out K⟩
        rw [HP.out] at h1
        rw [HQ.out] at h2
        have hk := clamp_keep HZL.out HZ8.out K hlt
        rw [HP.out, HQ.out] at hk
        by_cases g0 : K = 0
        · subst g0
          have ek : bits .and .u8 (p : Int) 248 = bits .and .u8 (q : Int) 248 := (u8_and_nat p 248 hp8 (by omega)).trans ((congrArg (fun n : Nat => (n : Int)) hk).trans (u8_and_nat q 248 hq8 (by omega)).symm)
          (clear hk; go_wp2_with fail; (refine still_any (by kernel_rfl) ?_; rintro W rfl; (repeat still_step); refine wpStill_nil ?_); go_wp2_with fail; clear ek h1 h2; go_roundw)
          case rel => exact ⟨1, by rfl, by omega, HW.drew⟩
          case measure => simp [intOf]
        · by_cases g1 : K = 31
          · subst g1
            have ek : bits .and .u8 (p : Int) 63 = bits .and .u8 (q : Int) 63 := (u8_and_nat p 63 hp8 (by omega)).trans ((congrArg (fun n : Nat => (n : Int)) hk).trans (u8_and_nat q 63 hq8 (by omega)).symm)
            (clear hk; go_wp2_with fail; (refine still_any (by kernel_rfl) ?_; rintro W rfl; (repeat still_step); refine wpStill_nil ?_); go_wp2_with fail; clear ek h1 h2; go_roundw)
            case rel => exact ⟨32, by rfl, by omega, HW.drew⟩
            case measure => simp [intOf]
          · have ek : bits .and .u8 (p : Int) 255 = bits .and .u8 (q : Int) 255 := by
              unfold keepN at hk
              rw [if_neg g0, if_neg g1] at hk
              exact (u8_and_nat p 255 hp8 (by omega)).trans ((congrArg (fun n : Nat => (n : Int)) hk).trans (u8_and_nat q 255 hq8 (by omega)).symm)
            have g0' : ¬ (K : Int) = 0 := by omega
            have g1' : ¬ (K : Int) = 31 := by omega
            (clear hk; go_wp2_with fail; (refine still_any (by kernel_rfl) ?_; rintro W rfl; (repeat still_step); refine wpStill_nil ?_); go_wp2_with fail; clear ek h1 h2; go_roundw)
            case rel => exact ⟨K + 1, by go_num, by omega, HW.drew⟩
            case measure => simp [intOf]; omega
      · obtain rfl : K = 32 := by omega
        replace HB := below_from HB HW
        obtain ⟨b1, o1, ha1, h1⟩ := (hab.out.below HW).at (i := 0) (by rw [clampL_length, HZL.out]; omega)
        obtain ⟨b2, o2, ha2, h2⟩ := (hab.out.below HW).at (i := 31) (by rw [clampL_length, HZL.out]; omega)
        simp only [Option.some.injEq, Addr.mk.injEq, and_true] at ha1 ha2
        obtain ⟨rfl, rfl⟩ := ha1
        obtain ⟨rfl, rfl⟩ := ha2
        rw [clamp_get HZL.out 0 (by omega), if_pos rfl] at h1
        rw [clamp_get HZL.out 31 (by omega), if_neg (by omega), if_pos rfl] at h2
        simp only [Nat.zero_add] at h1 h2
        obtain ⟨p, hp, hp8⟩ : ∃ p : Nat, zs.getD 0 0 &&& 248 = p ∧ bits .and .u8 (p : Int) 7 = 0 := by
          have e1 : ∀ z, z < 256 → bits .and .u8 ((z &&& 248 : Nat) : Int) 7 = 0 := fin256 (p := fun z => bits .and .u8 ((z &&& 248 : Nat) : Int) 7 = 0) (by decide +kernel)
          exact ⟨_, rfl, e1 _ (getD_lt HZ8.out 0)⟩
        obtain ⟨q, hq, hq8⟩ : ∃ q : Nat, zs.getD 31 0 &&& 127 ||| 64 = q ∧ (q : Int) / 64 = 1 := by
          have e1 : ∀ z, z < 256 → ((z &&& 127 ||| 64 : Nat) : Int) / 64 = 1 := fin256 (p := fun z => ((z &&& 127 ||| 64 : Nat) : Int) / 64 = 1) (by decide +kernel)
          exact ⟨_, rfl, e1 _ (getD_lt HZ8.out 31)⟩
        rw [hp] at h1
        rw [hq] at h2
        clear hp hq
        go_wp2_with fail
        refine Calls.mono (awake6_any _) ?_
        rintro e w9 ⟨rfl, hb9⟩
        replace HB := below_from HB hb9
        dsimp only
        go_wp2_with fail
        go_ret
        exact ⟨rfl, HB⟩
end Go.Proofs.Ytdjdfmnjoilmkaa
