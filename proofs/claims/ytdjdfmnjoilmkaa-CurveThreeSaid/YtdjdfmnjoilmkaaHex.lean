/-
  WALKS: sapperlaw6: digit, hex, Key.
-/
import Derived.Test.YtdjdfmnjoilmkaaMult
namespace Go.Proofs.Ytdjdfmnjoilmkaa
open Go.RowKit
set_option linter.unusedVariables false
set_option linter.unusedSimpArgs false

def digN (c : Nat) : Nat := if 97 ≤ c then (c + 169) % 256 else (c + 208) % 256
theorem digN_lt (c : Nat) : digN c < 256 := by unfold digN; split <;> omega

theorem ret_int {k : IntKind} {a b : Int} (h : a = b) : Ending.returned (.int k a) = .returned (.int k b) := by rw [h]
theorem digit_any (c : Nat) (hc : c < 256) (w : World) : Calls Try.prog 58 #[.int .u8 (c : Int)] w fun e w' => e = .returned (.int .u8 ((digN c : Nat) : Int)) ∧ w = w' := by
  by_cases h : 97 ≤ c
  · have h1 : ((c : Int) ≥ 97) := by omega
    have H := hidd h
    clear h
    go_enter Try.func58, Try.ntmps58
    go_wp2_with fail
    go_ret
    refine ⟨ret_int ?_, rfl⟩
    unfold digN
    rw [if_pos H.out]
    first | omega | (simp only [IntKind.wrap_u8]; omega)
  · have h1 : ¬ ((c : Int) ≥ 97) := by omega
    have H := hidd h
    clear h
    go_enter Try.func58, Try.ntmps58
    go_wp2_with fail
    go_ret
    refine ⟨ret_int ?_, rfl⟩
    unfold digN
    rw [if_neg H.out]
    first | omega | (simp only [IntKind.wrap_u8]; omega)

/-- The byte of two digits. -/
def hexN (a b : Nat) : Nat := (digN a * 16 % 256) ||| digN b
theorem hexN_lt (a b : Nat) : hexN a b < 256 := Nat.or_lt_two_pow (n := 8) (Nat.mod_lt _ (by omega)) (digN_lt b)
def hexL (l : List UInt8) : Nat → List Nat
  | 0 => []
  | k + 1 => hexL l k ++ [hexN (l.getD (2 * k) 0).toNat (l.getD (2 * k + 1) 0).toNat]
theorem hexL_length (l : List UInt8) (k : Nat) : (hexL l k).length = k := by
  induction k with
  | zero => rfl
  | succ k ih => simp [hexL, ih]
theorem hexN_bits (p q : Nat) (hp : p < 256) (hq : q < 256) : bits .or .u8 (IntKind.u8.wrap ((p : Int) * 16)) (q : Int) = ((p * 16 % 256 ||| q : Nat) : Int) := by
  have e : IntKind.u8.wrap ((p : Int) * 16) = ((p * 16 % 256 : Nat) : Int) := by rw [IntKind.wrap_u8]; omega
  rw [e, u8_or _ _ (by omega) (by omega) (by omega) (by omega), Int.toNat_natCast, Int.toNat_natCast]

theorem Bs.one {w : World} {v : Nat} (h : v < 256) : Bs (w.alloc (.cells #[.int .u8 (v : Int)] 5)) (some ⟨w.heap.size, 0, none⟩) 1 [v] :=
  ⟨by simp, by simp [maxLen], by intro x hx; rw [List.mem_singleton.1 hx]; exact h, .inr ⟨w.heap.size, 0, rfl, fun i hi => by
    have h0 : i = 0 := by simpa using hi
    subst h0
    exact (Blk.new w _ _).cell 0⟩⟩

set_option maxHeartbeats 4000000 in
theorem hex_any (s : ByteArray) (m : Nat) (w : World) (hs : s.size = 2 * m) (hm : m ≤ 1000) :
    Calls Try.prog 50 #[.string s] w fun e w' => ∃ A c, e = .returned (.slice A m c) ∧ Own w' w.heap.size A c (hexL s.data.toList m) ∧ Below w.heap.size w w' := by
  have HS := hidd hs
  have hsl : s.size ≤ 2000 := by omega
  clear hs
  go_enter Try.func50, Try.ntmps50
  go_wp2_with fail
  go_loopw [3, 4] (fun b i wr => ∃ (K : Nat) (A : Option Addr) (c : Nat), i = .int .i64 (2 * (K : Int)) ∧ K ≤ m ∧ b = .slice A K c ∧ Own wr w.heap.size A c (hexL s.data.toList K) ∧ Below w.heap.size w wr) (fun _ i _ => s.size + 1 - (intOf i).toNat)
  case atStart => exact ⟨0, none, 0, rfl, by omega, rfl, Own.nil _ _, Below.refl _ _⟩
  case round =>
    obtain ⟨K, A, c, rfl, hK, rfl, hO, HW⟩ := hrel
    have HO := hidd hO
    clear hO
    by_cases hlt : K < m
    · obtain ⟨k0, e0⟩ : ∃ k : Nat, k = 2 * K := ⟨_, rfl⟩
      have hk0 : 2 * (K : Int) = (k0 : Int) := by omega
      have hk1 : k0 < s.size := by rw [HS.out]; omega
      have hk2 : k0 + 1 < s.size := by rw [HS.out]; omega
      have E0 := hidd e0
      rw [hk0]
      clear e0 hk0
      go_wp2_with fail
      have e2 : 0 ≤ (k0 : Int) + 1 := by omega
      have e3 : ((k0 : Int) + 1).toNat = k0 + 1 := by omega
      have e4 : (k0 : Int) + 1 < (s.size : Int) := by omega
      have ew : IntKind.i64.wrap ((k0 : Int) + 1) = (k0 : Int) + 1 := IntWalk.i64_in _ (by omega)
      (refine still_any (by kernel_rfl) ?_; rintro W rfl; (repeat still_step); refine wpStill_nil ?_)
      obtain ⟨p, HP, hp⟩ : ∃ p : Nat, Hid (s[k0].toNat = p) ∧ p < 256 := ⟨_, hidd rfl, UInt8.toNat_lt _⟩
      obtain ⟨q, HQ, hq⟩ : ∃ q : Nat, Hid (s[k0 + 1].toNat = q) ∧ q < 256 := ⟨_, hidd rfl, UInt8.toNat_lt _⟩
      rw [HP.out, HQ.out]
      clear ew e2 e3 e4
      go_wp2_with fail
      refine Calls.mono (digit_any p hp _) ?_
      rintro e w1 ⟨rfl, rfl⟩
      dsimp only
      have hdp := digN_lt p
      have hdq := digN_lt q
      obtain ⟨dp, HDP⟩ : ∃ d : Nat, Hid (digN p = d) := ⟨_, rfl⟩
      obtain ⟨dq, HDQ⟩ : ∃ d : Nat, Hid (digN q = d) := ⟨_, rfl⟩
      rw [HDP.out] at hdp ⊢
      rw [HDQ.out] at hdq
      go_wp2_with fail
      refine Calls.mono (digit_any q hq _) ?_
      rintro e w1 ⟨rfl, rfl⟩
      dsimp only
      rw [HDQ.out]
      obtain ⟨v, hv, hv8, HV⟩ : ∃ v : Nat, bits .or .u8 ((dp : Int) * 16 % 256) (dq : Int) = (v : Int) ∧ v < 256 ∧ Hid (hexN p q = v) := by
        refine ⟨hexN p q, ?_, hexN_lt _ _, rfl⟩
        have h := hexN_bits dp dq hdp hdq
        rw [IntKind.wrap_u8] at h
        rw [h]
        unfold hexN
        rw [HDP.out, HDQ.out]
      go_wp2_with (at_builtin; refine wpList_app (xs := hexL s.data.toList K) (ys := [v]) (base := w.heap.size) (.tmp 21) (.tmp 28) rfl rfl rfl rfl (HO.out.below ((Below.refl _ _).alloc (Nat.le_refl _) _).drew) ((Bs.one hv8).below (Below.refl _ _).drew) (hexL_length _ _) rfl (by omega) (by have := HW.size; simp; omega) ?_; intro A1 c1 w1 ho hb1 hg hat; clear hg hat)
      clear hv
      go_roundw
      case rel =>
        refine ⟨K + 1, A1, c1, by (have := E0.out; congr 1; omega), by omega, rfl, ?_, ?_⟩
        · have e1 : hexL s.data.toList (K + 1) = hexL s.data.toList K ++ [v] := by
            rw [hexL, ← HV.out, ← HP.out, ← HQ.out, ← E0.out]
            congr 3
            · congr 1
              rw [List.getD_eq_getElem?_getD, List.getElem?_eq_getElem (by simpa using hk1)]
              rfl
            · congr 1
              rw [List.getD_eq_getElem?_getD, List.getElem?_eq_getElem (by simpa using hk2)]
              rfl
          rw [e1]; exact ho
        · exact ((HW.alloc HW.size _).drew).trans hb1
      case measure => simp [intOf]; omega
    · obtain rfl : K = m := by omega
      have hk0 : ¬ (2 * (K : Int) + 1 < (s.size : Int)) := by rw [HS.out]; omega
      go_wp2_with fail
      go_ret
      exact ⟨A, c, rfl, HO.out, HW⟩
set_option maxHeartbeats 1000000 in
theorem Key6_any {A : Option Addr} {c : Nat} {xs : List Nat} (w : World) (ha : Bs w A c xs) :
    Calls Try.prog 35 #[.slice A xs.length c] w fun e w' => ∃ g : Nat, e = .returned (.slice (some ⟨g, 0, none⟩) 32 32) ∧ w.heap.size ≤ g ∧ Blk w' g (u8s (padTo 32 xs)).toArray 5 ∧ Below w.heap.size w w' := by
  have hmk := mk32z
  have HA : Hid (Bs w A c xs) := ha
  obtain ⟨n, hn⟩ : ∃ n, xs.length = n := ⟨_, rfl⟩
  have HN : Hid (xs.length = n) := hn
  rw [hn]
  clear hn ha
  have KEY : Hid (0 < (u8s (xs.take 32)).length → ∃ ad, A = some ad ∧ ∀ j v, (u8s (xs.take 32))[j]? = some v → (w.alloc (.cells (List.replicate 32 (Value.int .u8 0)).toArray 5)).cell? (ad.add j) = some v) := by
    intro hpos
    rcases HA.out.cells with h0 | ⟨b, off, hA, hc⟩
    · rw [h0] at hpos; simp [u8s] at hpos
    · refine ⟨_, hA, fun j v hv => ?_⟩
      have hj := (List.getElem?_eq_some_iff.1 hv).1
      simp only [u8s, List.length_map, List.length_take] at hj
      have hcj := hc j (by omega)
      rw [Addr.add_lit, World.cell?_alloc_past _ _ _ (World.block_lt_of_cell? w _ hcj), hcj, ← hv]
      have h1 : j < xs.length := by omega
      have h2 : j < 32 := by omega
      simp [u8s, h1, h2]
  go_enter Try.func35, Try.ntmps35
  go_wp2_with (refine wpList_copy_splice rfl (.tmp 5) (.tmp 6) 32 32 rfl 5 Try.underlying32 (by kernel_rfl) (some ⟨w.heap.size, 0, none⟩) A 32 32 n c rfl rfl w.heap.size 0 (List.replicate 32 (Value.int .u8 0)) 5 (heap_alloc_new w _) (u8s (xs.take 32)) ?c1 ?c2 ?c3 ?c4 w.heap.size w ((Below.refl _ _).alloc (Nat.le_refl _) _) (Nat.le_refl _) ?c5)
  case c1 => rw [u8s_length, List.length_take, HN.out]; exact Nat.min_comm _ _
  case c2 => first | exact fun hp => KEY.out hp | exact fun hp => ⟨rfl, KEY.out hp⟩
  case c3 => simp [u8s]; omega
  case c4 =>
    intro v hv
    obtain ⟨x, _, rfl⟩ := List.mem_map.1 hv
    rfl
  case c5 =>
    intro w' h hb
    have B : Blk w' w.heap.size (u8s (padTo 32 xs)).toArray 5 := by rw [← padTo_splice]; exact h.out
    clear h hmk KEY
    go_wp2_with fail
    go_ret
    exact ⟨_, rfl, Nat.le_refl _, B, hb⟩


theorem Key6_n {A : Option Addr} {c n : Nat} {xs : List Nat} (hn : xs.length = n) (w : World) (ha : Bs w A c xs) :
    Calls Try.prog 35 #[.slice A n c] w fun e w' => ∃ g : Nat, e = .returned (.slice (some ⟨g, 0, none⟩) 32 32) ∧ Own w' w.heap.size (some ⟨g, 0, none⟩) 32 (padTo 32 xs) ∧ Below w.heap.size w w' := by
  have h8 := ha.b8
  subst hn
  refine (Key6_any w ha).mono fun e w' ⟨g, he, hg, hB, hb⟩ => ⟨g, he, ?_, hb⟩
  have h := Own.of_blk hB hg (padTo_lt h8) (by rw [padTo_length]; omega)
  rw [padTo_length] at h
  exact h
end Go.Proofs.Ytdjdfmnjoilmkaa
