/-
  WALKS: curve.Clamp, word.Equal.
-/
import Derived.Test.YtdjdfmnjoilmkaaApp
namespace Go.Proofs.Ytdjdfmnjoilmkaa
open Go.RowKit
set_option linter.unusedVariables false
set_option linter.unusedSimpArgs false

/-- A slice of the call's own: a byte of it, and what a store into it comes to. -/
theorem Own.at {w : World} {base : Nat} {A : Option Addr} {c : Nat} {xs : List Nat} (h : Own w base A c xs) (h0 : 0 < xs.length) : ∃ g, A = some ⟨g, 0, none⟩ ∧ base ≤ g ∧ g < w.heap.size ∧
    (∀ i, i < xs.length → w.cell? ⟨g, i, none⟩ = some (.int .u8 ((xs.getD i 0 : Nat) : Int))) ∧ (∀ i, w.frozen? ⟨g, i, none⟩ = false) ∧
    ∀ (i v : Nat), i < xs.length → v < 256 → Own (w.setCell ⟨g, i, none⟩ (.int .u8 (v : Int))) base A c (xs.set i v) := by
  rcases h.row.2 with ⟨hv, hn⟩ | ⟨g, cap, cur, hv, hg, hh, hle, hmax, hsz, htake⟩
  · omega
  · simp only [Value.slice.injEq] at hv
    obtain ⟨rfl, _, rfl⟩ := hv
    refine ⟨g, rfl, hg, (Array.getElem?_eq_some_iff.1 hh).1, fun i hi => ?_, fun i => (Blk.free hh i), fun i v hi hv => ⟨⟨by simp [u8s], .inr ⟨g, c, cur.setIfInBounds i (.int .u8 (v : Int)), by simp, hg, Blk.set hh i _, by simpa using hle, hmax, by simpa using hsz, ?_⟩⟩, ?_⟩⟩
    · have := h.row.cells (g := g) rfl i (.int .u8 ((xs.getD i 0 : Nat) : Int)) (by simp [u8s, hi])
      simpa [Addr.add_lit] using this
    · rw [Array.toList_setIfInBounds, List.length_set, List.take_set, htake]
      simp [u8s, List.map_set]
    · intro x hx
      rcases List.mem_or_eq_of_mem_set hx with h1 | h1
      · exact h.b8 x h1
      · rw [h1]; exact hv

def clampL (xs : List Nat) : List Nat := (xs.set 0 (xs.getD 0 0 &&& 248)).set 31 (xs.getD 31 0 &&& 127 ||| 64)

theorem bits_clear7 (z : Nat) (h : z < 256) : bits .andNot .u8 (z : Int) 7 = ((z &&& 248 : Nat) : Int) := by
  have : ∀ k : Fin 256, bits .andNot .u8 ((k.val : Nat) : Int) 7 = ((k.val &&& 248 : Nat) : Int) := by decide +kernel
  exact this ⟨z, h⟩
theorem bits_top (z : Nat) (h : z < 256) : bits .or .u8 (bits .and .u8 (z : Int) 127) 64 = ((z &&& 127 ||| 64 : Nat) : Int) := by
  have : ∀ k : Fin 256, bits .or .u8 (bits .and .u8 ((k.val : Nat) : Int) 127) 64 = ((k.val &&& 127 ||| 64 : Nat) : Int) := by decide +kernel
  exact this ⟨z, h⟩
theorem and_lt (z m : Nat) (h : z < 256) : z &&& m < 256 := Nat.lt_of_le_of_lt Nat.and_le_left h
theorem top_lt (z : Nat) (h : z < 256) : z &&& 127 ||| 64 < 256 := Nat.or_lt_two_pow (n := 8) (and_lt z 127 h) (by omega)

theorem Clamp_no {A : Option Addr} {c n : Nat} (w : World) (h : ¬ n = 32) :
    Calls Try.prog 36 #[.slice A n c] w fun e w' => e = .returned (.tuple #[.slice none 0 0, .int .i64 1]) ∧ w = w' := by
  have h' : ¬ (n : Int) = 32 := by omega
  go_enter Try.func36, Try.ntmps36
  go_wp2_with fail
  go_ret2
  exact ⟨rfl, rfl⟩

set_option maxHeartbeats 1000000 in
theorem Clamp_any {A : Option Addr} {c : Nat} {xs : List Nat} (w : World) (hb : Bs w A c xs) (hn : xs.length = 32) :
    Calls Try.prog 36 #[.slice A 32 c] w fun e w' => ∃ g c', e = .returned (.tuple #[.slice (some ⟨g, 0, none⟩) 32 c', .int .i64 0]) ∧ Own w' w.heap.size (some ⟨g, 0, none⟩) c' (clampL xs) ∧ Below w.heap.size w w' := by
  obtain ⟨ad, rfl⟩ : ∃ ad, A = some ad := by
    rcases hb.cells with h | ⟨b, off, h, _⟩
    · subst h; simp at hn
    · exact ⟨_, h⟩
  have HC := Clone_some w hb hn (by omega)
  have h8 := hb.b8
  have H8 := hidd h8
  have HN := hidd hn
  clear hb hn h8
  go_enter Try.func36, Try.ntmps36
  go_wp2_with fail
  refine Calls.mono HC ?_
  rintro e w1 ⟨A1, c1, rfl, ho, hb1⟩
  obtain ⟨g, rfl, hg, hgl, hc, hf, hs⟩ := ho.at (by rw [HN.out]; omega)
  obtain ⟨z0, hz0, hz0l⟩ : ∃ z : Nat, xs.getD 0 0 = z ∧ z < 256 := ⟨_, rfl, getD_lt H8.out 0⟩
  obtain ⟨z1, hz1, hz1l⟩ : ∃ z : Nat, xs.getD 31 0 = z ∧ z < 256 := ⟨_, rfl, getD_lt H8.out 31⟩
  have c0 := hc 0 (by rw [HN.out]; omega)
  have c31 := hc 31 (by rw [HN.out]; omega)
  rw [hz0] at c0
  rw [hz1] at c31
  have f0 := hf 0
  have f31 := hf 31
  have HO := hidd hs
  have Z0 := hidd hz0
  have Z1 := hidd hz1
  clear hc hf hs hz0 hz1 ho HC
  dsimp only
  go_wp2_with fail
  go_ret2
  rw [bits_clear7 z0 hz0l, bits_top z1 hz1l]
  have o1 := HO.out 0 (z0 &&& 248) (by rw [HN.out]; omega) (and_lt _ _ hz0l)
  obtain ⟨g', hg', _, _, _, _, hs2⟩ := o1.at (by rw [List.length_set, HN.out]; omega)
  simp only [Option.some.injEq, Addr.mk.injEq, and_true] at hg'
  subst hg'
  have o2 := hs2 31 (z1 &&& 127 ||| 64) (by rw [List.length_set, HN.out]; omega) (top_lt _ hz1l)
  refine ⟨g, c1, rfl, ?_, (hb1.setCell hg _).setCell hg _⟩
  unfold clampL
  rw [Z0.out, Z1.out]
  exact o2
end Go.Proofs.Ytdjdfmnjoilmkaa
