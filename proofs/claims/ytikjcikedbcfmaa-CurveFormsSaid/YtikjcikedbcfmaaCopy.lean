/-
  WALKS: 'make so many bytes, copy into them': two.
-/
import Derived.Test.YtikjcikedbcfmaaWord
import Derived.Laws.CopyOwn
namespace Go.Proofs.Ytikjcikedbcfmaa
open Go.RowKit
set_option maxRecDepth 100000
set_option linter.unusedVariables false

set_option maxHeartbeats 1000000 in
theorem two_any {A : Option Addr} {c : Nat} {xs : List Nat} (w : World) (ha : Bs w A c xs) :
    Calls Try.prog 11 #[.slice A xs.length c] w fun e w' => ∃ g : Nat, e = .returned (.slice (some ⟨g, 0, none⟩) 32 32) ∧ w.heap.size ≤ g ∧ Blk w' g (u8s (padTo 32 xs)).toArray 5 ∧ Below w.heap.size w w' := by
  have hmk := mk32z
  have HA : Hid (Bs w A c xs) := ha
  obtain ⟨n, hn⟩ : ∃ n, xs.length = n := ⟨_, rfl⟩
  have HN : Hid (xs.length = n) := hn
  rw [hn]
  clear hn ha
  have KEY : Hid (0 < (u8s (xs.take 32)).length → ∃ ad, A = some ad ∧ ∀ j v, (u8s (xs.take 32))[j]? = some v → (w.alloc (.cells (List.replicate 32 (Value.int .u8 0)).toArray 5)).cell? (ad.add j) = some v) := by
    intro hpos
    rcases HA.out.cells with h0 | ⟨b, off, hA, hc⟩
    · rw [h0] at hpos; simp [u8s] at hpos
    · refine ⟨_, hA, fun j v hv => ?_⟩
      have hj := (List.getElem?_eq_some_iff.1 hv).1
      simp only [u8s, List.length_map, List.length_take] at hj
      have hcj := hc j (by omega)
      rw [Addr.add_lit, World.cell?_alloc_past _ _ _ (World.block_lt_of_cell? w _ hcj), hcj, ← hv]
      have h1 : j < xs.length := by omega
      have h2 : j < 32 := by omega
      simp [u8s, h1, h2]
  go_enter Try.func11, Try.ntmps11
  go_wp2_with (refine wpList_copy_splice rfl (.tmp 5) (.tmp 6) 22 22 rfl 5 Try.underlying22 (by kernel_rfl) (some ⟨w.heap.size, 0, none⟩) A 32 32 n c rfl rfl w.heap.size 0 (List.replicate 32 (Value.int .u8 0)) 5 (heap_alloc_new w _) (u8s (xs.take 32)) ?c1 ?c2 ?c3 ?c4 w.heap.size w ((Below.refl _ _).alloc (Nat.le_refl _) _) (Nat.le_refl _) ?c5)
  case c1 => rw [u8s_length, List.length_take, HN.out]; exact Nat.min_comm _ _
  case c2 => first | exact fun hp => KEY.out hp | exact fun hp => ⟨rfl, KEY.out hp⟩
  case c3 => simp [u8s]; omega
  case c4 =>
    intro v hv
    obtain ⟨x, _, rfl⟩ := List.mem_map.1 hv
    rfl
  case c5 =>
    intro w' h hb
    have B : Blk w' w.heap.size (u8s (padTo 32 xs)).toArray 5 := by rw [← padTo_splice]; exact h.out
    clear h hmk KEY
    go_wp2_with fail
    go_ret
    exact ⟨_, rfl, Nat.le_refl _, B, hb⟩

end Go.Proofs.Ytikjcikedbcfmaa
