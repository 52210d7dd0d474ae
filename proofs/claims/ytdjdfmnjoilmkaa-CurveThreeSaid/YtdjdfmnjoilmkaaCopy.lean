/-
  WALKS: 'make so many bytes, copy into them': two.
-/
import Derived.Test.YtdjdfmnjoilmkaaWord
import Derived.Laws.CopyOwn
namespace Go.Proofs.Ytdjdfmnjoilmkaa
open Go.RowKit
set_option linter.unusedVariables false

/-- The first n bytes, filled up by noughts. -/
def padTo (n : Nat) (xs : List Nat) : List Nat := xs.take n ++ List.replicate (n - xs.length) 0

theorem padTo_length (n : Nat) (xs : List Nat) : (padTo n xs).length = n := by simp [padTo]; omega
theorem padTo_lt {n : Nat} {xs : List Nat} (h : ∀ x ∈ xs, x < 256) : ∀ x ∈ padTo n xs, x < 256 := by
  intro x hx
  rcases List.mem_append.1 hx with h1 | h1
  · exact h x (List.mem_of_mem_take h1)
  · have := (List.mem_replicate.1 h1).2; omega

theorem padTo_splice (n : Nat) (xs : List Nat) : splice (List.replicate n (Value.int .u8 0)) 0 (u8s (xs.take n)) = u8s (padTo n xs) := by
  unfold padTo
  rw [u8s_append]
  simp [splice, u8s, List.map_take]
  omega

theorem Bs_of_Blk {w : World} {g : Nat} {ys : List Nat} (h : Blk w g (u8s ys).toArray 5) (h8 : ∀ y ∈ ys, y < 256) (hm : ys.length ≤ 9223372036854775807) : Bs w (some ⟨g, 0, none⟩) ys.length ys := by
  refine ⟨Nat.le_refl _, by unfold maxLen; omega, h8, .inr ⟨g, 0, rfl, fun i hi => ?_⟩⟩
  have := h.cell i
  rw [Nat.zero_add]
  rw [this]
  simp [u8s, hi]

theorem mk32z (w : World) : (Instr.makeSlice 32 (.int .i64 32) (.int .i64 32)).run Try.prog w = .ok (.slice (some ⟨w.heap.size, 0, none⟩) 32 32) (w.alloc (.cells (List.replicate 32 (Value.int .u8 0)).toArray 5)) := by kernel_rfl

set_option maxHeartbeats 1000000 in
theorem two_any {A : Option Addr} {c : Nat} {xs : List Nat} (w : World) (ha : Bs w A c xs) :
    Calls Try.prog 21 #[.slice A xs.length c] w fun e w' => ∃ g : Nat, e = .returned (.slice (some ⟨g, 0, none⟩) 32 32) ∧ w.heap.size ≤ g ∧ Blk w' g (u8s (padTo 32 xs)).toArray 5 ∧ Below w.heap.size w w' := by
  have hmk := mk32z
  have HA : Hid (Bs w A c xs) := ha
  obtain ⟨n, hn⟩ : ∃ n, xs.length = n := ⟨_, rfl⟩
  have HN : Hid (xs.length = n) := hn
  rw [hn]
  clear hn ha
  have KEY : Hid (0 < (u8s (xs.take 32)).length → ∃ ad, A = some ad ∧ ∀ j v, (u8s (xs.take 32))[j]? = some v → (w.alloc (.cells (List.replicate 32 (Value.int .u8 0)).toArray 5)).cell? (ad.add j) = some v) := by
    intro hpos
    rcases HA.out.cells with h0 | ⟨b, off, hA, hc⟩
    · rw [h0] at hpos; simp [u8s] at hpos
    · refine ⟨_, hA, fun j v hv => ?_⟩
      have hj := (List.getElem?_eq_some_iff.1 hv).1
      simp only [u8s, List.length_map, List.length_take] at hj
      have hcj := hc j (by omega)
      rw [Addr.add_lit, World.cell?_alloc_past _ _ _ (World.block_lt_of_cell? w _ hcj), hcj, ← hv]
      have h1 : j < xs.length := by omega
      have h2 : j < 32 := by omega
      simp [u8s, h1, h2]
  go_enter Try.func21, Try.ntmps21
  go_wp2_with (refine wpList_copy_splice rfl (.tmp 5) (.tmp 6) 32 32 rfl 5 Try.underlying32 (by kernel_rfl) (some ⟨w.heap.size, 0, none⟩) A 32 32 n c rfl rfl w.heap.size 0 (List.replicate 32 (Value.int .u8 0)) 5 (heap_alloc_new w _) (u8s (xs.take 32)) ?c1 ?c2 ?c3 ?c4 w.heap.size w ((Below.refl _ _).alloc (Nat.le_refl _) _) (Nat.le_refl _) ?c5)
  case c1 => rw [u8s_length, List.length_take, HN.out]; exact Nat.min_comm _ _
  case c2 => first | exact fun hp => KEY.out hp | exact fun hp => ⟨rfl, KEY.out hp⟩
  case c3 => simp [u8s]; omega
  case c4 =>
    intro v hv
    obtain ⟨x, _, rfl⟩ := List.mem_map.1 hv
    rfl
  case c5 =>
    intro w' h hb
    have B : Blk w' w.heap.size (u8s (padTo 32 xs)).toArray 5 := by rw [← padTo_splice]; exact h.out
    clear h hmk KEY
    go_wp2_with fail
    go_ret
    exact ⟨_, rfl, Nat.le_refl _, B, hb⟩

end Go.Proofs.Ytdjdfmnjoilmkaa
