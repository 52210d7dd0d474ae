/-
  append of bytes onto a slice of the call's own; slices.Clone.
-/
import Derived.Test.YtodhdajelnfhpaaGreatBytes1
import Derived.Maps.AppendAt
import Derived.Deep.AppendLies
import Derived.OwnWalk
namespace Go.Proofs.YtodhdajelnfhpaaGreat
open Go.RowKit
set_option maxRecDepth 100000
set_option linter.unusedVariables false
set_option linter.unusedSimpArgs false

theorem Clone_nil (c : Nat) (w : World) :
    Calls Tryz.prog 42 #[.slice none 0 c] w fun e w' => e = .returned (.slice none 0 0) ∧ w = w' := by
  have he := eql_nil none 0 c
  go_enter Tryz.func42, Tryz.ntmps42
  go_wp2_with fail
  go_ret
  exact ⟨rfl, rfl⟩

set_option maxHeartbeats 1000000 in
theorem Clone_some {ad : Addr} {c n : Nat} {xs : List Nat} (w : World) (hb : Bs w (some ad) c xs) (hn : xs.length = n) (hl : n ≤ 140737488355328) :
    Calls Tryz.prog 42 #[.slice (some ad) n c] w fun e w' => ∃ A' c', e = .returned (.slice A' n c') ∧ Own w' w.heap.size A' c' xs ∧ Below w.heap.size w w' := by
  have HB : Hid (Bs w (some ad) c xs) := hb
  have HN : Hid (xs.length = n) := hn
  have he := eql_nil (some ad) n c
  clear hb hn
  go_enter Tryz.func42, Tryz.ntmps42
  go_wp2_with (at_builtin; refine wpList_app (.tmp 5) (.tmp 6) rfl rfl rfl rfl (Own.empty (base := w.heap.size) (Blk.new _ _ _) (Nat.le_refl _)) (HB.out.below ((Below.refl _ _).alloc (Nat.le_refl _) _)) rfl HN.out (by omega) (by simp) ?_; intro A1 c1 w1 ho hb1 hg hat; clear hg hat)
  go_ret
  simp only [Nat.zero_add, List.nil_append] at ho ⊢
  exact ⟨A1, c1, rfl, ho, (Below.refl _ _).alloc (Nat.le_refl _) _ |>.trans hb1⟩
end Go.Proofs.YtodhdajelnfhpaaGreat
