/-
 App · EqualW, IN ONE TEXT.
-/
import Derived.Test.YtkhbihnnkflfkaaGreatBytes1
import Derived.Maps.AppendAt
import Derived.Deep.AppendLies
import Derived.OwnWalk
/-
 append of bytes onto a slice of the call's own; slices.Clone.
-/
namespace Go.Proofs.YtkhbihnnkflfkaaGreat
open Go.RowKit
set_option maxRecDepth 100000
set_option linter.unusedVariables false
set_option linter.unusedSimpArgs false

theorem Clone_nil (c : Nat) (w : World) :
  Calls Tryz.prog 32 #[.slice none 0 c] w fun e w' => e = .returned (.slice none 0 0) ∧ w = w' := by
 have he := eql_nil none 0 c
 go_enter Tryz.func32, Tryz.ntmps32
 go_wp2_with fail
 go_ret
 exact ⟨rfl, rfl⟩

set_option maxHeartbeats 1000000 in
theorem Clone_some {ad : Addr} {c n : Nat} {xs : List Nat} (w : World) (hb : Bs w (some ad) c xs) (hn : xs.length = n) (hl : n ≤ 140737488355328) :
  Calls Tryz.prog 32 #[.slice (some ad) n c] w fun e w' => ∃ A' c', e = .returned (.slice A' n c') ∧ Own w' w.heap.size A' c' xs ∧ Below w.heap.size w w' := by
 have HB : Hid (Bs w (some ad) c xs) := hb
 have HN : Hid (xs.length = n) := hn
 have he := eql_nil (some ad) n c
 clear hb hn
 go_enter Tryz.func32, Tryz.ntmps32
 go_wp2_with (at_builtin; refine wpList_app (.tmp 5) (.tmp 6) rfl rfl rfl rfl (Own.empty (base := w.heap.size) (Blk.new _ _ _) (Nat.le_refl _)) (HB.out.below ((Below.refl _ _).alloc (Nat.le_refl _) _)) rfl HN.out (by omega) (by simp) ?_; intro A1 c1 w1 ho hb1 hg hat; clear hg hat)
 go_ret
 simp only [Nat.zero_add, List.nil_append] at ho ⊢
 exact ⟨A1, c1, rfl, ho, (Below.refl _ _).alloc (Nat.le_refl _) _ |>.trans hb1⟩
end Go.Proofs.YtkhbihnnkflfkaaGreat
/-
 WALKS: word.Equal.
-/
namespace Go.Proofs.YtkhbihnnkflfkaaGreat
open Go.RowKit
set_option maxRecDepth 100000
set_option linter.unusedVariables false
set_option linter.unusedSimpArgs false

variable {A B : Option Addr} {c d m n : Nat} {xs ys : List Nat}
theorem or_xor_zero (v a b : Nat) (hv : v < 256) (ha : a < 256) (hb : b < 256) : ∃ u : Nat, bits .or .u8 (v : Int) (bits .xor .u8 (a : Int) (b : Int)) = (u : Int) ∧ u < 256 ∧ (u = 0 ↔ v = 0 ∧ a = b) := by
 rw [u8_xor_nat a b ha hb]
 have hx : a ^^^ b < 256 := Nat.xor_lt_two_pow (n := 8) ha hb
 rw [u8_or _ _ (by omega) (by omega) (by omega) (by omega)]
 refine ⟨v ||| (a ^^^ b), by simp, Nat.or_lt_two_pow (n := 8) hv hx, ?_⟩
 rw [Nat.or_eq_zero_iff, xor_zero]

theorem WEqual_len (w : World) (h : ¬ n = m) :
  Calls Tryz.prog 68 #[.slice A n c, .slice B m d] w fun e w' => e = .returned (.bool false) ∧ w = w' := by
 have h' : ¬ (n : Int) = (m : Int) := by omega
 go_enter Tryz.func68, Tryz.ntmps68
 go_wp2_with fail
 go_ret
 exact ⟨rfl, rfl⟩

set_option maxHeartbeats 2000000 in
theorem WEqual_same (w : World) (ha : Bs w A c xs) (hb : Bs w B d ys) (hn : xs.length = n) (hm : ys.length = n) :
  Calls Tryz.prog 68 #[.slice A n c, .slice B n d] w fun e w' => e = .returned (.bool (decide (xs = ys))) ∧ Below w.heap.size w w' := by
 have hmx := ha.max
 have hle := ha.le
 unfold maxLen at hmx
 have hn64 : n ≤ 9223372036854775807 := by omega
 have HA := hidd ha
 have HB := hidd hb
 have HN := hidd hn
 have HM := hidd hm
 clear ha hb hn hm hmx hle
 go_enter Tryz.func68, Tryz.ntmps68
 go_wp2_with fail
 go_loopw [5, 14] (fun v i wr => ∃ (K u : Nat), i = .int .i64 (K : Int) ∧ K ≤ n ∧ v = .int .u8 (u : Int) ∧ u < 256 ∧ (u = 0 ↔ ∀ j, j < K → xs.getD j 0 = ys.getD j 0) ∧ Below w.heap.size w wr) (fun _ i _ => n - (intOf i).toNat)
 case atStart => exact ⟨0, 0, rfl, by omega, rfl, by omega, by simp, Below.refl _ _⟩
 case round =>
  obtain ⟨K, u, rfl, hK, rfl, hu, hrel, HW⟩ := hrel
  have HR := hidd hrel
  clear hrel
  by_cases hlt : K < n
  ·obtain ⟨b1, o1, rfl, h1⟩ := (HA.out.below HW).at (i := K) (by rw [HN.out]; omega)
   obtain ⟨b2, o2, rfl, h2⟩ := (HB.out.below HW).at (i := K) (by rw [HM.out]; omega)
   obtain ⟨p, hp, hp8⟩ : ∃ p : Nat, xs.getD K 0 = p ∧ p < 256 := ⟨_, rfl, getD_lt HA.out.b8 K⟩
   obtain ⟨q, hq, hq8⟩ : ∃ q : Nat, ys.getD K 0 = q ∧ q < 256 := ⟨_, rfl, getD_lt HB.out.b8 K⟩
   rw [hp] at h1
   rw [hq] at h2
   have HP := hidd hp
   have HQ := hidd hq
   clear hp hq
   go_wp2_with fail
   (refine still_any (by kernel_rfl) ?_; rintro W rfl; (repeat still_step); refine wpStill_nil ?_)
   go_wp2_with fail
   obtain ⟨u', hu', hu8, huz⟩ := or_xor_zero u p q hu hp8 hq8
   rw [hu']
   have HU := hidd hu'
   clear hu'
   go_roundw
   case rel =>
    refine ⟨K + 1, u', by go_num, by omega, rfl, hu8, ?_, HW.drew⟩
    rw [huz, HR.out]
    constructor
    ·intro ⟨h3, h4⟩ j hj
     by_cases e : j = K
     ·subst e; rw [HP.out, HQ.out, h4]
     ·exact h3 j (by omega)
    ·intro h3
     refine ⟨fun j hj => h3 j (by omega), ?_⟩
     have := h3 K (by omega)
     rw [HP.out, HQ.out] at this
     exact this
   case measure => simp [intOf]; omega
  ·obtain rfl : K = n := by omega
   have hfin : decide (xs = ys) = decide ((u : Int) = 0) := by
    have h3 : (xs = ys) ↔ (u : Int) = 0 := by
     rw [show ((u : Int) = 0) ↔ u = 0 by omega, HR.out]
     constructor
     ·intro h j _; rw [h]
     ·intro h
      exact eq_of_getD (by rw [HN.out, HM.out]) (fun i hi => h i (by rw [← HN.out]; exact hi))
    exact decide_eq_decide.2 h3
   have HF := hidd hfin
   clear hfin
   go_wp2_with fail
   go_ret
   rw [HF.out]
   exact ⟨rfl, HW⟩

theorem WEqual_any (w : World) (ha : Bs w A c xs) (hb : Bs w B d ys) (hn : xs.length = n) (hm : ys.length = m) :
  Calls Tryz.prog 68 #[.slice A n c, .slice B m d] w fun e w' => e = .returned (.bool (decide (xs = ys))) ∧ Below w.heap.size w w' := by
 by_cases h : n = m
 ·subst h; exact WEqual_same w ha hb hn hm
 ·refine (WEqual_len w h).mono fun e w' ⟨he, hw⟩ => ⟨?_, hw ▸ Below.refl _ _⟩
  rw [he, decide_eq_false (fun e => h (by rw [← hn, ← hm, e]))]
end Go.Proofs.YtkhbihnnkflfkaaGreat
