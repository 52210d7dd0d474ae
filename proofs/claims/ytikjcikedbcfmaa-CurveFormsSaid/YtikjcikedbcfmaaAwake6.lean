/-
  WALKS: sapperlaw6.awake.
-/
import Derived.Test.YtikjcikedbcfmaaHexM
import Derived.Test.YtikjcikedbcfmaaRmM
import Derived.Test.YtikjcikedbcfmaaRow
namespace Go.Proofs.Ytikjcikedbcfmaa
open Go.RowKit
set_option linter.unusedVariables false
set_option linter.unusedSimpArgs false
set_option maxRecDepth 100000
set_option linter.constructorNameAsVariable false

theorem Hex_V (s : ByteArray) (m : Nat) (w : World) (hs : s.size = 2 * m) (hm : m ≤ 1000) : Calls Try.prog 39 #[.string s] w fun e w' => ∃ r, e = .returned r ∧ BsV (hexL s.data.toList m) w' r ∧ Below w.heap.size w w' :=
  (hex_any s m w hs hm).mono fun e w' ⟨A, c, he, ho, hb⟩ => ⟨_, he, ⟨A, c, by rw [hexL_length], ho.bs⟩, hb⟩

def aw6S  : Nat → World → Value → Prop
  | 0, w, v => v = .int .i64 (0)
  | 1, w, v => v = .bool (true)
  | 2, w, v => v = .bool (true)
  | 3, w, v => BsV (hexL vecR.data.toList 32) w v
  | 4, w, v => v = .string (strB (hexL vecR.data.toList 32))
  | 5, w, v => BsV (hexL vecR.data.toList 32) w v
  | 6, w, v => v = .string (strB (hexL vecR.data.toList 32))
  | 7, w, v => v = .bool (true)
  | 8, w, v => v = .bool (true)
  | 9, w, v => v = .bool (true)
  | _, _, _ => True

set_option maxHeartbeats 4000000 in
theorem awake6_any (w : World) : Calls Try.prog 22 #[] w fun e w' => e = .returned (.bool true) ∧ Below w.heap.size w w' := by
  go_enter Try.func22, Try.ntmps22
  go_wp2_with fail
  refine Calls.mono (hex_any vecK 32 _ (by decide +kernel) (by omega)) ?_
  rintro e w1 ⟨A1, c1, rfl, ho1, hb1⟩
  dsimp only
  go_wp2_with fail
  refine Calls.mono (hex_any vecU 32 _ (by decide +kernel) (by omega)) ?_
  rintro e w2 ⟨A2, c2, rfl, ho2, hb2⟩
  dsimp only
  go_wp2_with fail
  refine Calls.mono (Mult_any _ (ho1.bs.below hb2) ho2.bs (hexL_length _ _) (hexL_length _ _)) ?_
  rintro e w3 ⟨hp, hb3⟩
  have HB : Below w.heap.size w w3 := below_from (below_from hb1 hb2) hb3
  unfold MultPost at hp
  rw [if_neg vec_ne] at hp
  obtain ⟨A3, c3, rfl, ho3⟩ := hp
  rw [vec_bytes] at ho3
  clear ho1 ho2 hb1 hb2 hb3
  dsimp only
  go_wp2_with fail
  refine region_any 10 (fun i w v => aw6S  i w v) (by kernel_rfl) (by kernel_rfl) (by kernel_rfl) (fun i w w' v h hb => by revert h; unfold aw6S; split <;> first | exact id | exact fun h => h.old hb) (steps_all ?_) ?_
  · simp only [List.take_succ_cons, List.take_zero, StepsFrom]
    refine ⟨?_, ?_, ?_, ?_, ?_, ?_, ?_, ?_, ?_, ?_, trivial⟩
    · refine step_plain rfl (fun a' w' hb' hO hD => ?_)
      have h0 : a'.eval (.tmp 2) = .int .i64 (0) := (hO 2 (by decide)).trans rfl
      exact .inl ⟨a'.eval (.tmp 2), _, rfl, h0, Below.refl _ _⟩
    · refine step_plain rfl (fun a' w' hb' hO hD => ?_)
      have h0 : a'.eval (.tmp 9) = .int .i64 (0) := hD ⟨0, .data⟩ (by simp) rfl 9 rfl
      have hk2 : a'.eval (.const (Value.int IntKind.i64 (0))) = .int .i64 (0) := rfl
      exact .inl ⟨.bool true, _, by (generalize a'.eval = ev at *; simp [execOp, go_sem, h0, hk2]), rfl, Below.refl _ _⟩
    · refine step_plain rfl (fun a' w' hb' hO hD => ?_)
      have h0 : a'.eval (.tmp 10) = .bool (true) := hD ⟨1, .data⟩ (by simp) rfl 10 rfl
      exact .inl ⟨a'.eval (.tmp 10), _, rfl, h0, Below.refl _ _⟩
    · refine step_guard 11 rfl rfl (by kernel_rfl) (fun _ _ h => h) (fun a' w' hb' hO hD => ?_)
      have h0 : BsV (hexL vecR.data.toList 32) w' (a'.eval (.tmp 1)) := ⟨_, _, (hO 1 (by decide)).trans rfl, (ho3.bs).below hb'⟩
      exact .inl ⟨a'.eval (.tmp 1), _, rfl, h0, Below.refl _ _⟩
    · refine step_guard 11 rfl rfl (by kernel_rfl) (fun _ _ h => h) (fun a' w' hb' hO hD => ?_)
      have h0 : BsV (hexL vecR.data.toList 32) w' (a'.eval (.tmp 12)) := hD ⟨3, .data⟩ (by simp) rfl 12 rfl
      obtain ⟨A4, c4, e4, B4⟩ := h0
      exact .inl ⟨_, _, exec_str rfl e4 rfl B4, rfl, Below.refl _ _⟩
    · refine step_guard 11 rfl rfl (by kernel_rfl) (fun _ _ h => h) (fun a' w' hb' hO hD => ?_)
      exact .inr ⟨_, #[.string vecR], exec_call Try.func39 (by kernel_rfl) (by kernel_rfl) _ rfl _ _ (by simp [Act.eval] <;> rfl), Hex_V vecR 32 _ (by decide +kernel) (by omega)⟩
    · refine step_guard 11 rfl rfl (by kernel_rfl) (fun _ _ h => h) (fun a' w' hb' hO hD => ?_)
      have h0 : BsV (hexL vecR.data.toList 32) w' (a'.eval (.tmp 14)) := hD ⟨5, .data⟩ (by simp) rfl 14 rfl
      obtain ⟨A6, c6, e6, B6⟩ := h0
      exact .inl ⟨_, _, exec_str rfl e6 rfl B6, rfl, Below.refl _ _⟩
    · refine step_guard 11 rfl rfl (by kernel_rfl) (fun _ _ h => h) (fun a' w' hb' hO hD => ?_)
      have h0 : a'.eval (.tmp 13) = .string (strB (hexL vecR.data.toList 32)) := hD ⟨4, .data⟩ (by simp) rfl 13 rfl
      have h1 : a'.eval (.tmp 15) = .string (strB (hexL vecR.data.toList 32)) := hD ⟨6, .data⟩ (by simp) rfl 15 rfl
      exact .inl ⟨.bool true, _, by (generalize a'.eval = ev at *; simp [execOp, go_sem, h0, h1]; ), rfl, Below.refl _ _⟩
    · refine step_plain rfl (fun a' w' hb' hO hD => ?_)
      have h0 : a'.eval (.tmp 11) = .bool (true) := hD ⟨2, .data⟩ (by simp) rfl 11 rfl
      have h1 : a'.eval (.tmp 16) = .bool (true) := hD ⟨7, .data⟩ (by simp) rfl 16 rfl
      exact .inl ⟨.bool (true), _, by (generalize a'.eval = ev at *; simp [execOp, go_sem, h0, h1]), rfl, Below.refl _ _⟩
    · refine step_plain rfl (fun a' w' hb' hO hD => ?_)
      have h0 : a'.eval (.tmp 17) = .bool (true) := hD ⟨8, .data⟩ (by simp) rfl 17 rfl
      exact .inl ⟨a'.eval (.tmp 17), _, rfl, h0, Below.refl _ _⟩
  · intro a' w' hb' hsz hdf hO hV
    have h4 : a'.tmps.getD 0 undef = .bool true := hV 9 (by omega) 0 rfl
    have hdf' : a'.defers = [] := hdf
    have HB2 : Below w.heap.size w w' := HB.trans (hb'.mono HB.size)
    clear hO hV hb' hdf
    show Exit.then _ _ .normal _ _
    go_wp2_with fail
    exact bodyPost_ret (v := .bool true) (by simp only [Array.getD_eq_getD_getElem?] at h4; simp [results, Try.results22, go_sem, h4]) hdf' ⟨rfl, HB2⟩

theorem awake6_V (w : World) : Calls Try.prog 22 #[] w fun e w' => ∃ r, e = .returned r ∧ r = .bool true ∧ Below w.heap.size w w' :=
  (awake6_any w).mono fun e w' ⟨he, hB⟩ => ⟨_, he, rfl, hB⟩
end Go.Proofs.Ytikjcikedbcfmaa
