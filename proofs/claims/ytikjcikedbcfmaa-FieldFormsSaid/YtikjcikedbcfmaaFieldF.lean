/-
  WALKS: package field: Same.
-/
import Derived.Test.YtikjcikedbcfmaaFieldE
import Derived.Test.YtikjcikedbcfmaaEqual
import Derived.Test.YtikjcikedbcfmaaAnyM
namespace Go.Proofs.Ytikjcikedbcfmaa
open Go.RowKit
set_option maxRecDepth 100000

/-- The 32 bytes of a number, low first. -/
def byteL (N : Nat) : List Nat := (List.range 32).map (byteOf N 255)

theorem byteL_length (N : Nat) : (byteL N).length = 32 := by simp [byteL]

theorem Bs_byteA {w : World} {g N : Nat} (h : Blk w g (byteA N 255) 5) : Bs w (some ⟨g, 0, none⟩) 32 (byteL N) := by
  refine ⟨by simp [byteL], by unfold maxLen; omega, fun x hx => ?_, .inr ⟨g, 0, rfl, fun i hi => ?_⟩⟩
  · obtain ⟨j, _, rfl⟩ := List.mem_map.1 hx
    exact byteOf_lt _ _ _
  · have hi' : i < 32 := by simpa [byteL] using hi
    have := (h.cell i).trans (byteA_get N 255 i hi')
    rw [Nat.zero_add]
    simpa [byteL, hi'] using this

theorem byteL_inj {N M : Nat} (hN : N < 2 ^ 255) (hM : M < 2 ^ 255) (h : byteL N = byteL M) : N = M := by
  have hb : ∀ j, j < 32 → byteOf N 255 j = byteOf M 255 j := fun j hj => by
    have := congrArg (fun l => l[j]?) h
    simpa [byteL, hj] using this
  apply Nat.eq_of_testBit_eq
  intro i
  by_cases hi : i < 255
  · have h1 := congrArg (fun n => n.testBit (i % 8)) (hb (i / 8) (by omega))
    simp only [byteOf_testBit] at h1
    have e : 8 * (i / 8) + i % 8 = i := by omega
    rw [e] at h1
    have h8 : i % 8 < 8 := by omega
    simpa [hi, h8] using h1
  · have hp : (2 : Nat) ^ 255 ≤ 2 ^ i := Nat.pow_le_pow_right (by omega) (by omega)
    rw [Nat.testBit_lt_two_pow (by omega), Nat.testBit_lt_two_pow (by omega)]

theorem F.lt255 (x : F) : x.val < 2 ^ 255 := by have := x.isLt; simp only [P] at this; omega

theorem byteL_F (x y : F) : (byteL x.val = byteL y.val) = (x = y) := by
  apply propext
  constructor
  · intro h; exact Fin.ext (byteL_inj x.lt255 y.lt255 h)
  · intro h; rw [h]

theorem exec_load_elem {o : Oper} {a : Act} {w : World} {x : Operand} {g : Nat} {a0 a1 a2 a3 a4 : Int} (ho : o.op = .load 27 x) (hx : a.eval x = .pointer (some ⟨g, 0, none⟩))
    (hB : Blk w g #[.int .u64 a0, .int .u64 a1, .int .u64 a2, .int .u64 a3, .int .u64 a4] 27) : (execOp a.eval o).run Try.prog w = .ok (.value (.agg #[.int .u64 a0, .int .u64 a1, .int .u64 a2, .int .u64 a3, .int .u64 a4])) w := by
  have hc := hB.cell
  generalize a.eval = ev at hx ⊢
  simp [execOp, ho, hx, go_sem, hc]

def SameS (x y : F) (a0 a1 a2 a3 a4 b0 b1 b2 b3 b4 : Int) : Nat → World → Value → Prop
  | 0, _, v => v = .agg #[.int .u64 a0, .int .u64 a1, .int .u64 a2, .int .u64 a3, .int .u64 a4]
  | 1, w, v => ∃ g, v = .slice (some ⟨g, 0, none⟩) 32 32 ∧ Blk w g (byteA x.val 255) 5
  | 2, _, v => v = .agg #[.int .u64 b0, .int .u64 b1, .int .u64 b2, .int .u64 b3, .int .u64 b4]
  | 3, w, v => ∃ g, v = .slice (some ⟨g, 0, none⟩) 32 32 ∧ Blk w g (byteA y.val 255) 5
  | _, _, v => v = .bool (decide (x = y))

set_option maxHeartbeats 1000000 in
theorem Same_any {x y : F} {a0 a1 a2 a3 a4 b0 b1 b2 b3 b4 : Int} (ha : El x a0 a1 a2 a3 a4) (hb : El y b0 b1 b2 b3 b4) (w : World) :
    Calls Try.prog 20 #[.agg #[.int .u64 a0, .int .u64 a1, .int .u64 a2, .int .u64 a3, .int .u64 a4], .agg #[.int .u64 b0, .int .u64 b1, .int .u64 b2, .int .u64 b3, .int .u64 b4]] w fun e w' =>
      e = .returned (.bool (decide (x = y))) ∧ Below w.heap.size w w' := by
  go_enter Try.func20, Try.ntmps20
  go_wp2_with fail
  refine region_any 6 (SameS x y a0 a1 a2 a3 a4 b0 b1 b2 b3 b4) (by kernel_rfl) (by kernel_rfl) (by kernel_rfl) ?_ (steps_all ?_) ?_
  · intro i w w' v h hb
    match i with
    | 0 => exact h
    | 1 => obtain ⟨g, hv, hB⟩ := h; exact ⟨g, hv, hB.old hb⟩
    | 2 => exact h
    | 3 => obtain ⟨g, hv, hB⟩ := h; exact ⟨g, hv, hB.old hb⟩
    | _ + 4 => exact h
  · simp only [List.take_succ_cons, List.take_zero, StepsFrom]
    refine ⟨?_, ?_, ?_, ?_, ?_, ?_, trivial⟩
    · refine step_plain rfl (fun a' w' hb' hO _ => .inl ⟨_, _, exec_load_elem rfl ((hO 2 (by decide)).trans rfl) (hb'.blk (cur := #[.int .u64 a0, .int .u64 a1, .int .u64 a2, .int .u64 a3, .int .u64 a4]) ?_ ?_), rfl, Below.refl _ _⟩)
      · exact (Blk.new w _ _).alloc _
      · simp; omega
    · refine step_plain rfl (fun a' w' hb' hO hD => ?_)
      have h0 : a'.eval (.tmp 5) = .agg #[.int .u64 a0, .int .u64 a1, .int .u64 a2, .int .u64 a3, .int .u64 a4] := hD ⟨0, .data⟩ (by simp) rfl 5 rfl
      exact .inr ⟨_, #[.agg #[.int .u64 a0, .int .u64 a1, .int .u64 a2, .int .u64 a3, .int .u64 a4]], exec_call Try.func30 (by kernel_rfl) (by kernel_rfl) _ rfl _ _ (by simp [h0]), Calls.mono (Bytes_any ha _) (fun e w2 ⟨g, he, _, hB, hbl⟩ => ⟨_, he, ⟨g, rfl, hB⟩, hbl⟩)⟩
    · refine step_plain rfl (fun a' w' hb' hO _ => .inl ⟨_, _, exec_load_elem rfl ((hO 3 (by decide)).trans rfl) (hb'.blk (cur := #[.int .u64 b0, .int .u64 b1, .int .u64 b2, .int .u64 b3, .int .u64 b4]) ?_ ?_), rfl, Below.refl _ _⟩)
      · exact Blk.at _ _ (by simp)
      · simp
    · refine step_plain rfl (fun a' w' hb' hO hD => ?_)
      have h0 : a'.eval (.tmp 7) = .agg #[.int .u64 b0, .int .u64 b1, .int .u64 b2, .int .u64 b3, .int .u64 b4] := hD ⟨2, .data⟩ (by simp) rfl 7 rfl
      exact .inr ⟨_, #[.agg #[.int .u64 b0, .int .u64 b1, .int .u64 b2, .int .u64 b3, .int .u64 b4]], exec_call Try.func30 (by kernel_rfl) (by kernel_rfl) _ rfl _ _ (by simp [h0]), Calls.mono (Bytes_any hb _) (fun e w2 ⟨g, he, _, hB, hbl⟩ => ⟨_, he, ⟨g, rfl, hB⟩, hbl⟩)⟩
    · refine step_plain rfl (fun a' w' hb' hO hD => ?_)
      obtain ⟨g1, h0, B1⟩ : ∃ g, a'.eval (.tmp 6) = .slice (some ⟨g, 0, none⟩) 32 32 ∧ Blk w' g (byteA x.val 255) 5 := hD ⟨1, .data⟩ (by simp) rfl 6 rfl
      obtain ⟨g2, h1, B2⟩ : ∃ g, a'.eval (.tmp 8) = .slice (some ⟨g, 0, none⟩) 32 32 ∧ Blk w' g (byteA y.val 255) 5 := hD ⟨3, .data⟩ (by simp) rfl 8 rfl
      have H := Equal_any w' (Bs_byteA B1) (Bs_byteA B2)
      rw [byteL_length, byteL_length] at H
      simp only [byteL_F] at H
      exact .inr ⟨_, #[.slice (some ⟨g1, 0, none⟩) 32 32, .slice (some ⟨g2, 0, none⟩) 32 32], exec_call Try.func37 (by kernel_rfl) (by kernel_rfl) _ rfl _ _ (by simp [h0, h1]), Calls.mono H (fun e w2 ⟨he, hbl⟩ => ⟨_, he, rfl, hbl⟩)⟩
    · refine step_plain rfl (fun a' w' hb' hO hD => .inl ⟨a'.eval (.tmp 9), _, rfl, ?_, Below.refl _ _⟩)
      exact hD ⟨4, .data⟩ (by simp) rfl 9 rfl
  · intro a' w' hb' hsz hdf hO hV
    obtain ⟨⟨tm⟩, df⟩ := a'
    match tm, hsz with
    | [x0, x1, x2, x3, x4, x5, x6, x7, x8, x9], _ =>
      have h4 : x4 = .bool (decide (x = y)) := hV 5 (by omega) 4 rfl
      have hdf' : df = [] := hdf
      subst h4
      subst hdf'
      have HB : Below w.heap.size w w' := (((Below.refl _ _).alloc (Nat.le_refl _) _).alloc (by simp) _).trans (hb'.mono (by simp; omega))
      clear hO hV hb' hdf
      show Exit.then _ _ .normal _ _
      go_wp2_with fail
      go_ret
      exact ⟨rfl, HB⟩

end Go.Proofs.Ytikjcikedbcfmaa
