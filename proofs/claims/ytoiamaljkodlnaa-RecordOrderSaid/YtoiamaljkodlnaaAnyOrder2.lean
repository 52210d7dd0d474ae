/-
  Further steps of a region that draws its order: guards that are false, operations that are left out.
-/
import Derived.Test.YtoiamaljkodlnaaAnyOrder
namespace Go.Proofs.Ytoiamaljkodlnaa
open Go.RowKit
set_option maxRecDepth 100000
set_option linter.unusedVariables false
set_option linter.unusedSimpArgs false

section
variable {P : Program} {l : List Oper} {S : Nat → World → Value → Prop} {Q : Exit → Act → World → Prop} {n : Nat} {a0 : Act} {w0 : World}

theorem guard_val {g : Nat} {o : Oper} (b c : Bool) (d : Tmp) (hg : o.guard = some (g, b)) (hd : dstOf l g = some d) (he : o.after.any (fun e => Region.binds .any e && e.on == g) = true) (hS : ∀ w v, S g w v → v = .bool c)
    {a' : Act} {w' : World} (hD : ∀ e ∈ o.after, Region.binds .any e = true → ∀ d, dstOf l e.on = some d → S e.on w' (a'.eval (.tmp d))) : Region.wanted o (yielded l.toArray a'.tmps) = (c == b) := by
  obtain ⟨e, hem, heb⟩ := Array.any_eq_true'.1 he
  simp only [Bool.and_eq_true, beq_iff_eq] at heb
  have hv : a'.eval (.tmp d) = .bool c := hS _ _ (by have := hD e hem heb.1 d (by rw [heb.2]; exact hd); rw [heb.2] at this; exact this)
  have hy : yielded l.toArray a'.tmps g = some c := by
    have hv' : a'.tmps[d]? = some (.bool c) := by
      simp only [Act.eval] at hv
      cases hx : a'.tmps[d]? with
      | none => simp [hx, undef] at hv
      | some u => simp [hx] at hv; rw [hv]
    unfold yielded
    have : ((l.toArray[g]?).bind (·.dst)) = some d := by simpa [dstOf] using hd
    rw [this]
    simp [hv']
  simp [Region.wanted, hg, hy]

theorem step_guardF {i g : Nat} {o : Oper} (d : Tmp) (hg : o.guard = some (g, false)) (hd : dstOf l g = some d) (he : o.after.any (fun e => Region.binds .any e && e.on == g) = true) (hS : ∀ w v, S g w v → v = .bool false)
    (h : ∀ (a' : Act) (w' : World), Below w0.heap.size w0 w' → (∀ t, (∀ j, j < n → dstOf l j ≠ some t) → a'.eval (.tmp t) = a0.eval (.tmp t)) →
      (∀ e ∈ o.after, Region.binds .any e = true → ∀ d, dstOf l e.on = some d → S e.on w' (a'.eval (.tmp d))) → Outcome P S a' w' i o) : StepAny P l S Q n a0 w0 i o := by
  intro a' w' hb hO hD j hj K hK
  have hw := guard_val false false d hg hd he hS hD
  rw [hj] at hw
  rw [if_pos (by simpa using hw)]
  exact (h a' w' hb hO hD).wp hK

theorem step_skip_gen {i g : Nat} {o : Oper} (b : Bool) (d : Tmp) (hg : o.guard = some (g, b)) (hd : dstOf l g = some d) (he : o.after.any (fun e => Region.binds .any e && e.on == g) = true) (hS : ∀ w v, S g w v → v = .bool !b)
    (hi : ∀ w, S i w undef) : StepAny P l S Q n a0 w0 i o := by
  intro a' w' hb hO hD j hj K hK
  have hw := guard_val b (!b) d hg hd he hS hD
  rw [hj] at hw
  rw [if_neg (by cases b <;> simp_all)]
  exact hK undef w' (hi w') (Below.refl _ _)
theorem step_skip {i g : Nat} {o : Oper} (d : Tmp) (hg : o.guard = some (g, true)) (hd : dstOf l g = some d) (he : o.after.any (fun e => Region.binds .any e && e.on == g) = true) (hS : ∀ w v, S g w v → v = .bool false)
    (hi : ∀ w, S i w undef) : StepAny P l S Q n a0 w0 i o := step_skip_gen true d hg hd he hS hi
theorem step_skipF {i g : Nat} {o : Oper} (d : Tmp) (hg : o.guard = some (g, false)) (hd : dstOf l g = some d) (he : o.after.any (fun e => Region.binds .any e && e.on == g) = true) (hS : ∀ w v, S g w v → v = .bool true)
    (hi : ∀ w, S i w undef) : StepAny P l S Q n a0 w0 i o := step_skip_gen false d hg hd he hS hi
end

end Go.Proofs.Ytoiamaljkodlnaa
