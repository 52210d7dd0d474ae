/-
  region_hot, with the frame behind it by puts.
-/
import Derived.Test.YtoiamaljkodlnaaRegionHot
namespace Go.Proofs.Ytoiamaljkodlnaa
open Go.RowKit
set_option maxRecDepth 100000
set_option linter.unusedVariables false
set_option linter.unusedSimpArgs false

theorem region_hotV {P : Program} {l : List Oper} {Q : Exit → Act → World → Prop} {a0 : Act} {w0 : World} {id : Nat} (n : Nat) (kd : Nat → HK) (S : Nat → World → Value → Prop) (H : (Nat → Bool) → World → Prop) (X : Nat → Prop) (ds : List Tmp)
    (hds : dstsOf (l.take n) = ds) (hm : P.follows .mixedOrders = true) (hd : dstsB2 l kd n a0.tmps.size = true) (ht : tailB2 l n = true) (hlt : (ds.all fun d => decide (d < a0.tmps.size)) = true)
    (hS : ∀ i w w' v, S i w v → BelowX X w w' → S i w' v)
    (hHb : ∀ L w w', H L w → Below w.heap.size w w' → H L w')
    (hHv : ∀ L i w, kd i ≠ .hot → H L w → H (fun k => L k || k == i) w)
    (hfr : ∀ i w v, kd i = .fresh → S i w v → ∃ g, v = .pointer (some ⟨g, 0, none⟩) ∧ g < w.heap.size)
    (h0 : H (fun _ => false) w0)
    (hstep : ∀ i o, i < n → l[i]? = some o → StepHot P l kd S H X Q n a0 w0 i o)
    (hend : ∀ (L : Nat → Bool) (g : Tmp → Value) (w' : World), BelowX X w0 w' → (∀ i, i < n → kd i ≠ .hot → ∀ d, dstOf l i = some d → S i w' (g d)) → (∀ i, i < n → L i = true) → H L w' →
      (∀ i j d d', i < n → j < n → kd i = .fresh → kd j = .fresh → i ≠ j → dstOf l i = some d → dstOf l j = some d' → g d ≠ g d') → wpList P l.toArray Q (l.drop n) (puts a0 (ds.map fun d => (d, g d))) w') :
    (Code.region id l.toArray true).wp P Q a0 w0 := by
  refine region_hot n kd S H X hm hd ht hS hHb hHv hfr h0 hstep (fun L a w hb hsz hdf hO hV hall hH hap => ?_)
  have hfree : ∀ t, t ∉ ds → ∀ j, j < n → dstOf l j ≠ some t := by
    intro t htn j hj e
    refine htn ?_
    rw [← hds]
    unfold dstOf at e
    cases ho : l[j]? with
    | none => rw [ho] at e; cases e
    | some o =>
      rw [ho] at e
      exact List.mem_filterMap.2 ⟨o, List.mem_of_getElem? (i := j) (by rw [List.getElem?_take, if_pos hj]; exact ho), e⟩
  have hfr := frame_puts ds hsz hdf (fun t htn => hO t (hfree t htn)) (fun d hd => by simpa using List.all_eq_true.1 hlt d hd)
  rw [hfr]
  exact hend L (fun d => a.eval (.tmp d)) w hb hV hall hH hap

/-- The loads and so on as outcomes. -/
theorem out_of {P : Program} {S : Nat → World → Value → Prop} {a : Act} {w : World} {i : Nat} {o : Oper} {v : Value} (h : (execOp a.eval o).run P w = .ok (.value v) w) (hS : S i w v) : Outcome P S a w i o :=
  .inl ⟨v, w, h, hS, Below.refl _ _⟩

theorem out_ex {P : Program} {S : Nat → World → Value → Prop} {a : Act} {w : World} {i : Nat} {o : Oper} {R : Value → Prop} (h : ∃ v, (execOp a.eval o).run P w = .ok (.value v) w ∧ R v) (k : ∀ v, R v → S i w v) : Outcome P S a w i o := by
  obtain ⟨v, hr, hR⟩ := h
  exact .inl ⟨v, w, hr, k v hR, Below.refl _ _⟩

theorem fresh_ex {P : Program} {S : Nat → World → Value → Prop} {a : Act} {w : World} {i : Nat} {o : Oper} {R : Obj → Prop} (h : ∃ ob, (execOp a.eval o).run P w = .ok (.value (.pointer (some ⟨w.heap.size, 0, none⟩))) (w.alloc ob) ∧ R ob) (k : ∀ ob, R ob → S i (w.alloc ob) (.pointer (some ⟨w.heap.size, 0, none⟩))) :
    ∃ ob, (execOp a.eval o).run P w = .ok (.value (.pointer (some ⟨w.heap.size, 0, none⟩))) (w.alloc ob) ∧ S i (w.alloc ob) (.pointer (some ⟨w.heap.size, 0, none⟩)) := by
  obtain ⟨ob, hr, hR⟩ := h
  exact ⟨ob, hr, k ob hR⟩

theorem hot_ex {P : Program} {a : Act} {w : World} {o : Oper} {X : Nat → Prop} {R H : World → Prop} (h : ∃ w', (execOp a.eval o).run P w = .ok .skip w' ∧ R w' ∧ BelowX X w w') (k : ∀ w', R w' → H w') : ∃ w', (execOp a.eval o).run P w = .ok .skip w' ∧ BelowX X w w' ∧ H w' := by
  obtain ⟨w', hr, hR, hb⟩ := h
  exact ⟨w', hr, hb, k w' hR⟩

theorem ptr_ne {g g' : Nat} (h : Value.pointer (some ⟨g, 0, none⟩) ≠ Value.pointer (some ⟨g', 0, none⟩)) : g ≠ g' := fun e => h (by rw [e])

theorem tail_val {ops : Array Oper} {Q : Exit → Act → World → Prop} {o : Oper} {rest : List Oper} {a : Act} {w : World} {v : Value} (hg : o.guard = none) (hr : (execOp a.eval o).run Try.prog w = .ok (.value v) w) (h : wpList Try.prog ops Q rest (a.put o.dst v) w) : wpList Try.prog ops Q (o :: rest) a w := by
  refine wpList_plain hg (fun K hK => ?_)
  unfold Oper.wp
  rw [hr]
  exact hK _ _ h

end Go.Proofs.Ytoiamaljkodlnaa
