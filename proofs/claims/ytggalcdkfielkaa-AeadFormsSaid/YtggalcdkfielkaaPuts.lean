/-
  The frame behind a region, by what was put.
-/
import Derived.Test.YtggalcdkfielkaaAnyM
namespace Go.Proofs.Ytggalcdkfielkaa
open Go.RowKit
set_option maxRecDepth 100000
set_option linter.unusedVariables false
set_option linter.unusedSimpArgs false

theorem dst_free {l : List Oper} {t : Tmp} (h : ((List.range l.length).all fun j => dstOf l j != some t) = true) : ∀ j, dstOf l j ≠ some t := fun j hj => by
  by_cases hjl : j < l.length
  · have := List.all_eq_true.1 h j (List.mem_range.2 hjl)
    simp [hj] at this
  · rw [dstOf, List.getElem?_eq_none (by omega)] at hj; cases hj

def puts (a : Act) : List (Tmp × Value) → Act
  | [] => a
  | (d, v) :: r => puts (a.put (some d) v) r

theorem puts_size (r : List (Tmp × Value)) : ∀ a : Act, (puts a r).tmps.size = a.tmps.size := by
  induction r with
  | nil => intro a; rfl
  | cons x r ih => intro a; obtain ⟨d, v⟩ := x; rw [puts, ih]; simp [Act.put]

theorem puts_defers (r : List (Tmp × Value)) : ∀ a : Act, (puts a r).defers = a.defers := by
  induction r with
  | nil => intro a; rfl
  | cons x r ih => intro a; obtain ⟨d, v⟩ := x; rw [puts, ih]; rfl

theorem puts_eval (g : Tmp → Value) (t : Tmp) : ∀ (ds : List Tmp) (a : Act), (∀ d ∈ ds, d < a.tmps.size) →
    (puts a (ds.map fun d => (d, g d))).eval (.tmp t) = if t ∈ ds then g t else a.eval (.tmp t) := by
  intro ds
  induction ds with
  | nil => intro a _; simp [puts]
  | cons d ds ih =>
    intro a h
    rw [List.map_cons, puts, ih _ (fun x hx => by simpa [Act.put] using h x (by simp [hx]))]
    by_cases h1 : t ∈ ds
    · rw [if_pos h1, if_pos (by simp [h1])]
    · rw [if_neg h1]
      by_cases h2 : d = t
      · subst h2
        rw [eval_put_same (h d (by simp)), if_pos (by simp)]
      · rw [eval_put_other h2, if_neg (by simp [h1]; exact fun e => h2 e.symm)]

theorem frame_puts {a0 a1 : Act} (ds : List Tmp) (hs : a1.tmps.size = a0.tmps.size) (hd : a1.defers = a0.defers) (h : ∀ t, t ∉ ds → a1.eval (.tmp t) = a0.eval (.tmp t)) (hlt : ∀ d ∈ ds, d < a0.tmps.size) :
    a1 = puts a0 (ds.map fun d => (d, a1.eval (.tmp d))) := by
  have H := fun t => puts_eval (fun d => a1.eval (.tmp d)) t ds a0 hlt
  have hsz := puts_size (ds.map fun d => (d, a1.eval (.tmp d))) a0
  have hdf := puts_defers (ds.map fun d => (d, a1.eval (.tmp d))) a0
  generalize puts a0 (ds.map fun d => (d, a1.eval (.tmp d))) = b at *
  obtain ⟨t1, d1⟩ := a1
  obtain ⟨t2, d2⟩ := b
  obtain ⟨t0, d0⟩ := a0
  simp only at hs hd hsz hdf
  subst hd
  subst hdf
  congr 1
  apply Array.ext
  · rw [hs, hsz]
  · intro i h1 h2
    have := H i
    simp only [Act.eval] at this h
    have e1 : t1.getD i undef = t1[i] := by simp [h1]
    have e2 : t2.getD i undef = t2[i] := by simp [h2]
    by_cases hi : i ∈ ds
    · rw [if_pos hi, e1, e2] at this
      exact this.symm
    · rw [if_neg hi, ← h i hi, e1, e2] at this
      exact this.symm

/-- The slots that a region's operations write. -/
def dstsOf (l : List Oper) : List Tmp := l.filterMap (·.dst)

theorem not_dsts {l : List Oper} {t : Tmp} (h : t ∉ dstsOf l) : ∀ j, dstOf l j ≠ some t := fun j hj => by
  refine h (List.mem_filterMap.2 ?_)
  unfold dstOf at hj
  cases ho : l[j]? with
  | none => rw [ho] at hj; cases hj
  | some o => rw [ho] at hj; exact ⟨o, List.mem_of_getElem? ho, hj⟩

theorem region_any2 {P : Program} {l : List Oper} {Q : Exit → Act → World → Prop} {a0 : Act} {w0 : World} {id : Nat} (n : Nat) (S : Nat → World → Value → Prop) (ds : List Tmp) (hn : (l.length == n) = true) (hds : dstsOf l = ds) (hm : P.follows .mixedOrders = true) (hd : dstsB l n a0.tmps.size = true) (ht : tailB l n = true)
    (hS : ∀ i w w' v, S i w v → Below w.heap.size w w' → S i w' v)
    (hstep : ∀ i o, i < n → l[i]? = some o → StepAny P l S Q n a0 w0 i o)
    (hend : ∀ (g : Tmp → Value) (w' : World), Below w0.heap.size w0 w' → (∀ i, i < n → ∀ d, dstOf l i = some d → S i w' (g d)) → Q .normal (puts a0 (ds.map fun d => (d, g d))) w') : (Code.region id l.toArray true).wp P Q a0 w0 := by
  have hn' : l.length = n := by simpa using hn
  refine region_any n S hm hd ht hS hstep (fun a w hb hsz hdf hO hV => ?_)
  have hdr : l.drop n = [] := by rw [← hn']; exact List.drop_length
  rw [hdr]
  have hlt : ∀ d ∈ ds, d < a0.tmps.size := by
    intro d hdm
    rw [← hds] at hdm
    obtain ⟨o, ho, hod⟩ := List.mem_filterMap.1 hdm
    obtain ⟨i, hi, rfl⟩ := List.mem_iff_getElem.1 ho
    have h1 := List.all_eq_true.1 hd i (List.mem_range.2 (by omega))
    have h2 : dstOf l i = some d := by simp [dstOf, hi, hod]
    rw [h2] at h1
    simp only [Bool.and_eq_true, decide_eq_true_eq] at h1
    exact h1.1
  have hfr := frame_puts ds hsz hdf (fun t htn => hO t (fun j _ => not_dsts (by rw [hds]; exact htn) j)) hlt
  refine wpList_nil ?_
  rw [hfr]
  exact hend (fun d => a.eval (.tmp d)) w hb hV

end Go.Proofs.Ytggalcdkfielkaa
