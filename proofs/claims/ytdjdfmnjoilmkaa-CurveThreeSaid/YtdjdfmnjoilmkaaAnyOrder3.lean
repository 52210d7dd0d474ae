/-
  region_any for a region all of whose operations are of that kind, with the frame behind it written by puts.
-/
import Derived.Test.YtdjdfmnjoilmkaaRegionMem3
import Derived.Test.YtdjdfmnjoilmkaaAnyOrder2
import Derived.Test.YtdjdfmnjoilmkaaInvV
namespace Go.Proofs.Ytdjdfmnjoilmkaa
open Go.RowKit
set_option linter.unusedVariables false
set_option linter.unusedSimpArgs false

theorem region_any2 {P : Program} {l : List Oper} {Q : Exit → Act → World → Prop} {a0 : Act} {w0 : World} {id : Nat} (n : Nat) (S : Nat → World → Value → Prop) (ds : List Tmp) (hn : (l.length == n) = true) (hds : dstsOf l = ds) (hm : P.follows .mixedOrders = true) (hd : dstsB l n a0.tmps.size = true) (ht : tailB l n = true)
    (hS : ∀ i w w' v, S i w v → Below w.heap.size w w' → S i w' v)
    (hstep : ∀ i o, i < n → l[i]? = some o → StepAny P l S Q n a0 w0 i o)
    (hend : ∀ (g : Tmp → Value) (w' : World), Below w0.heap.size w0 w' → (∀ i, i < n → ∀ d, dstOf l i = some d → S i w' (g d)) → Q .normal (puts a0 (ds.map fun d => (d, g d))) w') : (Code.region id l.toArray true).wp P Q a0 w0 := by
  have hn' : l.length = n := by simpa using hn
  refine region_any n S hm hd ht hS hstep (fun a w hb hsz hdf hO hV => ?_)
  have hdr : l.drop n = [] := by rw [← hn']; exact List.drop_length
  rw [hdr]
  have hlt : ∀ d ∈ ds, d < a0.tmps.size := by
    intro d hdm
    rw [← hds] at hdm
    obtain ⟨o, ho, hod⟩ := List.mem_filterMap.1 hdm
    obtain ⟨i, hi, rfl⟩ := List.mem_iff_getElem.1 ho
    have h1 := List.all_eq_true.1 hd i (List.mem_range.2 (by omega))
    have h2 : dstOf l i = some d := by simp [dstOf, hi, hod]
    rw [h2] at h1
    simp only [Bool.and_eq_true, decide_eq_true_eq] at h1
    exact h1.1
  have hfr := frame_puts ds hsz hdf (fun t htn => hO t (fun j _ => not_dsts (by rw [hds]; exact htn) j)) hlt
  refine wpList_nil ?_
  rw [hfr]
  exact hend (fun d => a.eval (.tmp d)) w hb hV

theorem zero_case : (0 : F) * fi 0 ≠ toF 1 := by
  rw [fi_zero, toF_one]
  intro h
  exact one_ne_zero (by rw [← h]; grind)
end Go.Proofs.Ytdjdfmnjoilmkaa
