/-
  region_mem, with its steps one by one; and the frame behind a region, by what was put.
-/
import Derived.Test.YtdjdfmnjoilmkaaRegionMem2
namespace Go.Proofs.Ytdjdfmnjoilmkaa
open Go.RowKit

theorem dst_free {l : List Oper} {t : Tmp} (h : ((List.range l.length).all fun j => dstOf l j != some t) = true) : ∀ j, dstOf l j ≠ some t := fun j hj => by
  by_cases hjl : j < l.length
  · have := List.all_eq_true.1 h j (List.mem_range.2 hjl)
    simp [hj] at this
  · rw [dstOf, List.getElem?_eq_none (by omega)] at hj; cases hj

def StepMem (l : List Oper) (kd : Nat → RK) (S : Nat → Value → Prop) (a0 : Act) (w0 : World) (i : Nat) (o : Oper) : Prop :=
  o.guard = none ∧ ∀ (a : Act) (w : World), Below w0.heap.size w0 w → (∀ t, (∀ j, dstOf l j ≠ some t) → a.eval (.tmp t) = a0.eval (.tmp t)) →
    (∀ e ∈ o.after, Region.binds .any e = true → ∀ d, dstOf l e.on = some d → kd e.on = .val → S e.on (a.eval (.tmp d))) → Outcome Try.prog (fun i _ v => S i v) a w i o

def MemSteps (l : List Oper) (kd : Nat → RK) (S : Nat → Value → Prop) (a0 : Act) (w0 : World) : Nat → List Oper → Prop
  | _, [] => True
  | k, o :: r => (kd k = .val → StepMem l kd S a0 w0 k o) ∧ MemSteps l kd S a0 w0 (k + 1) r

theorem memsteps_get {l : List Oper} {kd : Nat → RK} {S : Nat → Value → Prop} {a0 : Act} {w0 : World} : ∀ (r : List Oper) (k : Nat), MemSteps l kd S a0 w0 k r → ∀ i o, r[i]? = some o → kd (k + i) = .val → StepMem l kd S a0 w0 (k + i) o
  | [], _, _, i, o, h => by simp at h
  | x :: r, k, h, 0, o, ho => by simp at ho; subst ho; exact h.1
  | x :: r, k, h, i + 1, o, ho => by
    have := memsteps_get r (k + 1) h.2 i o (by simpa using ho)
    rwa [Nat.add_assoc, Nat.add_comm 1 i] at this

def puts (a : Act) : List (Tmp × Value) → Act
  | [] => a
  | (d, v) :: r => puts (a.put (some d) v) r

theorem puts_size (r : List (Tmp × Value)) : ∀ a : Act, (puts a r).tmps.size = a.tmps.size := by
  induction r with
  | nil => intro a; rfl
  | cons x r ih => intro a; obtain ⟨d, v⟩ := x; rw [puts, ih]; simp [Act.put]
theorem puts_defers (r : List (Tmp × Value)) : ∀ a : Act, (puts a r).defers = a.defers := by
  induction r with
  | nil => intro a; rfl
  | cons x r ih => intro a; obtain ⟨d, v⟩ := x; rw [puts, ih]; rfl
theorem puts_eval (g : Tmp → Value) (t : Tmp) : ∀ (ds : List Tmp) (a : Act), (∀ d ∈ ds, d < a.tmps.size) →
    (puts a (ds.map fun d => (d, g d))).eval (.tmp t) = if t ∈ ds then g t else a.eval (.tmp t) := by
  intro ds
  induction ds with
  | nil => intro a _; simp [puts]
  | cons d ds ih =>
    intro a h
    rw [List.map_cons, puts, ih _ (fun x hx => by simpa [Act.put] using h x (by simp [hx]))]
    by_cases h1 : t ∈ ds
    · rw [if_pos h1, if_pos (by simp [h1])]
    · rw [if_neg h1]
      by_cases h2 : d = t
      · subst h2
        rw [eval_put_same (h d (by simp)), if_pos (by simp)]
      · rw [eval_put_other h2, if_neg (by simp [h1]; exact fun e => h2 e.symm)]

theorem frame_puts {a0 a1 : Act} (ds : List Tmp) (hs : a1.tmps.size = a0.tmps.size) (hd : a1.defers = a0.defers) (h : ∀ t, t ∉ ds → a1.eval (.tmp t) = a0.eval (.tmp t)) (hlt : ∀ d ∈ ds, d < a0.tmps.size) :
    a1 = puts a0 (ds.map fun d => (d, a1.eval (.tmp d))) := by
  have H := fun t => puts_eval (fun d => a1.eval (.tmp d)) t ds a0 hlt
  have hsz := puts_size (ds.map fun d => (d, a1.eval (.tmp d))) a0
  have hdf := puts_defers (ds.map fun d => (d, a1.eval (.tmp d))) a0
  generalize puts a0 (ds.map fun d => (d, a1.eval (.tmp d))) = b at *
  obtain ⟨t1, d1⟩ := a1
  obtain ⟨t2, d2⟩ := b
  obtain ⟨t0, d0⟩ := a0
  simp only at hs hd hsz hdf
  subst hd
  subst hdf
  congr 1
  apply Array.ext
  · rw [hs, hsz]
  · intro i h1 h2
    have := H i
    simp only [Act.eval] at this h
    have e1 : t1.getD i undef = t1[i] := by simp [h1]
    have e2 : t2.getD i undef = t2[i] := by simp [h2]
    by_cases hi : i ∈ ds
    · rw [if_pos hi, e1, e2] at this
      exact this.symm
    · rw [if_neg hi, ← h i hi, e1, e2] at this
      exact this.symm

/-- The slots that a region's operations write. -/
def dstsOf (l : List Oper) : List Tmp := l.filterMap (·.dst)
theorem not_dsts {l : List Oper} {t : Tmp} (h : t ∉ dstsOf l) : ∀ j, dstOf l j ≠ some t := fun j hj => by
  refine h (List.mem_filterMap.2 ?_)
  unfold dstOf at hj
  cases ho : l[j]? with
  | none => rw [ho] at hj; cases hj
  | some o => rw [ho] at hj; exact ⟨o, List.mem_of_getElem? ho, hj⟩

theorem region_mem3 {l : List Oper} {Q : Exit → Act → World → Prop} {a0 : Act} {w0 : World} {id : Nat} (kd : Nat → RK) (S : Nat → Value → Prop) (ds : List Tmp) (hds : dstsOf l = ds) (hm : Try.prog.follows .mixedOrders = true) (hk : kindsB l kd a0.tmps.size = true)
    (hlt : (ds.all fun d => decide (d < a0.tmps.size)) = true)
    (hstep : MemSteps l kd S a0 w0 0 l)
    (hS : ∀ t k m x, kd t = .into k m x → ∀ v, S m v → ElV x v)
    (hend : ∀ (g : Tmp → Value) (w : World), Below w0.heap.size w0 w → (∀ i d, kd i = .val → i < l.length → dstOf l i = some d → S i (g d)) →
      (∀ t k m x d, kd t = .into k m x → t < l.length → dstOf l k = some d → ∃ b cur, g d = .pointer (some ⟨b, 0, none⟩) ∧ w0.heap.size ≤ b ∧ Blk w b cur 26 ∧ ElC x cur) → Q .normal (puts a0 (ds.map fun d => (d, g d))) w) :
    (Code.region id l.toArray true).wp Try.prog Q a0 w0 := by
  refine region_mem kd S hm hk (fun i o ho hi a w hb hO hD j hj K hK => ?_) hS (fun a w hb hsz hdf hO hV hM => ?_)
  · have hst := memsteps_get l 0 hstep i o ho (by simpa using hi)
    rw [Nat.zero_add] at hst
    have hw : j = true := by rw [← hj]; simp [Region.wanted, hst.1]
    rw [if_pos hw]
    exact (hst.2 a w hb hO hD).wp hK
  · have hfr := frame_puts ds hsz hdf (fun t ht => hO t (not_dsts (by rw [hds]; exact ht))) (fun d hd => by simpa using List.all_eq_true.1 hlt d hd)
    rw [hfr]
    exact hend (fun d => a.eval (.tmp d)) w hb hV hM

end Go.Proofs.Ytdjdfmnjoilmkaa
