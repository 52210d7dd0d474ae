/-
 The frame behind a region, by what was put.
-/
import Derived.Test.YtkhbihnnkflfkaaGreatAnyM
namespace Go.Proofs.YtkhbihnnkflfkaaGreat
open Go.RowKit
set_option maxRecDepth 100000
set_option linter.unusedVariables false
set_option linter.unusedSimpArgs false

variable {l : List Oper} {t : Tmp} {a0 : Act}
def puts (a : Act) : List (Tmp × Value) → Act
 | [] => a
 | (d, v) :: r => puts (a.put (some d) v) r

theorem puts_size (r : List (Tmp × Value)) : ∀ a : Act, (puts a r).tmps.size = a.tmps.size := by
 induction r with
 | nil => intro a; rfl
 | cons x r ih => intro a; obtain ⟨d, v⟩ := x; rw [puts, ih]; simp [Act.put]

theorem puts_defers (r : List (Tmp × Value)) : ∀ a : Act, (puts a r).defers = a.defers := by
 induction r with
 | nil => intro a; rfl
 | cons x r ih => intro a; obtain ⟨d, v⟩ := x; rw [puts, ih]; rfl

theorem puts_eval (g : Tmp → Value) (t : Tmp) : ∀ (ds : List Tmp) (a : Act), (∀ d ∈ ds, d < a.tmps.size) →
  (puts a (ds.map fun d => (d, g d))).eval (.tmp t) = if t ∈ ds then g t else a.eval (.tmp t) := by
 intro ds
 induction ds with
 | nil => intro a _; simp [puts]
 | cons d ds ih =>
  intro a h
  rw [List.map_cons, puts, ih _ (fun x hx => by simpa [Act.put] using h x (by simp [hx]))]
  by_cases h1 : t ∈ ds
  ·rw [if_pos h1, if_pos (by simp [h1])]
  ·rw [if_neg h1]
   by_cases h2 : d = t
   ·subst h2
    rw [eval_put_same (h d (by simp)), if_pos (by simp)]
   ·rw [eval_put_other h2, if_neg (by simp [h1]; exact fun e => h2 e.symm)]

theorem frame_puts {a1 : Act} (ds : List Tmp) (hs : a1.tmps.size = a0.tmps.size) (hd : a1.defers = a0.defers) (h : ∀ t, t ∉ ds → a1.eval (.tmp t) = a0.eval (.tmp t)) (hlt : ∀ d ∈ ds, d < a0.tmps.size) :
  a1 = puts a0 (ds.map fun d => (d, a1.eval (.tmp d))) := by
 have H := fun t => puts_eval (fun d => a1.eval (.tmp d)) t ds a0 hlt
 have hsz := puts_size (ds.map fun d => (d, a1.eval (.tmp d))) a0
 have hdf := puts_defers (ds.map fun d => (d, a1.eval (.tmp d))) a0
 generalize puts a0 (ds.map fun d => (d, a1.eval (.tmp d))) = b at *
 obtain ⟨t1, d1⟩ := a1
 obtain ⟨t2, d2⟩ := b
 obtain ⟨t0, d0⟩ := a0
 simp only at hs hd hsz hdf
 subst hd
 subst hdf
 congr 1
 apply Array.ext
 ·rw [hs, hsz]
 ·intro i h1 h2
  have := H i
  simp only [Act.eval] at this h
  have e1 : t1.getD i undef = t1[i] := by simp [h1]
  have e2 : t2.getD i undef = t2[i] := by simp [h2]
  by_cases hi : i ∈ ds
  ·rw [if_pos hi, e1, e2] at this
   exact this.symm
  ·rw [if_neg hi, ← h i hi, e1, e2] at this
   exact this.symm

def dstsOf (l : List Oper) : List Tmp := l.filterMap (·.dst)

end Go.Proofs.YtkhbihnnkflfkaaGreat
