/-
  Aggregates (arrays, structs) whole: what a load and a store of them comes to, as lists of cells.
-/
import Derived.Test.YtggalcdkfielkaaRegM
import Derived.Laws.CopyRow
import Derived.ChangeKeysEq
namespace Go.Proofs.Ytggalcdkfielkaa
open Go.RowKit
set_option maxRecDepth 100000
set_option linter.unusedVariables false
set_option linter.unusedSimpArgs false

def aggDesc : TypeDesc → Bool
  | .struct _ => true
  | .array _ _ => true
  | _ => false
/-- An aggregate's type, of so many cells. -/
def IsAgg (t : TypeId) (n : Nat) : Prop := (Try.prog.underlying t).map aggDesc = some true ∧ (Try.prog.info? t).map (·.size) = some n

theorem agg_runs {t : TypeId} {n : Nat} (h : IsAgg t n) (w : World) : (isAgg t).run Try.prog w = .ok true w ∧ (sizeOf t).run Try.prog w = .ok n w := by
  obtain ⟨h1, h2⟩ := h
  constructor
  · cases hu : Try.prog.underlying t with
    | none => rw [hu] at h1; cases h1
    | some d =>
      rw [hu] at h1
      cases d <;> simp [aggDesc] at h1 <;> simp [isAgg, Sem.run_bind, run_underlying hu, Sem.run_pure]
  · cases hu : Try.prog.info? t with
    | none => rw [hu] at h2; cases h2
    | some i =>
      rw [hu] at h2
      have h3 : i.size = n := by simpa using h2
      have e : (typeInfo t).run Try.prog w = .ok i w := by simp [typeInfo, hu]
      simp only [sizeOf, Sem.run_bind, e, Result.andThen_ok, Sem.run_pure, h3]

theorem blk_setRow {w : World} {g : Nat} {cur cur' : Array Value} {T : TypeId} (h : Blk w g cur T) : Blk (w.setRow g cur') g cur' T := setRow_heap w g cur cur' T (0, 0) h

theorem chg_setRow {w : World} {g : Nat} {cur cur' : Array Value} {T : TypeId} (h : Blk w g cur T) : BelowX (fun k => k = g) w (w.setRow g cur') :=
  ⟨rfl, rfl, rfl, by simp [World.setRow], fun k hk hx => by
    have hx' : ¬ g = k := fun e => hx e.symm
    simp [World.setRow, Array.getElem?_modify, hx']⟩

end Go.Proofs.Ytggalcdkfielkaa
