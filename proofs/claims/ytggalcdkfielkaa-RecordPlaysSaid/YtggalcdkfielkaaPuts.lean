/-
  The frame behind a region, by what was put.
-/
import Derived.Test.YtggalcdkfielkaaAnyM
namespace Go.Proofs.Ytggalcdkfielkaa
open Go.RowKit
set_option maxRecDepth 100000
set_option linter.unusedVariables false
set_option linter.unusedSimpArgs false

def puts (a : Act) : List (Tmp × Value) → Act
  | [] => a
  | (d, v) :: r => puts (a.put (some d) v) r

/-- The slots that a region's operations write. -/
def dstsOf (l : List Oper) : List Tmp := l.filterMap (·.dst)

end Go.Proofs.Ytggalcdkfielkaa
