/-
  No cell of these rows narrows 'for every input' (looked for: loops, veiled, ifaces, maps, wideKeys, modest, calm, conditions, laid).
  DERIVED. THE GIVEN ROWS OF THIS SEAT. 12 by the template 'for every input the law returns true; each argument reads behind the call as it read before'; 0 by the template 'total and deterministic' (their statements: YtdjdfmnjoilmkaaTotals.lean).
  GIVEN WITH THE SEED: the statements are not yours to turn. If you find one false, say at which input.
  Laid BY PROGRAM, IN A SANDBOX (cutbox-rows.mjs): the forced cells as the released guide's own fill.sh prints them over the translation f0f6ba942df8d7e4… (all of the seat's roots in one cut). By AI agents, Wed Nov 11 2026. No macro, syntax, notation, axiom, sorry.
-/
import Derived.Test.YtdjdfmnjoilmkaaChecked
import GoSem.Claim
import GoSem.ClaimJoined
import GoSem.ClaimMapViews
import Derived.JoinedTies
import Derived.KernelRfl
namespace Go.Proofs.Ytdjdfmnjoilmkaa
/- THE CELL 'sum', in the pinned program and in every row, IS THE sha256 OF THE DUMP (.gsa) THAT YtdjdfmnjoilmkaaProg.lean LOADS. Nothing in Lean hashes anything: it is a label: what it is worth is what the hold of that sum in a sandbox is worth. -/
noncomputable def Try.pinned : Pinned := { name := "ytdjdfmnjoilmkaa", sum := "f0f6ba942df8d7e408409aecb042b67f06fae11d0f38a3e2b72bf9ab147c4100", checked := Try.checked }
namespace Rows
def none {H : Type} : Left H := { results := [], args := [] }

/-- 'sapperlaw5.FieldSmall': WHATEVER THE INPUT: true; the input reads as it did. -/
def fieldSmallSpec : ChangeSpec := { name := "fieldSmall", fn := fun _ => fun
  | [d1, d2] => { results := [.lit (.bool true)], args := [d1, d2] }
  | _ => none }
def fieldSmallRow : OpenClaim := { program := "ytdjdfmnjoilmkaa", sum := "f0f6ba942df8d7e408409aecb042b67f06fae11d0f38a3e2b72bf9ab147c4100", func := "sapper/sapperlaw5.FieldSmall", spec := "fieldSmall", inPlace := ["math/bits.Add64"], apart := false }
def FieldSmallSaid : Prop := fieldSmallRow.holds Try.pinned (OpenSpec.ofChange fieldSmallSpec)

/-- ITS FALSE NEIGHBOUR: 'it returns false'. Refute it at one input. -/
def fieldSmallWrong : ChangeSpec := { name := "fieldSmall", fn := fun _ => fun
  | [d1, d2] => { results := [.lit (.bool false)], args := [d1, d2] }
  | _ => none }
def FieldSmallWrongFalsely : Prop := fieldSmallRow.holds Try.pinned (OpenSpec.ofChange fieldSmallWrong)

/-- 'sapperlaw5.FieldBytes': WHATEVER THE INPUT: true; the input reads as it did. -/
def fieldBytesSpec : ChangeSpec := { name := "fieldBytes", fn := fun _ => fun
  | [d] => { results := [.lit (.bool true)], args := [d] }
  | _ => none }
def fieldBytesRow : OpenClaim := { program := "ytdjdfmnjoilmkaa", sum := "f0f6ba942df8d7e408409aecb042b67f06fae11d0f38a3e2b72bf9ab147c4100", func := "sapper/sapperlaw5.FieldBytes", spec := "fieldBytes", inPlace := ["math/bits.Add64"], apart := false }
def FieldBytesSaid : Prop := fieldBytesRow.holds Try.pinned (OpenSpec.ofChange fieldBytesSpec)

/-- ITS FALSE NEIGHBOUR: 'it returns false'. Refute it at one input. -/
def fieldBytesWrong : ChangeSpec := { name := "fieldBytes", fn := fun _ => fun
  | [d] => { results := [.lit (.bool false)], args := [d] }
  | _ => none }
def FieldBytesWrongFalsely : Prop := fieldBytesRow.holds Try.pinned (OpenSpec.ofChange fieldBytesWrong)

/-- 'sapperlaw5.FieldTurn': WHATEVER THE INPUT: true; the input reads as it did. -/
def fieldTurnSpec : ChangeSpec := { name := "fieldTurn", fn := fun _ => fun
  | [d1, d2] => { results := [.lit (.bool true)], args := [d1, d2] }
  | _ => none }
def fieldTurnRow : OpenClaim := { program := "ytdjdfmnjoilmkaa", sum := "f0f6ba942df8d7e408409aecb042b67f06fae11d0f38a3e2b72bf9ab147c4100", func := "sapper/sapperlaw5.FieldTurn", spec := "fieldTurn", inPlace := ["math/bits.Add64"], apart := false }
def FieldTurnSaid : Prop := fieldTurnRow.holds Try.pinned (OpenSpec.ofChange fieldTurnSpec)

/-- ITS FALSE NEIGHBOUR: 'it returns false'. Refute it at one input. -/
def fieldTurnWrong : ChangeSpec := { name := "fieldTurn", fn := fun _ => fun
  | [d1, d2] => { results := [.lit (.bool false)], args := [d1, d2] }
  | _ => none }
def FieldTurnWrongFalsely : Prop := fieldTurnRow.holds Try.pinned (OpenSpec.ofChange fieldTurnWrong)

/-- 'sapperlaw5.FieldMany': WHATEVER THE INPUT: true; the input reads as it did. -/
def fieldManySpec : ChangeSpec := { name := "fieldMany", fn := fun _ => fun
  | [d1, d2] => { results := [.lit (.bool true)], args := [d1, d2] }
  | _ => none }
def fieldManyRow : OpenClaim := { program := "ytdjdfmnjoilmkaa", sum := "f0f6ba942df8d7e408409aecb042b67f06fae11d0f38a3e2b72bf9ab147c4100", func := "sapper/sapperlaw5.FieldMany", spec := "fieldMany", inPlace := ["math/bits.Add64"], apart := false }
def FieldManySaid : Prop := fieldManyRow.holds Try.pinned (OpenSpec.ofChange fieldManySpec)

/-- ITS FALSE NEIGHBOUR: 'it returns false'. Refute it at one input. -/
def fieldManyWrong : ChangeSpec := { name := "fieldMany", fn := fun _ => fun
  | [d1, d2] => { results := [.lit (.bool false)], args := [d1, d2] }
  | _ => none }
def FieldManyWrongFalsely : Prop := fieldManyRow.holds Try.pinned (OpenSpec.ofChange fieldManyWrong)

/-- 'sapperlaw5.FieldSquares': WHATEVER THE INPUT: true; the input reads as it did. -/
def fieldSquaresSpec : ChangeSpec := { name := "fieldSquares", fn := fun _ => fun
  | [d1, d2] => { results := [.lit (.bool true)], args := [d1, d2] }
  | _ => none }
def fieldSquaresRow : OpenClaim := { program := "ytdjdfmnjoilmkaa", sum := "f0f6ba942df8d7e408409aecb042b67f06fae11d0f38a3e2b72bf9ab147c4100", func := "sapper/sapperlaw5.FieldSquares", spec := "fieldSquares", inPlace := ["math/bits.Add64"], apart := false }
def FieldSquaresSaid : Prop := fieldSquaresRow.holds Try.pinned (OpenSpec.ofChange fieldSquaresSpec)

/-- ITS FALSE NEIGHBOUR: 'it returns false'. Refute it at one input. -/
def fieldSquaresWrong : ChangeSpec := { name := "fieldSquares", fn := fun _ => fun
  | [d1, d2] => { results := [.lit (.bool false)], args := [d1, d2] }
  | _ => none }
def FieldSquaresWrongFalsely : Prop := fieldSquaresRow.holds Try.pinned (OpenSpec.ofChange fieldSquaresWrong)

/-- 'sapperlaw5.FieldForms': WHATEVER THE INPUT: true; the input reads as it did. -/
def fieldFormsSpec : ChangeSpec := { name := "fieldForms", fn := fun _ => fun
  | [d1, d2, d3] => { results := [.lit (.bool true)], args := [d1, d2, d3] }
  | _ => none }
def fieldFormsRow : OpenClaim := { program := "ytdjdfmnjoilmkaa", sum := "f0f6ba942df8d7e408409aecb042b67f06fae11d0f38a3e2b72bf9ab147c4100", func := "sapper/sapperlaw5.FieldForms", spec := "fieldForms", inPlace := ["math/bits.Add64"], apart := false }
def FieldFormsSaid : Prop := fieldFormsRow.holds Try.pinned (OpenSpec.ofChange fieldFormsSpec)

/-- ITS FALSE NEIGHBOUR: 'it returns false'. Refute it at one input. -/
def fieldFormsWrong : ChangeSpec := { name := "fieldForms", fn := fun _ => fun
  | [d1, d2, d3] => { results := [.lit (.bool false)], args := [d1, d2, d3] }
  | _ => none }
def FieldFormsWrongFalsely : Prop := fieldFormsRow.holds Try.pinned (OpenSpec.ofChange fieldFormsWrong)

/-- 'sapperlaw5.FieldLaws': WHATEVER THE INPUT: true; the input reads as it did. -/
def fieldLawsSpec : ChangeSpec := { name := "fieldLaws", fn := fun _ => fun
  | [d1, d2, d3] => { results := [.lit (.bool true)], args := [d1, d2, d3] }
  | _ => none }
def fieldLawsRow : OpenClaim := { program := "ytdjdfmnjoilmkaa", sum := "f0f6ba942df8d7e408409aecb042b67f06fae11d0f38a3e2b72bf9ab147c4100", func := "sapper/sapperlaw5.FieldLaws", spec := "fieldLaws", inPlace := ["math/bits.Add64"], apart := false }
def FieldLawsSaid : Prop := fieldLawsRow.holds Try.pinned (OpenSpec.ofChange fieldLawsSpec)

/-- ITS FALSE NEIGHBOUR: 'it returns false'. Refute it at one input. -/
def fieldLawsWrong : ChangeSpec := { name := "fieldLaws", fn := fun _ => fun
  | [d1, d2, d3] => { results := [.lit (.bool false)], args := [d1, d2, d3] }
  | _ => none }
def FieldLawsWrongFalsely : Prop := fieldLawsRow.holds Try.pinned (OpenSpec.ofChange fieldLawsWrong)

/-- 'sapperlaw6.CurveWeak': WHATEVER THE INPUT: true; the input reads as it did. -/
def curveWeakSpec : ChangeSpec := { name := "curveWeak", fn := fun _ => fun
  | [d1, d2] => { results := [.lit (.bool true)], args := [d1, d2] }
  | _ => none }
def curveWeakRow : OpenClaim := { program := "ytdjdfmnjoilmkaa", sum := "f0f6ba942df8d7e408409aecb042b67f06fae11d0f38a3e2b72bf9ab147c4100", func := "sapper/sapperlaw6.CurveWeak", spec := "curveWeak", inPlace := ["math/bits.Add64"], apart := false }
def CurveWeakSaid : Prop := curveWeakRow.holds Try.pinned (OpenSpec.ofChange curveWeakSpec)

/-- ITS FALSE NEIGHBOUR: 'it returns false'. Refute it at one input. -/
def curveWeakWrong : ChangeSpec := { name := "curveWeak", fn := fun _ => fun
  | [d1, d2] => { results := [.lit (.bool false)], args := [d1, d2] }
  | _ => none }
def CurveWeakWrongFalsely : Prop := curveWeakRow.holds Try.pinned (OpenSpec.ofChange curveWeakWrong)

/-- 'sapperlaw6.CurveClamps': WHATEVER THE INPUT: true; the input reads as it did. -/
def curveClampsSpec : ChangeSpec := { name := "curveClamps", fn := fun _ => fun
  | [d] => { results := [.lit (.bool true)], args := [d] }
  | _ => none }
def curveClampsRow : OpenClaim := { program := "ytdjdfmnjoilmkaa", sum := "f0f6ba942df8d7e408409aecb042b67f06fae11d0f38a3e2b72bf9ab147c4100", func := "sapper/sapperlaw6.CurveClamps", spec := "curveClamps", inPlace := ["math/bits.Add64"], apart := false }
def CurveClampsSaid : Prop := curveClampsRow.holds Try.pinned (OpenSpec.ofChange curveClampsSpec)

/-- ITS FALSE NEIGHBOUR: 'it returns false'. Refute it at one input. -/
def curveClampsWrong : ChangeSpec := { name := "curveClamps", fn := fun _ => fun
  | [d] => { results := [.lit (.bool false)], args := [d] }
  | _ => none }
def CurveClampsWrongFalsely : Prop := curveClampsRow.holds Try.pinned (OpenSpec.ofChange curveClampsWrong)

/-- 'sapperlaw6.CurveForms': WHATEVER THE INPUT: true; the input reads as it did. -/
def curveFormsSpec : ChangeSpec := { name := "curveForms", fn := fun _ => fun
  | [d1, d2] => { results := [.lit (.bool true)], args := [d1, d2] }
  | _ => none }
def curveFormsRow : OpenClaim := { program := "ytdjdfmnjoilmkaa", sum := "f0f6ba942df8d7e408409aecb042b67f06fae11d0f38a3e2b72bf9ab147c4100", func := "sapper/sapperlaw6.CurveForms", spec := "curveForms", inPlace := ["math/bits.Add64"], apart := false }
def CurveFormsSaid : Prop := curveFormsRow.holds Try.pinned (OpenSpec.ofChange curveFormsSpec)

/-- ITS FALSE NEIGHBOUR: 'it returns false'. Refute it at one input. -/
def curveFormsWrong : ChangeSpec := { name := "curveForms", fn := fun _ => fun
  | [d1, d2] => { results := [.lit (.bool false)], args := [d1, d2] }
  | _ => none }
def CurveFormsWrongFalsely : Prop := curveFormsRow.holds Try.pinned (OpenSpec.ofChange curveFormsWrong)

/-- 'sapperlaw6.CurveMeets': WHATEVER THE INPUT: true; the input reads as it did. -/
def curveMeetsSpec : ChangeSpec := { name := "curveMeets", fn := fun _ => fun
  | [d1, d2] => { results := [.lit (.bool true)], args := [d1, d2] }
  | _ => none }
def curveMeetsRow : OpenClaim := { program := "ytdjdfmnjoilmkaa", sum := "f0f6ba942df8d7e408409aecb042b67f06fae11d0f38a3e2b72bf9ab147c4100", func := "sapper/sapperlaw6.CurveMeets", spec := "curveMeets", inPlace := ["math/bits.Add64"], apart := false }
def CurveMeetsSaid : Prop := curveMeetsRow.holds Try.pinned (OpenSpec.ofChange curveMeetsSpec)

/-- ITS FALSE NEIGHBOUR: 'it returns false'. Refute it at one input. -/
def curveMeetsWrong : ChangeSpec := { name := "curveMeets", fn := fun _ => fun
  | [d1, d2] => { results := [.lit (.bool false)], args := [d1, d2] }
  | _ => none }
def CurveMeetsWrongFalsely : Prop := curveMeetsRow.holds Try.pinned (OpenSpec.ofChange curveMeetsWrong)

/-- 'sapperlaw6.CurveThree': WHATEVER THE INPUT: true; the input reads as it did. -/
def curveThreeSpec : ChangeSpec := { name := "curveThree", fn := fun _ => fun
  | [d1, d2, d3] => { results := [.lit (.bool true)], args := [d1, d2, d3] }
  | _ => none }
def curveThreeRow : OpenClaim := { program := "ytdjdfmnjoilmkaa", sum := "f0f6ba942df8d7e408409aecb042b67f06fae11d0f38a3e2b72bf9ab147c4100", func := "sapper/sapperlaw6.CurveThree", spec := "curveThree", inPlace := ["math/bits.Add64"], apart := false }
def CurveThreeSaid : Prop := curveThreeRow.holds Try.pinned (OpenSpec.ofChange curveThreeSpec)

/-- ITS FALSE NEIGHBOUR: 'it returns false'. Refute it at one input. -/
def curveThreeWrong : ChangeSpec := { name := "curveThree", fn := fun _ => fun
  | [d1, d2, d3] => { results := [.lit (.bool false)], args := [d1, d2, d3] }
  | _ => none }
def CurveThreeWrongFalsely : Prop := curveThreeRow.holds Try.pinned (OpenSpec.ofChange curveThreeWrong)

/- THE SECOND FORM. 'bulk': how many values and letters a reading holds, each counted each time it is reached (what is shared counts as often as it is met; a slice's spare places count too). A statement '..UptoSaid' is the law's where the arguments, and the package variables that the reading takes, are together of bulk at most 1048576: NARROWER than '..Said'. Prove '..Said' where nothing that the law and all that it calls make is longer than what came in: it says more and counts as full. Else prove '..UptoSaid'. A law counts once. -/
mutual
def uptoBulk {H : Type} : DataW H → Nat
  | .lit (.string bytes) => bytes.length + 1
  | .lit _ => 1
  | .nil => 1
  | .ptr d => uptoBulk d + 1
  | .slice elems spare => uptoBulkAll elems + uptoBulkAll spare + 1
  | .agg parts => uptoBulkAll parts + 1
  | .iface _ d => uptoBulk d + 1
  | .map entries => uptoBulkEntries entries + 1
  | .held _ => 1
def uptoBulkAll {H : Type} : List (DataW H) → Nat
  | [] => 0
  | d :: r => uptoBulk d + uptoBulkAll r
def uptoBulkEntries {H : Type} : List (Lit × DataW H) → Nat
  | [] => 0
  | x :: r => uptoBulkEntry x + uptoBulkEntries r
def uptoBulkEntry {H : Type} : Lit × DataW H → Nat
  | (.string bytes, d) => bytes.length + uptoBulk d + 1
  | (_, d) => uptoBulk d + 1
 end
def uptoSmall : (H : Type) → List (DataW H) → Bool := fun _ ds => decide (uptoBulkAll ds ≤ 1048576)
def OpenSpec.upto (s : _root_.Go.ChangeSpec) : _root_.Go.OpenSpec := { _root_.Go.OpenSpec.ofChange s with cond := some uptoSmall }

/-- 'sapperlaw5.FieldSmall', WHERE WHAT IT READS IS OF BULK AT MOST 1048576: true; the input reads as it did. -/
def fieldSmallUptoRow : OpenClaim := { program := "ytdjdfmnjoilmkaa", sum := "f0f6ba942df8d7e408409aecb042b67f06fae11d0f38a3e2b72bf9ab147c4100", func := "sapper/sapperlaw5.FieldSmall", spec := "fieldSmall", inPlace := ["math/bits.Add64"], apart := false, narrowed := true }
def FieldSmallUptoSaid : Prop := fieldSmallUptoRow.holds Try.pinned (OpenSpec.upto fieldSmallSpec)

/-- 'sapperlaw5.FieldBytes', WHERE WHAT IT READS IS OF BULK AT MOST 1048576: true; the input reads as it did. -/
def fieldBytesUptoRow : OpenClaim := { program := "ytdjdfmnjoilmkaa", sum := "f0f6ba942df8d7e408409aecb042b67f06fae11d0f38a3e2b72bf9ab147c4100", func := "sapper/sapperlaw5.FieldBytes", spec := "fieldBytes", inPlace := ["math/bits.Add64"], apart := false, narrowed := true }
def FieldBytesUptoSaid : Prop := fieldBytesUptoRow.holds Try.pinned (OpenSpec.upto fieldBytesSpec)

/-- 'sapperlaw5.FieldTurn', WHERE WHAT IT READS IS OF BULK AT MOST 1048576: true; the input reads as it did. -/
def fieldTurnUptoRow : OpenClaim := { program := "ytdjdfmnjoilmkaa", sum := "f0f6ba942df8d7e408409aecb042b67f06fae11d0f38a3e2b72bf9ab147c4100", func := "sapper/sapperlaw5.FieldTurn", spec := "fieldTurn", inPlace := ["math/bits.Add64"], apart := false, narrowed := true }
def FieldTurnUptoSaid : Prop := fieldTurnUptoRow.holds Try.pinned (OpenSpec.upto fieldTurnSpec)

/-- 'sapperlaw5.FieldMany', WHERE WHAT IT READS IS OF BULK AT MOST 1048576: true; the input reads as it did. -/
def fieldManyUptoRow : OpenClaim := { program := "ytdjdfmnjoilmkaa", sum := "f0f6ba942df8d7e408409aecb042b67f06fae11d0f38a3e2b72bf9ab147c4100", func := "sapper/sapperlaw5.FieldMany", spec := "fieldMany", inPlace := ["math/bits.Add64"], apart := false, narrowed := true }
def FieldManyUptoSaid : Prop := fieldManyUptoRow.holds Try.pinned (OpenSpec.upto fieldManySpec)

/-- 'sapperlaw5.FieldSquares', WHERE WHAT IT READS IS OF BULK AT MOST 1048576: true; the input reads as it did. -/
def fieldSquaresUptoRow : OpenClaim := { program := "ytdjdfmnjoilmkaa", sum := "f0f6ba942df8d7e408409aecb042b67f06fae11d0f38a3e2b72bf9ab147c4100", func := "sapper/sapperlaw5.FieldSquares", spec := "fieldSquares", inPlace := ["math/bits.Add64"], apart := false, narrowed := true }
def FieldSquaresUptoSaid : Prop := fieldSquaresUptoRow.holds Try.pinned (OpenSpec.upto fieldSquaresSpec)

/-- 'sapperlaw5.FieldForms', WHERE WHAT IT READS IS OF BULK AT MOST 1048576: true; the input reads as it did. -/
def fieldFormsUptoRow : OpenClaim := { program := "ytdjdfmnjoilmkaa", sum := "f0f6ba942df8d7e408409aecb042b67f06fae11d0f38a3e2b72bf9ab147c4100", func := "sapper/sapperlaw5.FieldForms", spec := "fieldForms", inPlace := ["math/bits.Add64"], apart := false, narrowed := true }
def FieldFormsUptoSaid : Prop := fieldFormsUptoRow.holds Try.pinned (OpenSpec.upto fieldFormsSpec)

/-- 'sapperlaw5.FieldLaws', WHERE WHAT IT READS IS OF BULK AT MOST 1048576: true; the input reads as it did. -/
def fieldLawsUptoRow : OpenClaim := { program := "ytdjdfmnjoilmkaa", sum := "f0f6ba942df8d7e408409aecb042b67f06fae11d0f38a3e2b72bf9ab147c4100", func := "sapper/sapperlaw5.FieldLaws", spec := "fieldLaws", inPlace := ["math/bits.Add64"], apart := false, narrowed := true }
def FieldLawsUptoSaid : Prop := fieldLawsUptoRow.holds Try.pinned (OpenSpec.upto fieldLawsSpec)

/-- 'sapperlaw6.CurveWeak', WHERE WHAT IT READS IS OF BULK AT MOST 1048576: true; the input reads as it did. -/
def curveWeakUptoRow : OpenClaim := { program := "ytdjdfmnjoilmkaa", sum := "f0f6ba942df8d7e408409aecb042b67f06fae11d0f38a3e2b72bf9ab147c4100", func := "sapper/sapperlaw6.CurveWeak", spec := "curveWeak", inPlace := ["math/bits.Add64"], apart := false, narrowed := true }
def CurveWeakUptoSaid : Prop := curveWeakUptoRow.holds Try.pinned (OpenSpec.upto curveWeakSpec)

/-- 'sapperlaw6.CurveClamps', WHERE WHAT IT READS IS OF BULK AT MOST 1048576: true; the input reads as it did. -/
def curveClampsUptoRow : OpenClaim := { program := "ytdjdfmnjoilmkaa", sum := "f0f6ba942df8d7e408409aecb042b67f06fae11d0f38a3e2b72bf9ab147c4100", func := "sapper/sapperlaw6.CurveClamps", spec := "curveClamps", inPlace := ["math/bits.Add64"], apart := false, narrowed := true }
def CurveClampsUptoSaid : Prop := curveClampsUptoRow.holds Try.pinned (OpenSpec.upto curveClampsSpec)

/-- 'sapperlaw6.CurveForms', WHERE WHAT IT READS IS OF BULK AT MOST 1048576: true; the input reads as it did. -/
def curveFormsUptoRow : OpenClaim := { program := "ytdjdfmnjoilmkaa", sum := "f0f6ba942df8d7e408409aecb042b67f06fae11d0f38a3e2b72bf9ab147c4100", func := "sapper/sapperlaw6.CurveForms", spec := "curveForms", inPlace := ["math/bits.Add64"], apart := false, narrowed := true }
def CurveFormsUptoSaid : Prop := curveFormsUptoRow.holds Try.pinned (OpenSpec.upto curveFormsSpec)

/-- 'sapperlaw6.CurveMeets', WHERE WHAT IT READS IS OF BULK AT MOST 1048576: true; the input reads as it did. -/
def curveMeetsUptoRow : OpenClaim := { program := "ytdjdfmnjoilmkaa", sum := "f0f6ba942df8d7e408409aecb042b67f06fae11d0f38a3e2b72bf9ab147c4100", func := "sapper/sapperlaw6.CurveMeets", spec := "curveMeets", inPlace := ["math/bits.Add64"], apart := false, narrowed := true }
def CurveMeetsUptoSaid : Prop := curveMeetsUptoRow.holds Try.pinned (OpenSpec.upto curveMeetsSpec)

/-- 'sapperlaw6.CurveThree', WHERE WHAT IT READS IS OF BULK AT MOST 1048576: true; the input reads as it did. -/
def curveThreeUptoRow : OpenClaim := { program := "ytdjdfmnjoilmkaa", sum := "f0f6ba942df8d7e408409aecb042b67f06fae11d0f38a3e2b72bf9ab147c4100", func := "sapper/sapperlaw6.CurveThree", spec := "curveThree", inPlace := ["math/bits.Add64"], apart := false, narrowed := true }
def CurveThreeUptoSaid : Prop := curveThreeUptoRow.holds Try.pinned (OpenSpec.upto curveThreeSpec)

end Rows
end Go.Proofs.Ytdjdfmnjoilmkaa
