/-
  No cell of these rows narrows 'for every input' (looked for: loops, veiled, ifaces, maps, wideKeys, modest, calm, conditions, laid).
  DERIVED. THE GIVEN ROWS OF THIS SEAT. 3 by the template 'for every input the law returns true; each argument reads behind the call as it read before'; 0 by the template 'total and deterministic' (their statements: YtodhdajelnfhpaaGreatTotals.lean).
  GIVEN WITH THE SEED: the statements are not yours to turn. If you find one false, say at which input.
  Laid BY PROGRAM, IN A SANDBOX (cutbox-rows.mjs): the forced cells as the released guide's own fill.sh prints them over the translation d6d2da94f5690e71… (all of the seat's roots in one cut). By AI agents, Wed Nov 11 2026. No macro, syntax, notation, axiom, sorry.
-/
import Derived.Test.YtodhdajelnfhpaaGreatChecked
import GoSem.Claim
import GoSem.ClaimJoined
import GoSem.ClaimMapViews
import Derived.JoinedTies
import Derived.KernelRfl
namespace Go.Proofs.YtodhdajelnfhpaaGreat
/- THE CELL 'sum', in the pinned program and in every row, IS THE sha256 OF THE DUMP (.gsa) THAT YtodhdajelnfhpaaGreatProg.lean LOADS. Nothing in Lean hashes anything: it is a label: what it is worth is what the hold of that sum in a sandbox is worth. -/
noncomputable def Tryz.pinned : Pinned := { name := "ytodhdajelnfhpaagreat", sum := "d6d2da94f5690e712a340fe53c3855296f7651a133e008f3c1e0ec3c95330fb1", checked := Tryz.checked }
namespace Rows
def none {H : Type} : Left H := { results := [], args := [] }

/-- 'sapperlaw23.ClientDial': WHATEVER THE INPUT: true; the input reads as it did. -/
def clientDialSpec : ChangeSpec := { name := "clientDial", fn := fun _ => fun
  | [d1, d2, d3] => { results := [.lit (.bool true)], args := [d1, d2, d3] }
  | _ => none }
def clientDialRow : OpenClaim := { program := "ytodhdajelnfhpaagreat", sum := "d6d2da94f5690e712a340fe53c3855296f7651a133e008f3c1e0ec3c95330fb1", func := "sapper/sapperlaw23.ClientDial", spec := "clientDial", inPlace := ["math/bits.Add64"], unfollowed := true, recurses := true, apart := false }
def ClientDialSaid : Prop := clientDialRow.holds Tryz.pinned (OpenSpec.ofChange clientDialSpec)

/-- ITS FALSE NEIGHBOUR: 'it returns false'. Refute it at one input. -/
def clientDialWrong : ChangeSpec := { name := "clientDial", fn := fun _ => fun
  | [d1, d2, d3] => { results := [.lit (.bool false)], args := [d1, d2, d3] }
  | _ => none }
def ClientDialWrongFalsely : Prop := clientDialRow.holds Tryz.pinned (OpenSpec.ofChange clientDialWrong)

/-- 'sapperlaw23.ClientIdle': WHATEVER THE INPUT: true; the input reads as it did. -/
def clientIdleSpec : ChangeSpec := { name := "clientIdle", fn := fun _ => fun
  | [d1, d2] => { results := [.lit (.bool true)], args := [d1, d2] }
  | _ => none }
def clientIdleRow : OpenClaim := { program := "ytodhdajelnfhpaagreat", sum := "d6d2da94f5690e712a340fe53c3855296f7651a133e008f3c1e0ec3c95330fb1", func := "sapper/sapperlaw23.ClientIdle", spec := "clientIdle", inPlace := ["math/bits.Add64"], unfollowed := true, recurses := true, apart := false }
def ClientIdleSaid : Prop := clientIdleRow.holds Tryz.pinned (OpenSpec.ofChange clientIdleSpec)

/-- ITS FALSE NEIGHBOUR: 'it returns false'. Refute it at one input. -/
def clientIdleWrong : ChangeSpec := { name := "clientIdle", fn := fun _ => fun
  | [d1, d2] => { results := [.lit (.bool false)], args := [d1, d2] }
  | _ => none }
def ClientIdleWrongFalsely : Prop := clientIdleRow.holds Tryz.pinned (OpenSpec.ofChange clientIdleWrong)

/-- 'sapperlaw23.ClientNil': WHATEVER THE INPUT: true; the input reads as it did. -/
def clientNilSpec : ChangeSpec := { name := "clientNil", fn := fun _ => fun
  | [d] => { results := [.lit (.bool true)], args := [d] }
  | _ => none }
def clientNilRow : OpenClaim := { program := "ytodhdajelnfhpaagreat", sum := "d6d2da94f5690e712a340fe53c3855296f7651a133e008f3c1e0ec3c95330fb1", func := "sapper/sapperlaw23.ClientNil", spec := "clientNil", inPlace := ["math/bits.Add64"], unfollowed := true, recurses := true, apart := false }
def ClientNilSaid : Prop := clientNilRow.holds Tryz.pinned (OpenSpec.ofChange clientNilSpec)

/-- ITS FALSE NEIGHBOUR: 'it returns false'. Refute it at one input. -/
def clientNilWrong : ChangeSpec := { name := "clientNil", fn := fun _ => fun
  | [d] => { results := [.lit (.bool false)], args := [d] }
  | _ => none }
def ClientNilWrongFalsely : Prop := clientNilRow.holds Tryz.pinned (OpenSpec.ofChange clientNilWrong)

/- THE SECOND FORM. 'bulk': how many values and letters a reading holds, each counted each time it is reached (what is shared counts as often as it is met; a slice's spare places count too). A statement '..UptoSaid' is the law's where the arguments, and the package variables that the reading takes, are together of bulk at most 1048576: NARROWER than '..Said'. Prove '..Said' where nothing that the law and all that it calls make is longer than what came in: it says more and counts as full. Else prove '..UptoSaid'. A law counts once. -/
mutual
def uptoBulk {H : Type} : DataW H → Nat
  | .lit (.string bytes) => bytes.length + 1
  | .lit _ => 1
  | .nil => 1
  | .ptr d => uptoBulk d + 1
  | .slice elems spare => uptoBulkAll elems + uptoBulkAll spare + 1
  | .agg parts => uptoBulkAll parts + 1
  | .iface _ d => uptoBulk d + 1
  | .map entries => uptoBulkEntries entries + 1
  | .held _ => 1
def uptoBulkAll {H : Type} : List (DataW H) → Nat
  | [] => 0
  | d :: r => uptoBulk d + uptoBulkAll r
def uptoBulkEntries {H : Type} : List (Lit × DataW H) → Nat
  | [] => 0
  | x :: r => uptoBulkEntry x + uptoBulkEntries r
def uptoBulkEntry {H : Type} : Lit × DataW H → Nat
  | (.string bytes, d) => bytes.length + uptoBulk d + 1
  | (_, d) => uptoBulk d + 1
 end
def uptoSmall : (H : Type) → List (DataW H) → Bool := fun _ ds => decide (uptoBulkAll ds ≤ 1048576)
def OpenSpec.upto (s : _root_.Go.ChangeSpec) : _root_.Go.OpenSpec := { _root_.Go.OpenSpec.ofChange s with cond := some uptoSmall }

/-- 'sapperlaw23.ClientDial', WHERE WHAT IT READS IS OF BULK AT MOST 1048576: true; the input reads as it did. -/
def clientDialUptoRow : OpenClaim := { program := "ytodhdajelnfhpaagreat", sum := "d6d2da94f5690e712a340fe53c3855296f7651a133e008f3c1e0ec3c95330fb1", func := "sapper/sapperlaw23.ClientDial", spec := "clientDial", inPlace := ["math/bits.Add64"], unfollowed := true, recurses := true, apart := false, narrowed := true }
def ClientDialUptoSaid : Prop := clientDialUptoRow.holds Tryz.pinned (OpenSpec.upto clientDialSpec)

/-- 'sapperlaw23.ClientIdle', WHERE WHAT IT READS IS OF BULK AT MOST 1048576: true; the input reads as it did. -/
def clientIdleUptoRow : OpenClaim := { program := "ytodhdajelnfhpaagreat", sum := "d6d2da94f5690e712a340fe53c3855296f7651a133e008f3c1e0ec3c95330fb1", func := "sapper/sapperlaw23.ClientIdle", spec := "clientIdle", inPlace := ["math/bits.Add64"], unfollowed := true, recurses := true, apart := false, narrowed := true }
def ClientIdleUptoSaid : Prop := clientIdleUptoRow.holds Tryz.pinned (OpenSpec.upto clientIdleSpec)

/-- 'sapperlaw23.ClientNil', WHERE WHAT IT READS IS OF BULK AT MOST 1048576: true; the input reads as it did. -/
def clientNilUptoRow : OpenClaim := { program := "ytodhdajelnfhpaagreat", sum := "d6d2da94f5690e712a340fe53c3855296f7651a133e008f3c1e0ec3c95330fb1", func := "sapper/sapperlaw23.ClientNil", spec := "clientNil", inPlace := ["math/bits.Add64"], unfollowed := true, recurses := true, apart := false, narrowed := true }
def ClientNilUptoSaid : Prop := clientNilUptoRow.holds Tryz.pinned (OpenSpec.upto clientNilSpec)

end Rows
end Go.Proofs.YtodhdajelnfhpaaGreat
