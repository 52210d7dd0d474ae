/-
  No cell of these rows narrows 'for every input' (looked for: loops, veiled, ifaces, maps, wideKeys, modest, calm, conditions, laid).
  DERIVED. THE GIVEN ROWS OF THIS SEAT. 7 by the template 'for every input the law returns true; each argument reads behind the call as it read before'; 0 by the template 'total and deterministic' (their statements: YtbgonhmaeekkaaaTotals.lean).
  GIVEN WITH THE SEED: the statements are not yours to turn. If you find one false, say at which input.
  Laid BY PROGRAM, IN A SANDBOX (cutbox-rows.mjs): the forced cells as the released guide's own fill.sh prints them over the translation 7e23ca09bc29c464… (all of the seat's roots in one cut). By AI agents, Wed Nov 11 2026. No macro, syntax, notation, axiom, sorry.
-/
import Derived.Test.YtbgonhmaeekkaaaChecked
import GoSem.Claim
import GoSem.ClaimJoined
import GoSem.ClaimMapViews
import Derived.JoinedTies
import Derived.KernelRfl
namespace Go.Proofs.Ytbgonhmaeekkaaa
/- THE CELL 'sum', in the pinned program and in every row, IS THE sha256 OF THE DUMP (.gsa) THAT YtbgonhmaeekkaaaProg.lean LOADS. Nothing in Lean hashes anything: it is a label: what it is worth is what the hold of that sum in a sandbox is worth. -/
noncomputable def Try.pinned : Pinned := { name := "ytbgonhmaeekkaaa", sum := "7e23ca09bc29c46444a54a0e82c7f57f1df88c8faa3005f58a715a46968ad167", checked := Try.checked }
namespace Rows
def none {H : Type} : Left H := { results := [], args := [] }

/-- 'sapperlaw10.CipherKeys': WHATEVER THE INPUT: true; the input reads as it did. -/
def cipherKeysSpec : ChangeSpec := { name := "cipherKeys", fn := fun _ => fun
  | [d1, d2] => { results := [.lit (.bool true)], args := [d1, d2] }
  | _ => none }
def cipherKeysRow : OpenClaim := { program := "ytbgonhmaeekkaaa", sum := "7e23ca09bc29c46444a54a0e82c7f57f1df88c8faa3005f58a715a46968ad167", func := "sapper/sapperlaw10.CipherKeys", spec := "cipherKeys", inPlace := ["math/bits.Add64"], unfollowed := true, recurses := true, apart := false }
def CipherKeysSaid : Prop := cipherKeysRow.holds Try.pinned (OpenSpec.ofChange cipherKeysSpec)

/-- ITS FALSE NEIGHBOUR: 'it returns false'. Refute it at one input. -/
def cipherKeysWrong : ChangeSpec := { name := "cipherKeys", fn := fun _ => fun
  | [d1, d2] => { results := [.lit (.bool false)], args := [d1, d2] }
  | _ => none }
def CipherKeysWrongFalsely : Prop := cipherKeysRow.holds Try.pinned (OpenSpec.ofChange cipherKeysWrong)

/-- 'sapperlaw10.NoiseTurns': WHATEVER THE INPUT: true; the input reads as it did. -/
def noiseTurnsSpec : ChangeSpec := { name := "noiseTurns", fn := fun _ => fun
  | [d1, d2] => { results := [.lit (.bool true)], args := [d1, d2] }
  | _ => none }
def noiseTurnsRow : OpenClaim := { program := "ytbgonhmaeekkaaa", sum := "7e23ca09bc29c46444a54a0e82c7f57f1df88c8faa3005f58a715a46968ad167", func := "sapper/sapperlaw10.NoiseTurns", spec := "noiseTurns", inPlace := ["math/bits.Add64"], unfollowed := true, recurses := true, apart := false }
def NoiseTurnsSaid : Prop := noiseTurnsRow.holds Try.pinned (OpenSpec.ofChange noiseTurnsSpec)

/-- ITS FALSE NEIGHBOUR: 'it returns false'. Refute it at one input. -/
def noiseTurnsWrong : ChangeSpec := { name := "noiseTurns", fn := fun _ => fun
  | [d1, d2] => { results := [.lit (.bool false)], args := [d1, d2] }
  | _ => none }
def NoiseTurnsWrongFalsely : Prop := noiseTurnsRow.holds Try.pinned (OpenSpec.ofChange noiseTurnsWrong)

/-- 'sapperlaw10.CipherCounts': WHATEVER THE INPUT: true; the input reads as it did. -/
def cipherCountsSpec : ChangeSpec := { name := "cipherCounts", fn := fun _ => fun
  | [d1, d2, d3] => { results := [.lit (.bool true)], args := [d1, d2, d3] }
  | _ => none }
def cipherCountsRow : OpenClaim := { program := "ytbgonhmaeekkaaa", sum := "7e23ca09bc29c46444a54a0e82c7f57f1df88c8faa3005f58a715a46968ad167", func := "sapper/sapperlaw10.CipherCounts", spec := "cipherCounts", inPlace := ["math/bits.Add64"], unfollowed := true, recurses := true, apart := false }
def CipherCountsSaid : Prop := cipherCountsRow.holds Try.pinned (OpenSpec.ofChange cipherCountsSpec)

/-- ITS FALSE NEIGHBOUR: 'it returns false'. Refute it at one input. -/
def cipherCountsWrong : ChangeSpec := { name := "cipherCounts", fn := fun _ => fun
  | [d1, d2, d3] => { results := [.lit (.bool false)], args := [d1, d2, d3] }
  | _ => none }
def CipherCountsWrongFalsely : Prop := cipherCountsRow.holds Try.pinned (OpenSpec.ofChange cipherCountsWrong)

/-- 'sapperlaw10.NoiseMeets': WHATEVER THE INPUT: true; the input reads as it did. -/
def noiseMeetsSpec : ChangeSpec := { name := "noiseMeets", fn := fun _ => fun
  | [d1, d2, d3, d4, d5] => { results := [.lit (.bool true)], args := [d1, d2, d3, d4, d5] }
  | _ => none }
def noiseMeetsRow : OpenClaim := { program := "ytbgonhmaeekkaaa", sum := "7e23ca09bc29c46444a54a0e82c7f57f1df88c8faa3005f58a715a46968ad167", func := "sapper/sapperlaw10.NoiseMeets", spec := "noiseMeets", inPlace := ["math/bits.Add64"], unfollowed := true, recurses := true, apart := false }
def NoiseMeetsSaid : Prop := noiseMeetsRow.holds Try.pinned (OpenSpec.ofChange noiseMeetsSpec)

/-- ITS FALSE NEIGHBOUR: 'it returns false'. Refute it at one input. -/
def noiseMeetsWrong : ChangeSpec := { name := "noiseMeets", fn := fun _ => fun
  | [d1, d2, d3, d4, d5] => { results := [.lit (.bool false)], args := [d1, d2, d3, d4, d5] }
  | _ => none }
def NoiseMeetsWrongFalsely : Prop := noiseMeetsRow.holds Try.pinned (OpenSpec.ofChange noiseMeetsWrong)

/-- 'sapperlaw10.NoiseBroken': WHATEVER THE INPUT: true; the input reads as it did. -/
def noiseBrokenSpec : ChangeSpec := { name := "noiseBroken", fn := fun _ => fun
  | [d1, d2, d3] => { results := [.lit (.bool true)], args := [d1, d2, d3] }
  | _ => none }
def noiseBrokenRow : OpenClaim := { program := "ytbgonhmaeekkaaa", sum := "7e23ca09bc29c46444a54a0e82c7f57f1df88c8faa3005f58a715a46968ad167", func := "sapper/sapperlaw10.NoiseBroken", spec := "noiseBroken", inPlace := ["math/bits.Add64"], unfollowed := true, recurses := true, apart := false }
def NoiseBrokenSaid : Prop := noiseBrokenRow.holds Try.pinned (OpenSpec.ofChange noiseBrokenSpec)

/-- ITS FALSE NEIGHBOUR: 'it returns false'. Refute it at one input. -/
def noiseBrokenWrong : ChangeSpec := { name := "noiseBroken", fn := fun _ => fun
  | [d1, d2, d3] => { results := [.lit (.bool false)], args := [d1, d2, d3] }
  | _ => none }
def NoiseBrokenWrongFalsely : Prop := noiseBrokenRow.holds Try.pinned (OpenSpec.ofChange noiseBrokenWrong)

/-- 'sapperlaw10.NoiseSplits': WHATEVER THE INPUT: true; the input reads as it did. -/
def noiseSplitsSpec : ChangeSpec := { name := "noiseSplits", fn := fun _ => fun
  | [d1, d2] => { results := [.lit (.bool true)], args := [d1, d2] }
  | _ => none }
def noiseSplitsRow : OpenClaim := { program := "ytbgonhmaeekkaaa", sum := "7e23ca09bc29c46444a54a0e82c7f57f1df88c8faa3005f58a715a46968ad167", func := "sapper/sapperlaw10.NoiseSplits", spec := "noiseSplits", inPlace := ["math/bits.Add64"], unfollowed := true, recurses := true, apart := false }
def NoiseSplitsSaid : Prop := noiseSplitsRow.holds Try.pinned (OpenSpec.ofChange noiseSplitsSpec)

/-- ITS FALSE NEIGHBOUR: 'it returns false'. Refute it at one input. -/
def noiseSplitsWrong : ChangeSpec := { name := "noiseSplits", fn := fun _ => fun
  | [d1, d2] => { results := [.lit (.bool false)], args := [d1, d2] }
  | _ => none }
def NoiseSplitsWrongFalsely : Prop := noiseSplitsRow.holds Try.pinned (OpenSpec.ofChange noiseSplitsWrong)

/-- 'sapperlaw10.NoiseNil': WHATEVER THE INPUT: true; the input reads as it did. -/
def noiseNilSpec : ChangeSpec := { name := "noiseNil", fn := fun _ => fun
  | [d] => { results := [.lit (.bool true)], args := [d] }
  | _ => none }
def noiseNilRow : OpenClaim := { program := "ytbgonhmaeekkaaa", sum := "7e23ca09bc29c46444a54a0e82c7f57f1df88c8faa3005f58a715a46968ad167", func := "sapper/sapperlaw10.NoiseNil", spec := "noiseNil", inPlace := ["math/bits.Add64"], unfollowed := true, recurses := true, apart := false }
def NoiseNilSaid : Prop := noiseNilRow.holds Try.pinned (OpenSpec.ofChange noiseNilSpec)

/-- ITS FALSE NEIGHBOUR: 'it returns false'. Refute it at one input. -/
def noiseNilWrong : ChangeSpec := { name := "noiseNil", fn := fun _ => fun
  | [d] => { results := [.lit (.bool false)], args := [d] }
  | _ => none }
def NoiseNilWrongFalsely : Prop := noiseNilRow.holds Try.pinned (OpenSpec.ofChange noiseNilWrong)

/- THE SECOND FORM. 'bulk': how many values and letters a reading holds, each counted each time it is reached (what is shared counts as often as it is met; a slice's spare places count too). A statement '..UptoSaid' is the law's where the arguments, and the package variables that the reading takes, are together of bulk at most 1048576: NARROWER than '..Said'. Prove '..Said' where nothing that the law and all that it calls make is longer than what came in: it says more and counts as full. Else prove '..UptoSaid'. A law counts once. -/
mutual
def uptoBulk {H : Type} : DataW H → Nat
  | .lit (.string bytes) => bytes.length + 1
  | .lit _ => 1
  | .nil => 1
  | .ptr d => uptoBulk d + 1
  | .slice elems spare => uptoBulkAll elems + uptoBulkAll spare + 1
  | .agg parts => uptoBulkAll parts + 1
  | .iface _ d => uptoBulk d + 1
  | .map entries => uptoBulkEntries entries + 1
  | .held _ => 1
def uptoBulkAll {H : Type} : List (DataW H) → Nat
  | [] => 0
  | d :: r => uptoBulk d + uptoBulkAll r
def uptoBulkEntries {H : Type} : List (Lit × DataW H) → Nat
  | [] => 0
  | x :: r => uptoBulkEntry x + uptoBulkEntries r
def uptoBulkEntry {H : Type} : Lit × DataW H → Nat
  | (.string bytes, d) => bytes.length + uptoBulk d + 1
  | (_, d) => uptoBulk d + 1
 end
def uptoSmall : (H : Type) → List (DataW H) → Bool := fun _ ds => decide (uptoBulkAll ds ≤ 1048576)
def OpenSpec.upto (s : _root_.Go.ChangeSpec) : _root_.Go.OpenSpec := { _root_.Go.OpenSpec.ofChange s with cond := some uptoSmall }

/-- 'sapperlaw10.CipherKeys', WHERE WHAT IT READS IS OF BULK AT MOST 1048576: true; the input reads as it did. -/
def cipherKeysUptoRow : OpenClaim := { program := "ytbgonhmaeekkaaa", sum := "7e23ca09bc29c46444a54a0e82c7f57f1df88c8faa3005f58a715a46968ad167", func := "sapper/sapperlaw10.CipherKeys", spec := "cipherKeys", inPlace := ["math/bits.Add64"], unfollowed := true, recurses := true, apart := false, narrowed := true }
def CipherKeysUptoSaid : Prop := cipherKeysUptoRow.holds Try.pinned (OpenSpec.upto cipherKeysSpec)

/-- 'sapperlaw10.NoiseTurns', WHERE WHAT IT READS IS OF BULK AT MOST 1048576: true; the input reads as it did. -/
def noiseTurnsUptoRow : OpenClaim := { program := "ytbgonhmaeekkaaa", sum := "7e23ca09bc29c46444a54a0e82c7f57f1df88c8faa3005f58a715a46968ad167", func := "sapper/sapperlaw10.NoiseTurns", spec := "noiseTurns", inPlace := ["math/bits.Add64"], unfollowed := true, recurses := true, apart := false, narrowed := true }
def NoiseTurnsUptoSaid : Prop := noiseTurnsUptoRow.holds Try.pinned (OpenSpec.upto noiseTurnsSpec)

/-- 'sapperlaw10.CipherCounts', WHERE WHAT IT READS IS OF BULK AT MOST 1048576: true; the input reads as it did. -/
def cipherCountsUptoRow : OpenClaim := { program := "ytbgonhmaeekkaaa", sum := "7e23ca09bc29c46444a54a0e82c7f57f1df88c8faa3005f58a715a46968ad167", func := "sapper/sapperlaw10.CipherCounts", spec := "cipherCounts", inPlace := ["math/bits.Add64"], unfollowed := true, recurses := true, apart := false, narrowed := true }
def CipherCountsUptoSaid : Prop := cipherCountsUptoRow.holds Try.pinned (OpenSpec.upto cipherCountsSpec)

/-- 'sapperlaw10.NoiseMeets', WHERE WHAT IT READS IS OF BULK AT MOST 1048576: true; the input reads as it did. -/
def noiseMeetsUptoRow : OpenClaim := { program := "ytbgonhmaeekkaaa", sum := "7e23ca09bc29c46444a54a0e82c7f57f1df88c8faa3005f58a715a46968ad167", func := "sapper/sapperlaw10.NoiseMeets", spec := "noiseMeets", inPlace := ["math/bits.Add64"], unfollowed := true, recurses := true, apart := false, narrowed := true }
def NoiseMeetsUptoSaid : Prop := noiseMeetsUptoRow.holds Try.pinned (OpenSpec.upto noiseMeetsSpec)

/-- 'sapperlaw10.NoiseBroken', WHERE WHAT IT READS IS OF BULK AT MOST 1048576: true; the input reads as it did. -/
def noiseBrokenUptoRow : OpenClaim := { program := "ytbgonhmaeekkaaa", sum := "7e23ca09bc29c46444a54a0e82c7f57f1df88c8faa3005f58a715a46968ad167", func := "sapper/sapperlaw10.NoiseBroken", spec := "noiseBroken", inPlace := ["math/bits.Add64"], unfollowed := true, recurses := true, apart := false, narrowed := true }
def NoiseBrokenUptoSaid : Prop := noiseBrokenUptoRow.holds Try.pinned (OpenSpec.upto noiseBrokenSpec)

/-- 'sapperlaw10.NoiseSplits', WHERE WHAT IT READS IS OF BULK AT MOST 1048576: true; the input reads as it did. -/
def noiseSplitsUptoRow : OpenClaim := { program := "ytbgonhmaeekkaaa", sum := "7e23ca09bc29c46444a54a0e82c7f57f1df88c8faa3005f58a715a46968ad167", func := "sapper/sapperlaw10.NoiseSplits", spec := "noiseSplits", inPlace := ["math/bits.Add64"], unfollowed := true, recurses := true, apart := false, narrowed := true }
def NoiseSplitsUptoSaid : Prop := noiseSplitsUptoRow.holds Try.pinned (OpenSpec.upto noiseSplitsSpec)

/-- 'sapperlaw10.NoiseNil', WHERE WHAT IT READS IS OF BULK AT MOST 1048576: true; the input reads as it did. -/
def noiseNilUptoRow : OpenClaim := { program := "ytbgonhmaeekkaaa", sum := "7e23ca09bc29c46444a54a0e82c7f57f1df88c8faa3005f58a715a46968ad167", func := "sapper/sapperlaw10.NoiseNil", spec := "noiseNil", inPlace := ["math/bits.Add64"], unfollowed := true, recurses := true, apart := false, narrowed := true }
def NoiseNilUptoSaid : Prop := noiseNilUptoRow.holds Try.pinned (OpenSpec.upto noiseNilSpec)

end Rows
end Go.Proofs.Ytbgonhmaeekkaaa
