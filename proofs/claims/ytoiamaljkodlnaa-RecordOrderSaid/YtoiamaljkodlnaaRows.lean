/-
  No cell of these rows narrows 'for every input' (looked for: loops, veiled, ifaces, maps, wideKeys, modest, calm, conditions, laid).
  DERIVED. THE GIVEN ROWS OF THIS SEAT. 19 by the template 'for every input the law returns true; each argument reads behind the call as it read before'; 0 by the template 'total and deterministic' (their statements: YtoiamaljkodlnaaTotals.lean).
  GIVEN WITH THE SEED: the statements are not yours to turn. If you find one false, say at which input.
  Laid BY PROGRAM, IN A SANDBOX (cutbox-rows.mjs): the forced cells as the released guide's own fill.sh prints them over the translation 1c9ffbdf77e805e2… (all of the seat's roots in one cut). By AI agents, Wed Nov 11 2026. No macro, syntax, notation, axiom, sorry.
-/
import Derived.Test.YtoiamaljkodlnaaChecked
import GoSem.Claim
import GoSem.ClaimJoined
import GoSem.ClaimMapViews
import Derived.JoinedTies
import Derived.KernelRfl
namespace Go.Proofs.Ytoiamaljkodlnaa
/- THE CELL 'sum', in the pinned program and in every row, IS THE sha256 OF THE DUMP (.gsa) THAT YtoiamaljkodlnaaProg.lean LOADS. Nothing in Lean hashes anything: it is a label: what it is worth is what the hold of that sum in a sandbox is worth. -/
noncomputable def Try.pinned : Pinned := { name := "ytoiamaljkodlnaa", sum := "1c9ffbdf77e805e28daf688078255f8354d2f0f567f9f3c50840c0660f650cd4", checked := Try.checked }
namespace Rows
def none {H : Type} : Left H := { results := [], args := [] }

/-- 'sapperlaw9.AeadForms': WHATEVER THE INPUT: true; the input reads as it did. -/
def aeadFormsSpec : ChangeSpec := { name := "aeadForms", fn := fun _ => fun
  | [d1, d2, d3, d4, d5, d6, d7, d8] => { results := [.lit (.bool true)], args := [d1, d2, d3, d4, d5, d6, d7, d8] }
  | _ => none }
def aeadFormsRow : OpenClaim := { program := "ytoiamaljkodlnaa", sum := "1c9ffbdf77e805e28daf688078255f8354d2f0f567f9f3c50840c0660f650cd4", func := "sapper/sapperlaw9.AeadForms", spec := "aeadForms", inPlace := ["math/bits.Add64"], unfollowed := true, recurses := true, apart := false }
def AeadFormsSaid : Prop := aeadFormsRow.holds Try.pinned (OpenSpec.ofChange aeadFormsSpec)

/-- ITS FALSE NEIGHBOUR: 'it returns false'. Refute it at one input. -/
def aeadFormsWrong : ChangeSpec := { name := "aeadForms", fn := fun _ => fun
  | [d1, d2, d3, d4, d5, d6, d7, d8] => { results := [.lit (.bool false)], args := [d1, d2, d3, d4, d5, d6, d7, d8] }
  | _ => none }
def AeadFormsWrongFalsely : Prop := aeadFormsRow.holds Try.pinned (OpenSpec.ofChange aeadFormsWrong)

/-- 'sapperlaw9.AeadBack': WHATEVER THE INPUT: true; the input reads as it did. -/
def aeadBackSpec : ChangeSpec := { name := "aeadBack", fn := fun _ => fun
  | [d1, d2, d3, d4, d5, d6] => { results := [.lit (.bool true)], args := [d1, d2, d3, d4, d5, d6] }
  | _ => none }
def aeadBackRow : OpenClaim := { program := "ytoiamaljkodlnaa", sum := "1c9ffbdf77e805e28daf688078255f8354d2f0f567f9f3c50840c0660f650cd4", func := "sapper/sapperlaw9.AeadBack", spec := "aeadBack", inPlace := ["math/bits.Add64"], unfollowed := true, recurses := true, apart := false }
def AeadBackSaid : Prop := aeadBackRow.holds Try.pinned (OpenSpec.ofChange aeadBackSpec)

/-- ITS FALSE NEIGHBOUR: 'it returns false'. Refute it at one input. -/
def aeadBackWrong : ChangeSpec := { name := "aeadBack", fn := fun _ => fun
  | [d1, d2, d3, d4, d5, d6] => { results := [.lit (.bool false)], args := [d1, d2, d3, d4, d5, d6] }
  | _ => none }
def AeadBackWrongFalsely : Prop := aeadBackRow.holds Try.pinned (OpenSpec.ofChange aeadBackWrong)

/-- 'sapperlaw9.AeadApart': WHATEVER THE INPUT: true; the input reads as it did. -/
def aeadApartSpec : ChangeSpec := { name := "aeadApart", fn := fun _ => fun
  | [d1, d2, d3, d4, d5] => { results := [.lit (.bool true)], args := [d1, d2, d3, d4, d5] }
  | _ => none }
def aeadApartRow : OpenClaim := { program := "ytoiamaljkodlnaa", sum := "1c9ffbdf77e805e28daf688078255f8354d2f0f567f9f3c50840c0660f650cd4", func := "sapper/sapperlaw9.AeadApart", spec := "aeadApart", inPlace := ["math/bits.Add64"], unfollowed := true, recurses := true, apart := false }
def AeadApartSaid : Prop := aeadApartRow.holds Try.pinned (OpenSpec.ofChange aeadApartSpec)

/-- ITS FALSE NEIGHBOUR: 'it returns false'. Refute it at one input. -/
def aeadApartWrong : ChangeSpec := { name := "aeadApart", fn := fun _ => fun
  | [d1, d2, d3, d4, d5] => { results := [.lit (.bool false)], args := [d1, d2, d3, d4, d5] }
  | _ => none }
def AeadApartWrongFalsely : Prop := aeadApartRow.holds Try.pinned (OpenSpec.ofChange aeadApartWrong)

/-- 'sapperlaw9.AeadParts': WHATEVER THE INPUT: true; the input reads as it did. -/
def aeadPartsSpec : ChangeSpec := { name := "aeadParts", fn := fun _ => fun
  | [d1, d2, d3] => { results := [.lit (.bool true)], args := [d1, d2, d3] }
  | _ => none }
def aeadPartsRow : OpenClaim := { program := "ytoiamaljkodlnaa", sum := "1c9ffbdf77e805e28daf688078255f8354d2f0f567f9f3c50840c0660f650cd4", func := "sapper/sapperlaw9.AeadParts", spec := "aeadParts", inPlace := ["math/bits.Add64"], unfollowed := true, recurses := true, apart := false }
def AeadPartsSaid : Prop := aeadPartsRow.holds Try.pinned (OpenSpec.ofChange aeadPartsSpec)

/-- ITS FALSE NEIGHBOUR: 'it returns false'. Refute it at one input. -/
def aeadPartsWrong : ChangeSpec := { name := "aeadParts", fn := fun _ => fun
  | [d1, d2, d3] => { results := [.lit (.bool false)], args := [d1, d2, d3] }
  | _ => none }
def AeadPartsWrongFalsely : Prop := aeadPartsRow.holds Try.pinned (OpenSpec.ofChange aeadPartsWrong)

/-- 'sapperlaw9.AeadNonces': WHATEVER THE INPUT: true; the input reads as it did. -/
def aeadNoncesSpec : ChangeSpec := { name := "aeadNonces", fn := fun _ => fun
  | [d] => { results := [.lit (.bool true)], args := [d] }
  | _ => none }
def aeadNoncesRow : OpenClaim := { program := "ytoiamaljkodlnaa", sum := "1c9ffbdf77e805e28daf688078255f8354d2f0f567f9f3c50840c0660f650cd4", func := "sapper/sapperlaw9.AeadNonces", spec := "aeadNonces", inPlace := ["math/bits.Add64"], unfollowed := true, recurses := true, apart := false }
def AeadNoncesSaid : Prop := aeadNoncesRow.holds Try.pinned (OpenSpec.ofChange aeadNoncesSpec)

/-- ITS FALSE NEIGHBOUR: 'it returns false'. Refute it at one input. -/
def aeadNoncesWrong : ChangeSpec := { name := "aeadNonces", fn := fun _ => fun
  | [d] => { results := [.lit (.bool false)], args := [d] }
  | _ => none }
def AeadNoncesWrongFalsely : Prop := aeadNoncesRow.holds Try.pinned (OpenSpec.ofChange aeadNoncesWrong)

/-- 'sapperlaw12.RecordLengths': WHATEVER THE INPUT: true; the input reads as it did. -/
def recordLengthsSpec : ChangeSpec := { name := "recordLengths", fn := fun _ => fun
  | [d1, d2, d3, d4] => { results := [.lit (.bool true)], args := [d1, d2, d3, d4] }
  | _ => none }
def recordLengthsRow : OpenClaim := { program := "ytoiamaljkodlnaa", sum := "1c9ffbdf77e805e28daf688078255f8354d2f0f567f9f3c50840c0660f650cd4", func := "sapper/sapperlaw12.RecordLengths", spec := "recordLengths", inPlace := ["math/bits.Add64"], unfollowed := true, recurses := true, apart := false }
def RecordLengthsSaid : Prop := recordLengthsRow.holds Try.pinned (OpenSpec.ofChange recordLengthsSpec)

/-- ITS FALSE NEIGHBOUR: 'it returns false'. Refute it at one input. -/
def recordLengthsWrong : ChangeSpec := { name := "recordLengths", fn := fun _ => fun
  | [d1, d2, d3, d4] => { results := [.lit (.bool false)], args := [d1, d2, d3, d4] }
  | _ => none }
def RecordLengthsWrongFalsely : Prop := recordLengthsRow.holds Try.pinned (OpenSpec.ofChange recordLengthsWrong)

/-- 'sapperlaw12.RecordBytes': WHATEVER THE INPUT: true; the input reads as it did. -/
def recordBytesSpec : ChangeSpec := { name := "recordBytes", fn := fun _ => fun
  | [d1, d2, d3] => { results := [.lit (.bool true)], args := [d1, d2, d3] }
  | _ => none }
def recordBytesRow : OpenClaim := { program := "ytoiamaljkodlnaa", sum := "1c9ffbdf77e805e28daf688078255f8354d2f0f567f9f3c50840c0660f650cd4", func := "sapper/sapperlaw12.RecordBytes", spec := "recordBytes", inPlace := ["math/bits.Add64"], unfollowed := true, recurses := true, apart := false }
def RecordBytesSaid : Prop := recordBytesRow.holds Try.pinned (OpenSpec.ofChange recordBytesSpec)

/-- ITS FALSE NEIGHBOUR: 'it returns false'. Refute it at one input. -/
def recordBytesWrong : ChangeSpec := { name := "recordBytes", fn := fun _ => fun
  | [d1, d2, d3] => { results := [.lit (.bool false)], args := [d1, d2, d3] }
  | _ => none }
def RecordBytesWrongFalsely : Prop := recordBytesRow.holds Try.pinned (OpenSpec.ofChange recordBytesWrong)

/-- 'sapperlaw12.RecordDead': WHATEVER THE INPUT: true; the input reads as it did. -/
def recordDeadSpec : ChangeSpec := { name := "recordDead", fn := fun _ => fun
  | [d1, d2, d3, d4, d5] => { results := [.lit (.bool true)], args := [d1, d2, d3, d4, d5] }
  | _ => none }
def recordDeadRow : OpenClaim := { program := "ytoiamaljkodlnaa", sum := "1c9ffbdf77e805e28daf688078255f8354d2f0f567f9f3c50840c0660f650cd4", func := "sapper/sapperlaw12.RecordDead", spec := "recordDead", inPlace := ["math/bits.Add64"], unfollowed := true, recurses := true, apart := false }
def RecordDeadSaid : Prop := recordDeadRow.holds Try.pinned (OpenSpec.ofChange recordDeadSpec)

/-- ITS FALSE NEIGHBOUR: 'it returns false'. Refute it at one input. -/
def recordDeadWrong : ChangeSpec := { name := "recordDead", fn := fun _ => fun
  | [d1, d2, d3, d4, d5] => { results := [.lit (.bool false)], args := [d1, d2, d3, d4, d5] }
  | _ => none }
def RecordDeadWrongFalsely : Prop := recordDeadRow.holds Try.pinned (OpenSpec.ofChange recordDeadWrong)

/-- 'sapperlaw12.RecordOrder': WHATEVER THE INPUT: true; the input reads as it did. -/
def recordOrderSpec : ChangeSpec := { name := "recordOrder", fn := fun _ => fun
  | [d1, d2, d3, d4] => { results := [.lit (.bool true)], args := [d1, d2, d3, d4] }
  | _ => none }
def recordOrderRow : OpenClaim := { program := "ytoiamaljkodlnaa", sum := "1c9ffbdf77e805e28daf688078255f8354d2f0f567f9f3c50840c0660f650cd4", func := "sapper/sapperlaw12.RecordOrder", spec := "recordOrder", inPlace := ["math/bits.Add64"], unfollowed := true, recurses := true, apart := false }
def RecordOrderSaid : Prop := recordOrderRow.holds Try.pinned (OpenSpec.ofChange recordOrderSpec)

/-- ITS FALSE NEIGHBOUR: 'it returns false'. Refute it at one input. -/
def recordOrderWrong : ChangeSpec := { name := "recordOrder", fn := fun _ => fun
  | [d1, d2, d3, d4] => { results := [.lit (.bool false)], args := [d1, d2, d3, d4] }
  | _ => none }
def RecordOrderWrongFalsely : Prop := recordOrderRow.holds Try.pinned (OpenSpec.ofChange recordOrderWrong)

/-- 'sapperlaw12.RecordKeys': WHATEVER THE INPUT: true; the input reads as it did. -/
def recordKeysSpec : ChangeSpec := { name := "recordKeys", fn := fun _ => fun
  | [d1, d2, d3] => { results := [.lit (.bool true)], args := [d1, d2, d3] }
  | _ => none }
def recordKeysRow : OpenClaim := { program := "ytoiamaljkodlnaa", sum := "1c9ffbdf77e805e28daf688078255f8354d2f0f567f9f3c50840c0660f650cd4", func := "sapper/sapperlaw12.RecordKeys", spec := "recordKeys", inPlace := ["math/bits.Add64"], unfollowed := true, recurses := true, apart := false }
def RecordKeysSaid : Prop := recordKeysRow.holds Try.pinned (OpenSpec.ofChange recordKeysSpec)

/-- ITS FALSE NEIGHBOUR: 'it returns false'. Refute it at one input. -/
def recordKeysWrong : ChangeSpec := { name := "recordKeys", fn := fun _ => fun
  | [d1, d2, d3] => { results := [.lit (.bool false)], args := [d1, d2, d3] }
  | _ => none }
def RecordKeysWrongFalsely : Prop := recordKeysRow.holds Try.pinned (OpenSpec.ofChange recordKeysWrong)

/-- 'sapperlaw12.RecordPlays': WHATEVER THE INPUT: true; the input reads as it did. -/
def recordPlaysSpec : ChangeSpec := { name := "recordPlays", fn := fun _ => fun
  | [d1, d2, d3, d4, d5, d6] => { results := [.lit (.bool true)], args := [d1, d2, d3, d4, d5, d6] }
  | _ => none }
def recordPlaysRow : OpenClaim := { program := "ytoiamaljkodlnaa", sum := "1c9ffbdf77e805e28daf688078255f8354d2f0f567f9f3c50840c0660f650cd4", func := "sapper/sapperlaw12.RecordPlays", spec := "recordPlays", inPlace := ["math/bits.Add64"], unfollowed := true, recurses := true, apart := false }
def RecordPlaysSaid : Prop := recordPlaysRow.holds Try.pinned (OpenSpec.ofChange recordPlaysSpec)

/-- ITS FALSE NEIGHBOUR: 'it returns false'. Refute it at one input. -/
def recordPlaysWrong : ChangeSpec := { name := "recordPlays", fn := fun _ => fun
  | [d1, d2, d3, d4, d5, d6] => { results := [.lit (.bool false)], args := [d1, d2, d3, d4, d5, d6] }
  | _ => none }
def RecordPlaysWrongFalsely : Prop := recordPlaysRow.holds Try.pinned (OpenSpec.ofChange recordPlaysWrong)

/-- 'sapperlaw12.RecordNil': WHATEVER THE INPUT: true; the input reads as it did. -/
def recordNilSpec : ChangeSpec := { name := "recordNil", fn := fun _ => fun
  | [d1, d2] => { results := [.lit (.bool true)], args := [d1, d2] }
  | _ => none }
def recordNilRow : OpenClaim := { program := "ytoiamaljkodlnaa", sum := "1c9ffbdf77e805e28daf688078255f8354d2f0f567f9f3c50840c0660f650cd4", func := "sapper/sapperlaw12.RecordNil", spec := "recordNil", inPlace := ["math/bits.Add64"], unfollowed := true, recurses := true, apart := false }
def RecordNilSaid : Prop := recordNilRow.holds Try.pinned (OpenSpec.ofChange recordNilSpec)

/-- ITS FALSE NEIGHBOUR: 'it returns false'. Refute it at one input. -/
def recordNilWrong : ChangeSpec := { name := "recordNil", fn := fun _ => fun
  | [d1, d2] => { results := [.lit (.bool false)], args := [d1, d2] }
  | _ => none }
def RecordNilWrongFalsely : Prop := recordNilRow.holds Try.pinned (OpenSpec.ofChange recordNilWrong)

/-- 'sapperlaw10.CipherKeys': WHATEVER THE INPUT: true; the input reads as it did. -/
def cipherKeysSpec : ChangeSpec := { name := "cipherKeys", fn := fun _ => fun
  | [d1, d2] => { results := [.lit (.bool true)], args := [d1, d2] }
  | _ => none }
def cipherKeysRow : OpenClaim := { program := "ytoiamaljkodlnaa", sum := "1c9ffbdf77e805e28daf688078255f8354d2f0f567f9f3c50840c0660f650cd4", func := "sapper/sapperlaw10.CipherKeys", spec := "cipherKeys", inPlace := ["math/bits.Add64"], unfollowed := true, recurses := true, apart := false }
def CipherKeysSaid : Prop := cipherKeysRow.holds Try.pinned (OpenSpec.ofChange cipherKeysSpec)

/-- ITS FALSE NEIGHBOUR: 'it returns false'. Refute it at one input. -/
def cipherKeysWrong : ChangeSpec := { name := "cipherKeys", fn := fun _ => fun
  | [d1, d2] => { results := [.lit (.bool false)], args := [d1, d2] }
  | _ => none }
def CipherKeysWrongFalsely : Prop := cipherKeysRow.holds Try.pinned (OpenSpec.ofChange cipherKeysWrong)

/-- 'sapperlaw10.NoiseTurns': WHATEVER THE INPUT: true; the input reads as it did. -/
def noiseTurnsSpec : ChangeSpec := { name := "noiseTurns", fn := fun _ => fun
  | [d1, d2] => { results := [.lit (.bool true)], args := [d1, d2] }
  | _ => none }
def noiseTurnsRow : OpenClaim := { program := "ytoiamaljkodlnaa", sum := "1c9ffbdf77e805e28daf688078255f8354d2f0f567f9f3c50840c0660f650cd4", func := "sapper/sapperlaw10.NoiseTurns", spec := "noiseTurns", inPlace := ["math/bits.Add64"], unfollowed := true, recurses := true, apart := false }
def NoiseTurnsSaid : Prop := noiseTurnsRow.holds Try.pinned (OpenSpec.ofChange noiseTurnsSpec)

/-- ITS FALSE NEIGHBOUR: 'it returns false'. Refute it at one input. -/
def noiseTurnsWrong : ChangeSpec := { name := "noiseTurns", fn := fun _ => fun
  | [d1, d2] => { results := [.lit (.bool false)], args := [d1, d2] }
  | _ => none }
def NoiseTurnsWrongFalsely : Prop := noiseTurnsRow.holds Try.pinned (OpenSpec.ofChange noiseTurnsWrong)

/-- 'sapperlaw10.CipherCounts': WHATEVER THE INPUT: true; the input reads as it did. -/
def cipherCountsSpec : ChangeSpec := { name := "cipherCounts", fn := fun _ => fun
  | [d1, d2, d3] => { results := [.lit (.bool true)], args := [d1, d2, d3] }
  | _ => none }
def cipherCountsRow : OpenClaim := { program := "ytoiamaljkodlnaa", sum := "1c9ffbdf77e805e28daf688078255f8354d2f0f567f9f3c50840c0660f650cd4", func := "sapper/sapperlaw10.CipherCounts", spec := "cipherCounts", inPlace := ["math/bits.Add64"], unfollowed := true, recurses := true, apart := false }
def CipherCountsSaid : Prop := cipherCountsRow.holds Try.pinned (OpenSpec.ofChange cipherCountsSpec)

/-- ITS FALSE NEIGHBOUR: 'it returns false'. Refute it at one input. -/
def cipherCountsWrong : ChangeSpec := { name := "cipherCounts", fn := fun _ => fun
  | [d1, d2, d3] => { results := [.lit (.bool false)], args := [d1, d2, d3] }
  | _ => none }
def CipherCountsWrongFalsely : Prop := cipherCountsRow.holds Try.pinned (OpenSpec.ofChange cipherCountsWrong)

/-- 'sapperlaw10.NoiseMeets': WHATEVER THE INPUT: true; the input reads as it did. -/
def noiseMeetsSpec : ChangeSpec := { name := "noiseMeets", fn := fun _ => fun
  | [d1, d2, d3, d4, d5] => { results := [.lit (.bool true)], args := [d1, d2, d3, d4, d5] }
  | _ => none }
def noiseMeetsRow : OpenClaim := { program := "ytoiamaljkodlnaa", sum := "1c9ffbdf77e805e28daf688078255f8354d2f0f567f9f3c50840c0660f650cd4", func := "sapper/sapperlaw10.NoiseMeets", spec := "noiseMeets", inPlace := ["math/bits.Add64"], unfollowed := true, recurses := true, apart := false }
def NoiseMeetsSaid : Prop := noiseMeetsRow.holds Try.pinned (OpenSpec.ofChange noiseMeetsSpec)

/-- ITS FALSE NEIGHBOUR: 'it returns false'. Refute it at one input. -/
def noiseMeetsWrong : ChangeSpec := { name := "noiseMeets", fn := fun _ => fun
  | [d1, d2, d3, d4, d5] => { results := [.lit (.bool false)], args := [d1, d2, d3, d4, d5] }
  | _ => none }
def NoiseMeetsWrongFalsely : Prop := noiseMeetsRow.holds Try.pinned (OpenSpec.ofChange noiseMeetsWrong)

/-- 'sapperlaw10.NoiseBroken': WHATEVER THE INPUT: true; the input reads as it did. -/
def noiseBrokenSpec : ChangeSpec := { name := "noiseBroken", fn := fun _ => fun
  | [d1, d2, d3] => { results := [.lit (.bool true)], args := [d1, d2, d3] }
  | _ => none }
def noiseBrokenRow : OpenClaim := { program := "ytoiamaljkodlnaa", sum := "1c9ffbdf77e805e28daf688078255f8354d2f0f567f9f3c50840c0660f650cd4", func := "sapper/sapperlaw10.NoiseBroken", spec := "noiseBroken", inPlace := ["math/bits.Add64"], unfollowed := true, recurses := true, apart := false }
def NoiseBrokenSaid : Prop := noiseBrokenRow.holds Try.pinned (OpenSpec.ofChange noiseBrokenSpec)

/-- ITS FALSE NEIGHBOUR: 'it returns false'. Refute it at one input. -/
def noiseBrokenWrong : ChangeSpec := { name := "noiseBroken", fn := fun _ => fun
  | [d1, d2, d3] => { results := [.lit (.bool false)], args := [d1, d2, d3] }
  | _ => none }
def NoiseBrokenWrongFalsely : Prop := noiseBrokenRow.holds Try.pinned (OpenSpec.ofChange noiseBrokenWrong)

/-- 'sapperlaw10.NoiseSplits': WHATEVER THE INPUT: true; the input reads as it did. -/
def noiseSplitsSpec : ChangeSpec := { name := "noiseSplits", fn := fun _ => fun
  | [d1, d2] => { results := [.lit (.bool true)], args := [d1, d2] }
  | _ => none }
def noiseSplitsRow : OpenClaim := { program := "ytoiamaljkodlnaa", sum := "1c9ffbdf77e805e28daf688078255f8354d2f0f567f9f3c50840c0660f650cd4", func := "sapper/sapperlaw10.NoiseSplits", spec := "noiseSplits", inPlace := ["math/bits.Add64"], unfollowed := true, recurses := true, apart := false }
def NoiseSplitsSaid : Prop := noiseSplitsRow.holds Try.pinned (OpenSpec.ofChange noiseSplitsSpec)

/-- ITS FALSE NEIGHBOUR: 'it returns false'. Refute it at one input. -/
def noiseSplitsWrong : ChangeSpec := { name := "noiseSplits", fn := fun _ => fun
  | [d1, d2] => { results := [.lit (.bool false)], args := [d1, d2] }
  | _ => none }
def NoiseSplitsWrongFalsely : Prop := noiseSplitsRow.holds Try.pinned (OpenSpec.ofChange noiseSplitsWrong)

/-- 'sapperlaw10.NoiseNil': WHATEVER THE INPUT: true; the input reads as it did. -/
def noiseNilSpec : ChangeSpec := { name := "noiseNil", fn := fun _ => fun
  | [d] => { results := [.lit (.bool true)], args := [d] }
  | _ => none }
def noiseNilRow : OpenClaim := { program := "ytoiamaljkodlnaa", sum := "1c9ffbdf77e805e28daf688078255f8354d2f0f567f9f3c50840c0660f650cd4", func := "sapper/sapperlaw10.NoiseNil", spec := "noiseNil", inPlace := ["math/bits.Add64"], unfollowed := true, recurses := true, apart := false }
def NoiseNilSaid : Prop := noiseNilRow.holds Try.pinned (OpenSpec.ofChange noiseNilSpec)

/-- ITS FALSE NEIGHBOUR: 'it returns false'. Refute it at one input. -/
def noiseNilWrong : ChangeSpec := { name := "noiseNil", fn := fun _ => fun
  | [d] => { results := [.lit (.bool false)], args := [d] }
  | _ => none }
def NoiseNilWrongFalsely : Prop := noiseNilRow.holds Try.pinned (OpenSpec.ofChange noiseNilWrong)

/- THE SECOND FORM. 'bulk': how many values and letters a reading holds, each counted each time it is reached (what is shared counts as often as it is met; a slice's spare places count too). A statement '..UptoSaid' is the law's where the arguments, and the package variables that the reading takes, are together of bulk at most 1048576: NARROWER than '..Said'. Prove '..Said' where nothing that the law and all that it calls make is longer than what came in: it says more and counts as full. Else prove '..UptoSaid'. A law counts once. -/
mutual
def uptoBulk {H : Type} : DataW H → Nat
  | .lit (.string bytes) => bytes.length + 1
  | .lit _ => 1
  | .nil => 1
  | .ptr d => uptoBulk d + 1
  | .slice elems spare => uptoBulkAll elems + uptoBulkAll spare + 1
  | .agg parts => uptoBulkAll parts + 1
  | .iface _ d => uptoBulk d + 1
  | .map entries => uptoBulkEntries entries + 1
  | .held _ => 1
def uptoBulkAll {H : Type} : List (DataW H) → Nat
  | [] => 0
  | d :: r => uptoBulk d + uptoBulkAll r
def uptoBulkEntries {H : Type} : List (Lit × DataW H) → Nat
  | [] => 0
  | x :: r => uptoBulkEntry x + uptoBulkEntries r
def uptoBulkEntry {H : Type} : Lit × DataW H → Nat
  | (.string bytes, d) => bytes.length + uptoBulk d + 1
  | (_, d) => uptoBulk d + 1
 end
def uptoSmall : (H : Type) → List (DataW H) → Bool := fun _ ds => decide (uptoBulkAll ds ≤ 1048576)
def OpenSpec.upto (s : _root_.Go.ChangeSpec) : _root_.Go.OpenSpec := { _root_.Go.OpenSpec.ofChange s with cond := some uptoSmall }

/-- 'sapperlaw9.AeadForms', WHERE WHAT IT READS IS OF BULK AT MOST 1048576: true; the input reads as it did. -/
def aeadFormsUptoRow : OpenClaim := { program := "ytoiamaljkodlnaa", sum := "1c9ffbdf77e805e28daf688078255f8354d2f0f567f9f3c50840c0660f650cd4", func := "sapper/sapperlaw9.AeadForms", spec := "aeadForms", inPlace := ["math/bits.Add64"], unfollowed := true, recurses := true, apart := false, narrowed := true }
def AeadFormsUptoSaid : Prop := aeadFormsUptoRow.holds Try.pinned (OpenSpec.upto aeadFormsSpec)

/-- 'sapperlaw9.AeadBack', WHERE WHAT IT READS IS OF BULK AT MOST 1048576: true; the input reads as it did. -/
def aeadBackUptoRow : OpenClaim := { program := "ytoiamaljkodlnaa", sum := "1c9ffbdf77e805e28daf688078255f8354d2f0f567f9f3c50840c0660f650cd4", func := "sapper/sapperlaw9.AeadBack", spec := "aeadBack", inPlace := ["math/bits.Add64"], unfollowed := true, recurses := true, apart := false, narrowed := true }
def AeadBackUptoSaid : Prop := aeadBackUptoRow.holds Try.pinned (OpenSpec.upto aeadBackSpec)

/-- 'sapperlaw9.AeadApart', WHERE WHAT IT READS IS OF BULK AT MOST 1048576: true; the input reads as it did. -/
def aeadApartUptoRow : OpenClaim := { program := "ytoiamaljkodlnaa", sum := "1c9ffbdf77e805e28daf688078255f8354d2f0f567f9f3c50840c0660f650cd4", func := "sapper/sapperlaw9.AeadApart", spec := "aeadApart", inPlace := ["math/bits.Add64"], unfollowed := true, recurses := true, apart := false, narrowed := true }
def AeadApartUptoSaid : Prop := aeadApartUptoRow.holds Try.pinned (OpenSpec.upto aeadApartSpec)

/-- 'sapperlaw9.AeadParts', WHERE WHAT IT READS IS OF BULK AT MOST 1048576: true; the input reads as it did. -/
def aeadPartsUptoRow : OpenClaim := { program := "ytoiamaljkodlnaa", sum := "1c9ffbdf77e805e28daf688078255f8354d2f0f567f9f3c50840c0660f650cd4", func := "sapper/sapperlaw9.AeadParts", spec := "aeadParts", inPlace := ["math/bits.Add64"], unfollowed := true, recurses := true, apart := false, narrowed := true }
def AeadPartsUptoSaid : Prop := aeadPartsUptoRow.holds Try.pinned (OpenSpec.upto aeadPartsSpec)

/-- 'sapperlaw9.AeadNonces', WHERE WHAT IT READS IS OF BULK AT MOST 1048576: true; the input reads as it did. -/
def aeadNoncesUptoRow : OpenClaim := { program := "ytoiamaljkodlnaa", sum := "1c9ffbdf77e805e28daf688078255f8354d2f0f567f9f3c50840c0660f650cd4", func := "sapper/sapperlaw9.AeadNonces", spec := "aeadNonces", inPlace := ["math/bits.Add64"], unfollowed := true, recurses := true, apart := false, narrowed := true }
def AeadNoncesUptoSaid : Prop := aeadNoncesUptoRow.holds Try.pinned (OpenSpec.upto aeadNoncesSpec)

/-- 'sapperlaw12.RecordLengths', WHERE WHAT IT READS IS OF BULK AT MOST 1048576: true; the input reads as it did. -/
def recordLengthsUptoRow : OpenClaim := { program := "ytoiamaljkodlnaa", sum := "1c9ffbdf77e805e28daf688078255f8354d2f0f567f9f3c50840c0660f650cd4", func := "sapper/sapperlaw12.RecordLengths", spec := "recordLengths", inPlace := ["math/bits.Add64"], unfollowed := true, recurses := true, apart := false, narrowed := true }
def RecordLengthsUptoSaid : Prop := recordLengthsUptoRow.holds Try.pinned (OpenSpec.upto recordLengthsSpec)

/-- 'sapperlaw12.RecordBytes', WHERE WHAT IT READS IS OF BULK AT MOST 1048576: true; the input reads as it did. -/
def recordBytesUptoRow : OpenClaim := { program := "ytoiamaljkodlnaa", sum := "1c9ffbdf77e805e28daf688078255f8354d2f0f567f9f3c50840c0660f650cd4", func := "sapper/sapperlaw12.RecordBytes", spec := "recordBytes", inPlace := ["math/bits.Add64"], unfollowed := true, recurses := true, apart := false, narrowed := true }
def RecordBytesUptoSaid : Prop := recordBytesUptoRow.holds Try.pinned (OpenSpec.upto recordBytesSpec)

/-- 'sapperlaw12.RecordDead', WHERE WHAT IT READS IS OF BULK AT MOST 1048576: true; the input reads as it did. -/
def recordDeadUptoRow : OpenClaim := { program := "ytoiamaljkodlnaa", sum := "1c9ffbdf77e805e28daf688078255f8354d2f0f567f9f3c50840c0660f650cd4", func := "sapper/sapperlaw12.RecordDead", spec := "recordDead", inPlace := ["math/bits.Add64"], unfollowed := true, recurses := true, apart := false, narrowed := true }
def RecordDeadUptoSaid : Prop := recordDeadUptoRow.holds Try.pinned (OpenSpec.upto recordDeadSpec)

/-- 'sapperlaw12.RecordOrder', WHERE WHAT IT READS IS OF BULK AT MOST 1048576: true; the input reads as it did. -/
def recordOrderUptoRow : OpenClaim := { program := "ytoiamaljkodlnaa", sum := "1c9ffbdf77e805e28daf688078255f8354d2f0f567f9f3c50840c0660f650cd4", func := "sapper/sapperlaw12.RecordOrder", spec := "recordOrder", inPlace := ["math/bits.Add64"], unfollowed := true, recurses := true, apart := false, narrowed := true }
def RecordOrderUptoSaid : Prop := recordOrderUptoRow.holds Try.pinned (OpenSpec.upto recordOrderSpec)

/-- 'sapperlaw12.RecordKeys', WHERE WHAT IT READS IS OF BULK AT MOST 1048576: true; the input reads as it did. -/
def recordKeysUptoRow : OpenClaim := { program := "ytoiamaljkodlnaa", sum := "1c9ffbdf77e805e28daf688078255f8354d2f0f567f9f3c50840c0660f650cd4", func := "sapper/sapperlaw12.RecordKeys", spec := "recordKeys", inPlace := ["math/bits.Add64"], unfollowed := true, recurses := true, apart := false, narrowed := true }
def RecordKeysUptoSaid : Prop := recordKeysUptoRow.holds Try.pinned (OpenSpec.upto recordKeysSpec)

/-- 'sapperlaw12.RecordPlays', WHERE WHAT IT READS IS OF BULK AT MOST 1048576: true; the input reads as it did. -/
def recordPlaysUptoRow : OpenClaim := { program := "ytoiamaljkodlnaa", sum := "1c9ffbdf77e805e28daf688078255f8354d2f0f567f9f3c50840c0660f650cd4", func := "sapper/sapperlaw12.RecordPlays", spec := "recordPlays", inPlace := ["math/bits.Add64"], unfollowed := true, recurses := true, apart := false, narrowed := true }
def RecordPlaysUptoSaid : Prop := recordPlaysUptoRow.holds Try.pinned (OpenSpec.upto recordPlaysSpec)

/-- 'sapperlaw12.RecordNil', WHERE WHAT IT READS IS OF BULK AT MOST 1048576: true; the input reads as it did. -/
def recordNilUptoRow : OpenClaim := { program := "ytoiamaljkodlnaa", sum := "1c9ffbdf77e805e28daf688078255f8354d2f0f567f9f3c50840c0660f650cd4", func := "sapper/sapperlaw12.RecordNil", spec := "recordNil", inPlace := ["math/bits.Add64"], unfollowed := true, recurses := true, apart := false, narrowed := true }
def RecordNilUptoSaid : Prop := recordNilUptoRow.holds Try.pinned (OpenSpec.upto recordNilSpec)

/-- 'sapperlaw10.CipherKeys', WHERE WHAT IT READS IS OF BULK AT MOST 1048576: true; the input reads as it did. -/
def cipherKeysUptoRow : OpenClaim := { program := "ytoiamaljkodlnaa", sum := "1c9ffbdf77e805e28daf688078255f8354d2f0f567f9f3c50840c0660f650cd4", func := "sapper/sapperlaw10.CipherKeys", spec := "cipherKeys", inPlace := ["math/bits.Add64"], unfollowed := true, recurses := true, apart := false, narrowed := true }
def CipherKeysUptoSaid : Prop := cipherKeysUptoRow.holds Try.pinned (OpenSpec.upto cipherKeysSpec)

/-- 'sapperlaw10.NoiseTurns', WHERE WHAT IT READS IS OF BULK AT MOST 1048576: true; the input reads as it did. -/
def noiseTurnsUptoRow : OpenClaim := { program := "ytoiamaljkodlnaa", sum := "1c9ffbdf77e805e28daf688078255f8354d2f0f567f9f3c50840c0660f650cd4", func := "sapper/sapperlaw10.NoiseTurns", spec := "noiseTurns", inPlace := ["math/bits.Add64"], unfollowed := true, recurses := true, apart := false, narrowed := true }
def NoiseTurnsUptoSaid : Prop := noiseTurnsUptoRow.holds Try.pinned (OpenSpec.upto noiseTurnsSpec)

/-- 'sapperlaw10.CipherCounts', WHERE WHAT IT READS IS OF BULK AT MOST 1048576: true; the input reads as it did. -/
def cipherCountsUptoRow : OpenClaim := { program := "ytoiamaljkodlnaa", sum := "1c9ffbdf77e805e28daf688078255f8354d2f0f567f9f3c50840c0660f650cd4", func := "sapper/sapperlaw10.CipherCounts", spec := "cipherCounts", inPlace := ["math/bits.Add64"], unfollowed := true, recurses := true, apart := false, narrowed := true }
def CipherCountsUptoSaid : Prop := cipherCountsUptoRow.holds Try.pinned (OpenSpec.upto cipherCountsSpec)

/-- 'sapperlaw10.NoiseMeets', WHERE WHAT IT READS IS OF BULK AT MOST 1048576: true; the input reads as it did. -/
def noiseMeetsUptoRow : OpenClaim := { program := "ytoiamaljkodlnaa", sum := "1c9ffbdf77e805e28daf688078255f8354d2f0f567f9f3c50840c0660f650cd4", func := "sapper/sapperlaw10.NoiseMeets", spec := "noiseMeets", inPlace := ["math/bits.Add64"], unfollowed := true, recurses := true, apart := false, narrowed := true }
def NoiseMeetsUptoSaid : Prop := noiseMeetsUptoRow.holds Try.pinned (OpenSpec.upto noiseMeetsSpec)

/-- 'sapperlaw10.NoiseBroken', WHERE WHAT IT READS IS OF BULK AT MOST 1048576: true; the input reads as it did. -/
def noiseBrokenUptoRow : OpenClaim := { program := "ytoiamaljkodlnaa", sum := "1c9ffbdf77e805e28daf688078255f8354d2f0f567f9f3c50840c0660f650cd4", func := "sapper/sapperlaw10.NoiseBroken", spec := "noiseBroken", inPlace := ["math/bits.Add64"], unfollowed := true, recurses := true, apart := false, narrowed := true }
def NoiseBrokenUptoSaid : Prop := noiseBrokenUptoRow.holds Try.pinned (OpenSpec.upto noiseBrokenSpec)

/-- 'sapperlaw10.NoiseSplits', WHERE WHAT IT READS IS OF BULK AT MOST 1048576: true; the input reads as it did. -/
def noiseSplitsUptoRow : OpenClaim := { program := "ytoiamaljkodlnaa", sum := "1c9ffbdf77e805e28daf688078255f8354d2f0f567f9f3c50840c0660f650cd4", func := "sapper/sapperlaw10.NoiseSplits", spec := "noiseSplits", inPlace := ["math/bits.Add64"], unfollowed := true, recurses := true, apart := false, narrowed := true }
def NoiseSplitsUptoSaid : Prop := noiseSplitsUptoRow.holds Try.pinned (OpenSpec.upto noiseSplitsSpec)

/-- 'sapperlaw10.NoiseNil', WHERE WHAT IT READS IS OF BULK AT MOST 1048576: true; the input reads as it did. -/
def noiseNilUptoRow : OpenClaim := { program := "ytoiamaljkodlnaa", sum := "1c9ffbdf77e805e28daf688078255f8354d2f0f567f9f3c50840c0660f650cd4", func := "sapper/sapperlaw10.NoiseNil", spec := "noiseNil", inPlace := ["math/bits.Add64"], unfollowed := true, recurses := true, apart := false, narrowed := true }
def NoiseNilUptoSaid : Prop := noiseNilUptoRow.holds Try.pinned (OpenSpec.upto noiseNilSpec)

end Rows
end Go.Proofs.Ytoiamaljkodlnaa
