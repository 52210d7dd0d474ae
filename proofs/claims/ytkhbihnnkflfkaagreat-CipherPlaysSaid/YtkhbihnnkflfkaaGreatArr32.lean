/-
 Rows of words: [16]uint32 in a block: places, loads, stores.
-/
import Derived.Test.YtkhbihnnkflfkaaGreatBegin
import Derived.Test.YtkhbihnnkflfkaaGreatRegM
import Derived.Test.YtkhbihnnkflfkaaGreatAgg
namespace Go.Proofs.YtkhbihnnkflfkaaGreat
open Go.RowKit
set_option linter.unusedVariables false
set_option linter.unusedSimpArgs false
set_option maxRecDepth 100000

variable {k v : Nat}
section
variable {o : Oper} {a : Act} {w : World} {x y : Operand} {g : Nat} {T : TypeId} {s : List Nat}

end

def qrAt (s : List Nat) (i j k l : Nat) : List Nat :=
 match qr (s.getD i 0) (s.getD j 0) (s.getD k 0) (s.getD l 0) with
 | (a, b, c, d) => (((s.set i a).set j b).set k c).set l d

theorem qr_lt (a b c d : Nat) (ha : a < 4294967296) (hb : b < 4294967296) (hc : c < 4294967296) (hd : d < 4294967296) : (qr a b c d).1 < 4294967296 ∧ (qr a b c d).2.1 < 4294967296 ∧ (qr a b c d).2.2.1 < 4294967296 ∧ (qr a b c d).2.2.2 < 4294967296 := by
 obtain ⟨a1, e1, l1, H1⟩ := sum32 a b
 obtain ⟨x1, f1, m1, G1⟩ := xor32 d a1 hd l1
 obtain ⟨d1, k1, R1⟩ := rot32 x1 16 m1
 obtain ⟨c1, e2, l2, H2⟩ := sum32 c d1
 obtain ⟨x2, f2, m2, G2⟩ := xor32 b c1 hb l2
 obtain ⟨b1, k2, R2⟩ := rot32 x2 12 m2
 obtain ⟨a2, e3, l3, H3⟩ := sum32 a1 b1
 obtain ⟨x3, f3, m3, G3⟩ := xor32 d1 a2 k1 l3
 obtain ⟨d2, k3, R3⟩ := rot32 x3 8 m3
 obtain ⟨c2, e4, l4, H4⟩ := sum32 c1 d2
 obtain ⟨x4, f4, m4, G4⟩ := xor32 b1 c2 k2 l4
 obtain ⟨b2, k4, R4⟩ := rot32 x4 7 m4
 have hq : qr a b c d = (a2, b2, c2, d2) := by
  unfold qr
  simp only [H1.out, G1.out, R1.out, H2.out, G2.out, R2.out, H3.out, G3.out, R3.out, H4.out, G4.out, R4.out]
 rw [hq]
 exact ⟨l3, k4, l4, k3⟩
end Go.Proofs.YtkhbihnnkflfkaaGreat
