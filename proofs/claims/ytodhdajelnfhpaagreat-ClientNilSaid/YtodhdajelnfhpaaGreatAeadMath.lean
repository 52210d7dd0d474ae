/-
  THE PLAIN LAW of package aead: what was sealed comes back; no program in sight.
-/
import Derived.Test.YtodhdajelnfhpaaGreatAead
namespace Go.Proofs.YtodhdajelnfhpaaGreat
set_option linter.unusedVariables false
set_option linter.unusedSimpArgs false
end Go.Proofs.YtodhdajelnfhpaaGreat
