/-
  Contracts of the chapter on conditional rules: the program's side.
-/
import Derived.Test.YtgbcnhbmfjkhmaaSet
import Derived.Test.YtgbcnhbmfjkhmaaA27b
namespace Go.Proofs.Ytgbcnhbmfjkhmaa
open Go Go.Lg
set_option linter.unusedSimpArgs false
set_option maxHeartbeats 400000
attribute [local irreducible] SW runL runQ runG runQG FC
end Go.Proofs.Ytgbcnhbmfjkhmaa
