/-
  Contracts of the chapter on conditional rules: valid ones.
-/
import Derived.Test.YtgbcnhbmfjkhmaaSet
import Derived.Test.YtgbcnhbmfjkhmaaA01b
import Derived.Test.YtgbcnhbmfjkhmaaA20
namespace Go.Proofs.Ytgbcnhbmfjkhmaa
open Go Go.Lg
set_option linter.unusedSimpArgs false
set_option maxHeartbeats 4000000
attribute [local irreducible] SW runL runQ runG runQG FC
end Go.Proofs.Ytgbcnhbmfjkhmaa
