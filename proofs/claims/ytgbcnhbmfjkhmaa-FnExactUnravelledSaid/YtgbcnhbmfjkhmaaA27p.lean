/-
  PlainSystem of both sides.
-/
import Derived.Test.YtgbcnhbmfjkhmaaA06e
import Derived.Test.YtgbcnhbmfjkhmaaA27c
namespace Go.Proofs.Ytgbcnhbmfjkhmaa
open Go Go.Lg
set_option linter.unusedSimpArgs false
set_option linter.unusedVariables false
set_option maxHeartbeats 4000000
attribute [local irreducible] SW runL runQ runG runQG FC
end Go.Proofs.Ytgbcnhbmfjkhmaa
