/-
  Contracts of package slices' Grow (of a nil list) and Concat.
-/
import Derived.Test.YtgbcnhbmfjkhmaaA01b
import Derived.Test.YtgbcnhbmfjkhmaaLgK6
import Derived.Test.YtgbcnhbmfjkhmaaLgK4
import Derived.Test.YtgbcnhbmfjkhmaaLgK7
namespace Go.Proofs.Ytgbcnhbmfjkhmaa
open Go Go.Lg
set_option linter.unusedSimpArgs false
set_option linter.unusedVariables false
set_option maxHeartbeats 4000000
attribute [local irreducible] SW runL runQ runG runQG FC LopsW
end Go.Proofs.Ytgbcnhbmfjkhmaa
