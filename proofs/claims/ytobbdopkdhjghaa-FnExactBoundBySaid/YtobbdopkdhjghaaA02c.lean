/-
  Contracts of package slices' Grow (of a nil list) and Concat.
-/
import Derived.Test.YtobbdopkdhjghaaA01b
import Derived.Test.YtobbdopkdhjghaaLgK6
import Derived.Test.YtobbdopkdhjghaaLgK4
import Derived.Test.YtobbdopkdhjghaaLgK7
namespace Go.Proofs.Ytobbdopkdhjghaa
open Go Go.Lg
set_option linter.unusedSimpArgs false
set_option linter.unusedVariables false
set_option maxHeartbeats 4000000
attribute [local irreducible] SW runL runQ runG runQG FC LopsW
end Go.Proofs.Ytobbdopkdhjghaa
