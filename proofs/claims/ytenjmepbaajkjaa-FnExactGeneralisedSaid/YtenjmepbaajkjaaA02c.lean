/-
  Contracts of package slices' Grow (of a nil list) and Concat.
-/
import Derived.Test.YtenjmepbaajkjaaA01b
import Derived.Test.YtenjmepbaajkjaaLgK6
import Derived.Test.YtenjmepbaajkjaaLgK4
import Derived.Test.YtenjmepbaajkjaaLgK7
namespace Go.Proofs.Ytenjmepbaajkjaa
open Go Go.Lg
set_option linter.unusedSimpArgs false
set_option linter.unusedVariables false
set_option maxHeartbeats 4000000
attribute [local irreducible] SW runL runQ runG runQG FC LopsW
end Go.Proofs.Ytenjmepbaajkjaa
