/-
  Contracts of package slices' Grow (of a nil list) and Concat.
-/
import Derived.Test.YtfokjjlbdaabaaaA01b
import Derived.Test.YtfokjjlbdaabaaaLgK6
import Derived.Test.YtfokjjlbdaabaaaLgK4
import Derived.Test.YtfokjjlbdaabaaaLgK7
namespace Go.Proofs.Ytfokjjlbdaabaaa
open Go Go.Lg
set_option linter.unusedSimpArgs false
set_option linter.unusedVariables false
set_option maxHeartbeats 4000000
attribute [local irreducible] SW runL runQ runG runQG FC LopsW
end Go.Proofs.Ytfokjjlbdaabaaa
