/-
  What terms have in common: the checks ahead, both sides.
-/
import Derived.Test.YtfokjjlbdaabaaaA05j
import Derived.Test.YtfokjjlbdaabaaaA05k
namespace Go.Proofs.Ytfokjjlbdaabaaa
open Go Go.Lg
set_option linter.unusedSimpArgs false
set_option linter.unusedVariables false
set_option maxHeartbeats 4000000
attribute [local irreducible] SW runL runQ runG runQG FC Ret1 toF redoL
end Go.Proofs.Ytfokjjlbdaabaaa
