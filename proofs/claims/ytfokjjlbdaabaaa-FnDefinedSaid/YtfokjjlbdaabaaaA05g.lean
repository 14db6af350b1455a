/-
  What two terms have in common: both sides.
-/
import Derived.Test.YtfokjjlbdaabaaaA05p
import Derived.Test.YtfokjjlbdaabaaaA04
import Derived.Test.YtfokjjlbdaabaaaLTy
import Derived.Test.YtfokjjlbdaabaaaLgK5
import Derived.Test.YtfokjjlbdaabaaaLgK4
import Derived.Test.YtfokjjlbdaabaaaLgK7
namespace Go.Proofs.Ytfokjjlbdaabaaa
open Go Go.Lg
set_option linter.unusedSimpArgs false
set_option linter.unusedVariables false
set_option maxHeartbeats 4000000
attribute [local irreducible] SW runL runQ runG runQG FC Ret1 toF redoL
attribute [local go_sem] List.filter_cons
end Go.Proofs.Ytfokjjlbdaabaaa
