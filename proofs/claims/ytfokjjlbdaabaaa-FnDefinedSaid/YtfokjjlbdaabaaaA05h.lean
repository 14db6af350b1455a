/-
  What two terms have in common: the question, spec's side.
-/
import Derived.Test.YtfokjjlbdaabaaaA05g
namespace Go.Proofs.Ytfokjjlbdaabaaa
open Go Go.Lg
set_option linter.unusedSimpArgs false
set_option linter.unusedVariables false
set_option maxHeartbeats 4000000
attribute [local irreducible] SW runL runQ runG runQG FC Ret1 toF redoL
attribute [local go_sem] List.filter_cons
end Go.Proofs.Ytfokjjlbdaabaaa
