/-
  One numbering of a term's variables: the program's side.
-/
import Derived.Test.YtfokjjlbdaabaaaA05q
namespace Go.Proofs.Ytfokjjlbdaabaaa
open Go Go.Lg
set_option linter.unusedSimpArgs false
set_option linter.unusedVariables false
set_option maxHeartbeats 4000000
attribute [local irreducible] SW runL runQ runG runQG FC Ret1 toF redoL
attribute [local go_sem] pu_ints tksL_ints idsL_ints
end Go.Proofs.Ytfokjjlbdaabaaa
