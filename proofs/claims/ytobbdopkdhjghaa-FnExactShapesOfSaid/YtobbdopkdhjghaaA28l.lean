/-
  Sorted forms modulo associativity and commutativity: the program's sorted form, and what it exports.
-/
import Derived.Test.YtobbdopkdhjghaaA28k
namespace Go.Proofs.Ytobbdopkdhjghaa
open Go Go.Lg
set_option linter.unusedSimpArgs false
set_option linter.unusedVariables false
set_option maxHeartbeats 4000000
attribute [local irreducible] SW runL runQ runG runQG FC Ret1 toF redoL
attribute [local go_sem] D.mv
end Go.Proofs.Ytobbdopkdhjghaa
