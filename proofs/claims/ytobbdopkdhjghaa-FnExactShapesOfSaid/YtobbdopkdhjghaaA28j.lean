/-
  Sorted forms modulo associativity and commutativity: the program's parts and their arrangement.
-/
import Derived.Test.YtobbdopkdhjghaaA28i
namespace Go.Proofs.Ytobbdopkdhjghaa
open Go Go.Lg
set_option linter.unusedSimpArgs false
set_option linter.unusedVariables false
set_option maxHeartbeats 4000000
attribute [local irreducible] SW runL runQ runG runQG FC Ret1 toF redoL
end Go.Proofs.Ytobbdopkdhjghaa
