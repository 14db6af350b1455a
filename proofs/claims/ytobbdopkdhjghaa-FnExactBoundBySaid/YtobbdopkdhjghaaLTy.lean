/-
  Labelled encodings, what holds of them, the labelled copies. Made by L.gen.
-/
import Derived.Test.YtobbdopkdhjghaaTy
import Derived.Test.YtobbdopkdhjghaaLgK7
namespace Go.Proofs.Ytobbdopkdhjghaa
open Go Go.Lg
set_option linter.unusedSimpArgs false
set_option linter.unusedVariables false
set_option maxHeartbeats 4000000
attribute [local irreducible] SW runL runQ runG runQG FC Ret
end Go.Proofs.Ytobbdopkdhjghaa
