/-
  Contracts of the chapter on places: subterms, arguments' places, a term put at a place.
-/
import Derived.Test.YtldlochhiiogbaaA03t
import Derived.Test.YtldlochhiiogbaaA02c
namespace Go.Proofs.Ytldlochhiiogbaa
open Go Go.Lg
set_option linter.unusedSimpArgs false
set_option linter.unusedVariables false
set_option maxHeartbeats 4000000
attribute [local irreducible] SW runL runQ runG runQG FC Ret1
end Go.Proofs.Ytldlochhiiogbaa
