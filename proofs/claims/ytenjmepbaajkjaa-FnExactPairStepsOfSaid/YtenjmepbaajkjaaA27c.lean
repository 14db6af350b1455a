/-
  Contracts of the chapter on conditional rules: the program's side.
-/
import Derived.Test.YtenjmepbaajkjaaSet
import Derived.Test.YtenjmepbaajkjaaA27b
namespace Go.Proofs.Ytenjmepbaajkjaa
open Go Go.Lg
set_option linter.unusedSimpArgs false
set_option maxHeartbeats 400000
attribute [local irreducible] SW runL runQ runG runQG FC
end Go.Proofs.Ytenjmepbaajkjaa
