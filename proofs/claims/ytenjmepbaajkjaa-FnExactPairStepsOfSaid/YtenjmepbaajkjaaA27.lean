/-
  Contracts of the chapter on conditional rules: valid ones.
-/
import Derived.Test.YtenjmepbaajkjaaSet
import Derived.Test.YtenjmepbaajkjaaA01b
import Derived.Test.YtenjmepbaajkjaaA20
namespace Go.Proofs.Ytenjmepbaajkjaa
open Go Go.Lg
set_option linter.unusedSimpArgs false
set_option maxHeartbeats 4000000
attribute [local irreducible] SW runL runQ runG runQG FC
end Go.Proofs.Ytenjmepbaajkjaa
