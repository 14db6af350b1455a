/-
  Contracts of the chapter on proofs: nodes and proofs.
-/
import Derived.Test.YtobbdopkdhjghaaSet
import Derived.Test.YtobbdopkdhjghaaA01
import Derived.Test.YtobbdopkdhjghaaSl
namespace Go.Proofs.Ytobbdopkdhjghaa
open Go Go.Lg
set_option linter.unusedSimpArgs false
set_option maxHeartbeats 4000000
attribute [local irreducible] SW runL runQ runG runQG FC
end Go.Proofs.Ytobbdopkdhjghaa
