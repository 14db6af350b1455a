/-
  Contracts of the chapter on conversions: equations.
-/
import Derived.Test.YtfokjjlbdaabaaaSet
import Derived.Test.YtfokjjlbdaabaaaA01
import Derived.Test.YtfokjjlbdaabaaaSl
namespace Go.Proofs.Ytfokjjlbdaabaaa
open Go Go.Lg
set_option linter.unusedSimpArgs false
set_option maxHeartbeats 4000000
attribute [local irreducible] SW runL runQ runG runQG FC Ret1
end Go.Proofs.Ytfokjjlbdaabaaa
