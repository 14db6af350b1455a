/-
  Contracts of instances of package slices. Made by Sl.gen.
-/
import Derived.Test.YtldlochhiiogbaaSet
import Derived.Test.YtldlochhiiogbaaTy
namespace Go.Proofs.Ytldlochhiiogbaa
open Go Go.Lg
set_option linter.unusedSimpArgs false
set_option maxHeartbeats 4000000
attribute [local irreducible] SW runL runQ runG runQG FC Ret1
end Go.Proofs.Ytldlochhiiogbaa
