/-
  Contracts of package slices' Grow (of a nil list) and Concat.
-/
import Derived.Test.YtpfeecgbiikpaaaGreatA01b
import Derived.Test.YtpfeecgbiikpaaaGreatLgK6
import Derived.Test.YtpfeecgbiikpaaaGreatLgK4
import Derived.Test.YtpfeecgbiikpaaaGreatLgK7
namespace Go.Proofs.YtpfeecgbiikpaaaGreat
open Go Go.Lg
set_option linter.unusedSimpArgs false
set_option linter.unusedVariables false
set_option maxHeartbeats 4000000
attribute [local irreducible] SW runL runQ runG runQG FC LopsW
end Go.Proofs.YtpfeecgbiikpaaaGreat
