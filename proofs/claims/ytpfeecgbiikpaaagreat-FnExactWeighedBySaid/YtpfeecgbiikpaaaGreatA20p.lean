/-
  Variants of equations: matching both ways is the same as having one numbering of the variables.
-/
import Derived.Test.YtpfeecgbiikpaaaGreatA04p
namespace Go.Proofs.YtpfeecgbiikpaaaGreat
open Go Go.Lg
set_option linter.unusedSimpArgs false
set_option linter.unusedVariables false
def G0 : Bnd := List.replicate 24 []
/-! One numbering. -/
end Go.Proofs.YtpfeecgbiikpaaaGreat
