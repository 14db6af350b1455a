/-
  Variants of equations: matching both ways is the same as having one numbering of the variables.
-/
import Derived.Test.YtenjmepbaajkjaaA04p
namespace Go.Proofs.Ytenjmepbaajkjaa
open Go Go.Lg
set_option linter.unusedSimpArgs false
set_option linter.unusedVariables false
/-! One numbering. -/
end Go.Proofs.Ytenjmepbaajkjaa
