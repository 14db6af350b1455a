/-
  Variants of equations: matching both ways is the same as having one numbering of the variables.
-/
import Derived.Test.YtlcdahaihlflaaaA04p
namespace Go.Proofs.Ytlcdahaihlflaaa
open Go Go.Lg
set_option linter.unusedSimpArgs false
set_option linter.unusedVariables false
/-! One numbering. -/
end Go.Proofs.Ytlcdahaihlflaaa
