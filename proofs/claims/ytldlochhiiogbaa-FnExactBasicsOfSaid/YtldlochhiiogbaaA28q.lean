/-
  Sorted forms modulo associativity and commutativity: parts, building, forms.
-/
import Derived.Test.YtldlochhiiogbaaA28p
namespace Go.Proofs.Ytldlochhiiogbaa
open Go Go.Lg
set_option linter.unusedVariables false
end Go.Proofs.Ytldlochhiiogbaa
