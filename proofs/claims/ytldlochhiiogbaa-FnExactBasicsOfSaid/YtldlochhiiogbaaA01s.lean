/-
  Sorted lists of numbers.
-/
import Derived.Test.YtldlochhiiogbaaA01b
namespace Go.Proofs.Ytldlochhiiogbaa
open Go Go.Lg
end Go.Proofs.Ytldlochhiiogbaa
