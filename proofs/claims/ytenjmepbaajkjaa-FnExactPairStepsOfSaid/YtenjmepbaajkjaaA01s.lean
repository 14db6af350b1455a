/-
  Sorted lists of numbers.
-/
import Derived.Test.YtenjmepbaajkjaaA01b
namespace Go.Proofs.Ytenjmepbaajkjaa
open Go Go.Lg
end Go.Proofs.Ytenjmepbaajkjaa
