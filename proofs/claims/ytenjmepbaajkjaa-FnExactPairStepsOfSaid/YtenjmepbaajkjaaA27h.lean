/-
  HeldIn: the plain law (sorted lists of variables). The contracts are still to be written.
-/
import Derived.Test.YtenjmepbaajkjaaA27c
import Derived.Test.YtenjmepbaajkjaaA01s
namespace Go.Proofs.Ytenjmepbaajkjaa
open Go Go.Lg
end Go.Proofs.Ytenjmepbaajkjaa
