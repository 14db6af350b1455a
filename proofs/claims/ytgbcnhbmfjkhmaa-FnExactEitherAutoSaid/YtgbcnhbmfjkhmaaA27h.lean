/-
  HeldIn: the plain law (sorted lists of variables). The contracts are still to be written.
-/
import Derived.Test.YtgbcnhbmfjkhmaaA27c
import Derived.Test.YtgbcnhbmfjkhmaaA01s
namespace Go.Proofs.Ytgbcnhbmfjkhmaa
open Go Go.Lg
end Go.Proofs.Ytgbcnhbmfjkhmaa
