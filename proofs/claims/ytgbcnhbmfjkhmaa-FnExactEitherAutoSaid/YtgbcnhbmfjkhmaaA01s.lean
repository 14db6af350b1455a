/-
  Sorted lists of numbers.
-/
import Derived.Test.YtgbcnhbmfjkhmaaA01b
namespace Go.Proofs.Ytgbcnhbmfjkhmaa
open Go Go.Lg
end Go.Proofs.Ytgbcnhbmfjkhmaa
