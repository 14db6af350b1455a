/-
  slices.Clone: its keep list.
-/
import Derived.Test.YtldlochhiiogbaaSet
namespace Go.Proofs.Ytldlochhiiogbaa
open Go Go.Lg
end Go.Proofs.Ytldlochhiiogbaa
