/-
  What terms have in common is a term: the plain law.
-/
import Derived.Test.YtobbdopkdhjghaaA05p
namespace Go.Proofs.Ytobbdopkdhjghaa
open Go Go.Lg
end Go.Proofs.Ytobbdopkdhjghaa
