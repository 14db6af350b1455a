/-
  What terms have in common is a term: the plain law.
-/
import Derived.Test.YtfokjjlbdaabaaaA05p
namespace Go.Proofs.Ytfokjjlbdaabaaa
open Go Go.Lg
end Go.Proofs.Ytfokjjlbdaabaaa
