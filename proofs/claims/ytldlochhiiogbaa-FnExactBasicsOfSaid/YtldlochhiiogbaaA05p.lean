/-
  What two terms have in common: the plain law.
-/
import Derived.Test.YtldlochhiiogbaaA03
namespace Go.Proofs.Ytldlochhiiogbaa
open Go Go.Lg
def SameHd (a b : List Int) : Prop := a.getD 0 default = b.getD 0 default ∧ 0 ≤ a.getD 0 default
instance (a b : List Int) : Decidable (SameHd a b) := inferInstanceAs (Decidable (_ ∧ _))
end Go.Proofs.Ytldlochhiiogbaa
