/-
  Lg: LgPtr, one behind the other.
-/
import Derived.Test.YtlcdahaihlflaaaLgK3
import Derived.Test.YtlcdahaihlflaaaLgK10
/-
  Lg: a call that returns a pointer to a variable of its own.
-/
namespace Go.Lg
open Go Go.RowKit
end Go.Lg
