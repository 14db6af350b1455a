/-
  Lg: LgPop, one behind the other.
-/
import Derived.Test.YtmogobaaophknaaLgK8
import Derived.Test.YtmogobaaophknaaLgK6
/-
  Lg: the last elements of an own list of lists are given up: 'x = x[:n]', to which one appends again.
-/
namespace Go.Lg
open Go Go.RowKit
end Go.Lg
