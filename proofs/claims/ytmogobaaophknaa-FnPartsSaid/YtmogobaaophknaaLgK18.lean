/-
  Lg: LgQue, one behind the other.
-/
import Derived.Test.YtmogobaaophknaaLgK6
import Derived.ArgAppend
import Derived.Laws.Tables
/-
  Lg: a queue: an own list whose first elements are given up ('x = x[1:]'), to which one appends again.
-/
namespace Go.Lg
open Go Go.RowKit
end Go.Lg
