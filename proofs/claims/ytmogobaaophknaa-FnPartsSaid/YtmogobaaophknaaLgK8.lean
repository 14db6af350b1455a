/-
  Lg: LgSortB, LgSortC, one behind the other.
-/
import Derived.Test.YtmogobaaophknaaLgK7
import Derived.Shelf.GgSortFunc.Insertion
import Derived.Sort.Statements
/-
  Lg: slices.SortFunc of a list of lists in a box: the contract, out of what the kit says of the sort (handed in).
-/
namespace Go.Lg
open Go Go.RowKit Go.Proofs
end Go.Lg
/-
  Lg: slices.SortFunc of an own list of lists of numbers: what is kept of the state must be seen not to read that list.
-/
namespace Go.Lg
open Go Go.RowKit Go.Proofs
end Go.Lg
