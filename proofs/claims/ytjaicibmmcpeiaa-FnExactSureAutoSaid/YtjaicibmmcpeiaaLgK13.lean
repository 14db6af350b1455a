/-
  Lg: LgOld, LgStoreO, LgXL, LgFrzB, one behind the other.
-/
import Derived.Test.YtjaicibmmcpeiaaLgK11
/-
  Lg: a function that is handed no memory: all that it is handed may be taken as labelled, so that its own new lists are seen to lie elsewhere.
-/
namespace Go.Lg
open Go Go.RowKit
end Go.Lg
/-
  Lg: a store into an own list of numbers, of which the token stays: what is kept of the state must be seen not to read that list.
-/
namespace Go.Lg
open Go Go.RowKit
end Go.Lg
/-
  Lg: a drawn region that makes memory, parted where the driver can't go on.
-/
namespace Go.Lg
open Go Go.RowKit
end Go.Lg
/-
  Lg: what was made by 'make', filled, and lies in a cell of a variable in memory, is taken for a list from now on.
-/
namespace Go.Lg
open Go Go.RowKit
end Go.Lg
