/-
  Lg: LgThawO, one behind the other.
-/
import Derived.Test.YtkfkdgginfpdnaaGreatDoorLgK7
import Derived.KernelRfl
/-
  Lg: an own list of numbers is taken for memory (a box): what stays of the state must be seen not to read its block.
-/
namespace Go.Lg
open Go Go.RowKit
end Go.Lg
