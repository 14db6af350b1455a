/-
  Lg: LgPtr, one behind the other.
-/
import Derived.Test.YtldlochhiiogbaaLgK3
import Derived.Test.YtldlochhiiogbaaLgK10
/-
  Lg: a call that returns a pointer to a variable of its own.
-/
namespace Go.Lg
open Go Go.RowKit
/-- The driver stops ahead of a region. -/
structure HoldP (P : Prop) : Prop where
  h : P
theorem HoldP.go {P : Prop} (h : P) : HoldP P := ⟨h⟩
end Go.Lg
