/-
  Lg: LgSortB, LgSortC, one behind the other.
-/
import Derived.Test.YtlcdahaihlflaaaLgK7
import Derived.Shelf.GgSortFunc.Insertion
import Derived.Sort.Statements
/-
  Lg: slices.SortFunc of a list of lists in a box: the contract, out of what the kit says of the sort (handed in).
-/
namespace Go.Lg
open Go Go.RowKit Go.Proofs
end Go.Lg
/-
  Lg: slices.SortFunc of an own list of lists of numbers: what is kept of the state must be seen not to read that list.
-/
namespace Go.Lg
open Go Go.RowKit Go.Proofs
abbrev intsT (p : Tk × List Int) : D := .sl p.1 (p.2.map (.int .i64))
theorem flat_intsT (ps : List (Tk × List Int)) : flat (ps.map intsT) = ps.map intsT := by
 induction ps with
 | nil => rfl
 | cons p r ih => simp [flat] at ih ⊢; simp [D.cells, ih]
end Go.Lg
