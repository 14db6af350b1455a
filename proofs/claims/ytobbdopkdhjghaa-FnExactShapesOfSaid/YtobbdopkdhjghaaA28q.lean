/-
  Sorted forms modulo associativity and commutativity: parts, building, forms.
-/
import Derived.Test.YtobbdopkdhjghaaA28p
namespace Go.Proofs.Ytobbdopkdhjghaa
open Go Go.Lg
set_option linter.unusedVariables false
theorem take_snocQ {α : Type} [Inhabited α] (xs : List α) (i : Nat) (h : i < xs.length) : xs.take (i + 1) = xs.take i ++ [xs.getD i default] := by
  rw [List.take_add_one, List.getElem?_eq_getElem h]
  simp [List.getD, List.getElem?_eq_getElem h]
end Go.Proofs.Ytobbdopkdhjghaa
