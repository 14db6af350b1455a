/-
  Systems: SystemOk of both sides; the equations of a system's rules.
-/
import Derived.Test.YtldlochhiiogbaaACl
import Derived.Test.YtldlochhiiogbaaA06s
import Derived.Test.YtldlochhiiogbaaA01b
import Derived.Test.YtldlochhiiogbaaLTy
namespace Go.Proofs.Ytldlochhiiogbaa
open Go Go.Lg
set_option linter.unusedSimpArgs false
set_option linter.unusedVariables false
set_option maxHeartbeats 4000000
attribute [local irreducible] SW runL runQ runG runQG FC
theorem take_snoc {α : Type} [Inhabited α] (xs : List α) (i : Nat) (h : i < xs.length) : xs.take (i + 1) = xs.take i ++ [xs.getD i default] := by
  rw [List.take_succ_eq_append_getElem h]
  simp [List.getD, List.getElem?_eq_getElem h]
end Go.Proofs.Ytldlochhiiogbaa
