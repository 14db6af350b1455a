/-
  Contracts of the chapters on substitutions and rules: linear terms, valid rules.
-/
import Derived.Test.YtgbcnhbmfjkhmaaSet
import Derived.Test.YtgbcnhbmfjkhmaaA01b
namespace Go.Proofs.Ytgbcnhbmfjkhmaa
open Go Go.Lg
set_option linter.unusedSimpArgs false
set_option maxHeartbeats 4000000
attribute [local irreducible] SW runL runQ runG runQG FC
def RuleOkP (rs l r : List Int) : Prop := (TermOkP rs l ∧ TermOkP rs r ∧ 0 ≤ l.getD 0 default) ∧ ∀ j < r.length, r.getD j default < 0 → r.getD j default ∈ l
end Go.Proofs.Ytgbcnhbmfjkhmaa
