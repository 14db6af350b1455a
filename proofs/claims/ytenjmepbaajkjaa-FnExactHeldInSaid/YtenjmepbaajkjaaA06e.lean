/-
  Systems: SystemOk of both sides; the equations of a system's rules.
-/
import Derived.Test.YtenjmepbaajkjaaA06
import Derived.Test.YtenjmepbaajkjaaA01b
import Derived.Test.YtenjmepbaajkjaaLTy
namespace Go.Proofs.Ytenjmepbaajkjaa
open Go Go.Lg
set_option linter.unusedSimpArgs false
set_option linter.unusedVariables false
set_option maxHeartbeats 4000000
attribute [local irreducible] SW runL runQ runG runQG FC
attribute [go_sem] upR_length mapR_length mapR_getDm
def RuleP (rs : List Int) (r : RuleT) : Prop := RuleOkP rs r.l r.r
def SystemOkP (x : SystemT) : Prop := (SigOkP x.sig ∧ x.rules.length ≤ 12) ∧ ∀ j < x.rules.length, RuleP x.sig (x.rules.getD j default)
theorem SystemOkP.len {x : SystemT} (h : SystemOkP x) (j : Nat) (hj : j < x.rules.length) : (1 ≤ (x.rules.getD j default).l.length ∧ (x.rules.getD j default).l.length ≤ 60) ∧ (1 ≤ (x.rules.getD j default).r.length ∧ (x.rules.getD j default).r.length ≤ 60) :=
  ⟨(h.2 j hj).1.1.2.1, (h.2 j hj).1.2.1.2.1⟩
def kp116 : List (Nat × List Nat) := [(0, [0]), (1, [0, 4]), (2, [2]), (3, [2])]
attribute [go_sem] kp116
theorem take_snoc {α : Type} [Inhabited α] (xs : List α) (i : Nat) (h : i < xs.length) : xs.take (i + 1) = xs.take i ++ [xs.getD i default] := by
  rw [List.take_succ_eq_append_getElem h]
  simp [List.getD, List.getElem?_eq_getElem h]
end Go.Proofs.Ytenjmepbaajkjaa
