/-
  The data of the statements: Lean types, their encodings as logical values, the counts of the size checks. Made by Ty.gen.
-/
import Derived.Test.YtgbcnhbmfjkhmaaSet
import Derived.Test.YtgbcnhbmfjkhmaaLgK4
import Derived.Test.YtgbcnhbmfjkhmaaLgK5
namespace Go.Proofs.Ytgbcnhbmfjkhmaa
open Go Go.Lg
def IntsD (x : List Int) : D := .sl .any (x.map (.int .i64))
attribute [go_sem] IntsD
theorem ints_set (ys : List (List Int)) (i : Nat) (u : List Int) : (ys.map IntsD).set i (.sl .any (u.map (.int .i64))) = (ys.set i u).map IntsD := by rw [List.map_set]; rfl
attribute [go_sem] ints_set
def cntInt64S (xs : List Int) : Nat := xs.length
def SigD (x : List Int) : D := .agg [.sl .any (x.map (.int .i64))]
attribute [go_sem] SigD
def cntSig (x : List Int) : Nat := cntInt64S x
def cntInt64SS (xs : List (List Int)) : Nat := xs.length + (xs.map cntInt64S).sum
def cntSubst (x : List (List Int)) : Nat := cntInt64SS x
structure RuleT where
  l : List Int
  r : List Int
  deriving Inhabited
def RuleD (x : RuleT) : D := .agg [.sl .any (x.l.map (.int .i64)), .sl .any (x.r.map (.int .i64))]
attribute [go_sem] RuleD
structure SystemT where
  sig : List Int
  rules : List RuleT
  deriving Inhabited
def SystemD (x : SystemT) : D := .agg [.sl .any (x.sig.map (.int .i64)), .sl .any (x.rules.map RuleD)]
attribute [go_sem] SystemD
structure StepT where
  at_ : Int
  rule : Int
  to : List Int
  deriving Inhabited
def cntStep (x : StepT) : Nat := cntInt64S x.to
def cntStepS (xs : List StepT) : Nat := xs.length + (xs.map cntStep).sum
structure WalkT where
  frm : List Int
  steps : List StepT
  deriving Inhabited
def cntWalk (x : WalkT) : Nat := cntInt64S x.frm + cntStepS x.steps
structure EqT where
  l : List Int
  r : List Int
  deriving Inhabited
def EqD (x : EqT) : D := .agg [.sl .any (x.l.map (.int .i64)), .sl .any (x.r.map (.int .i64))]
attribute [go_sem] EqD
def cntEq (x : EqT) : Nat := cntInt64S x.l + cntInt64S x.r
def cntEqS (xs : List EqT) : Nat := xs.length + (xs.map cntEq).sum
structure CRuleT where
  l : List Int
  r : List Int
  conds : List EqT
  deriving Inhabited
def CRuleD (x : CRuleT) : D := .agg [.sl .any (x.l.map (.int .i64)), .sl .any (x.r.map (.int .i64)), .sl .any (x.conds.map EqD)]
attribute [go_sem] CRuleD
def cntCRule (x : CRuleT) : Nat := cntInt64S x.l + cntInt64S x.r + cntEqS x.conds
def cntCRuleS (xs : List CRuleT) : Nat := xs.length + (xs.map cntCRule).sum
structure CSystemT where
  sig : List Int
  rules : List CRuleT
  deriving Inhabited
def CSystemD (x : CSystemT) : D := .agg [.sl .any (x.sig.map (.int .i64)), .sl .any (x.rules.map CRuleD)]
attribute [go_sem] CSystemD
def cntCSystem (x : CSystemT) : Nat := cntSig x.sig + cntCRuleS x.rules
theorem szd_rng {b : Int} {n : Nat} (h : -1 ≤ b ∧ b ≤ 1048576) : -1 ≤ szd b n ∧ szd b n ≤ 1048576 := by unfold szd; split <;> omega
end Go.Proofs.Ytgbcnhbmfjkhmaa
