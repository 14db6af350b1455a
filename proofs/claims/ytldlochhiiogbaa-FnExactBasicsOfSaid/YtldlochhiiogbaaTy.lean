/-
  The data of the statements: Lean types, their encodings as logical values, the counts of the size checks. Made by Ty.gen.
-/
import Derived.Test.YtldlochhiiogbaaSet
import Derived.Test.YtldlochhiiogbaaLgK4
import Derived.Test.YtldlochhiiogbaaLgK5
namespace Go.Proofs.Ytldlochhiiogbaa
open Go Go.Lg
def IntsD (x : List Int) : D := .sl .any (x.map (.int .i64))
attribute [go_sem] IntsD
theorem ints_set (ys : List (List Int)) (i : Nat) (u : List Int) : (ys.map IntsD).set i (.sl .any (u.map (.int .i64))) = (ys.set i u).map IntsD := by rw [List.map_set]; rfl
attribute [go_sem] ints_set
def cntInt64S (xs : List Int) : Nat := xs.length
def SigD (x : List Int) : D := .agg [.sl .any (x.map (.int .i64))]
attribute [go_sem] SigD
def cntSig (x : List Int) : Nat := cntInt64S x
def cntInt64SS (xs : List (List Int)) : Nat := xs.length + (xs.map cntInt64S).sum
def cntSubst (x : List (List Int)) : Nat := cntInt64SS x
structure RuleT where
  l : List Int
  r : List Int
  deriving Inhabited
def RuleD (x : RuleT) : D := .agg [.sl .any (x.l.map (.int .i64)), .sl .any (x.r.map (.int .i64))]
attribute [go_sem] RuleD
def cntRule (x : RuleT) : Nat := cntInt64S x.l + cntInt64S x.r
def cntRuleS (xs : List RuleT) : Nat := xs.length + (xs.map cntRule).sum
structure SystemT where
  sig : List Int
  rules : List RuleT
  deriving Inhabited
def SystemD (x : SystemT) : D := .agg [.sl .any (x.sig.map (.int .i64)), .sl .any (x.rules.map RuleD)]
attribute [go_sem] SystemD
def cntSystem (x : SystemT) : Nat := cntSig x.sig + cntRuleS x.rules
structure StepT where
  at_ : Int
  rule : Int
  to : List Int
  deriving Inhabited
def cntStep (x : StepT) : Nat := cntInt64S x.to
def cntStepS (xs : List StepT) : Nat := xs.length + (xs.map cntStep).sum
structure WalkT where
  frm : List Int
  steps : List StepT
  deriving Inhabited
def cntWalk (x : WalkT) : Nat := cntInt64S x.frm + cntStepS x.steps
theorem szd_rng {b : Int} {n : Nat} (h : -1 ≤ b ∧ b ≤ 1048576) : -1 ≤ szd b n ∧ szd b n ≤ 1048576 := by unfold szd; split <;> omega
end Go.Proofs.Ytldlochhiiogbaa
