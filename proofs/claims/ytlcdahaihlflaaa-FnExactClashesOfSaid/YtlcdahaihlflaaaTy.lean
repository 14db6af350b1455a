/-
  The data of the statements: Lean types, their encodings as logical values, the counts of the size checks. Made by Ty.gen.
-/
import Derived.Test.YtlcdahaihlflaaaSet
import Derived.Test.YtlcdahaihlflaaaLgK4
import Derived.Test.YtlcdahaihlflaaaLgK5
namespace Go.Proofs.Ytlcdahaihlflaaa
open Go Go.Lg
def IntsD (x : List Int) : D := .sl .any (x.map (.int .i64))
attribute [go_sem] IntsD
theorem ints_set (ys : List (List Int)) (i : Nat) (u : List Int) : (ys.map IntsD).set i (.sl .any (u.map (.int .i64))) = (ys.set i u).map IntsD := by rw [List.map_set]; rfl
attribute [go_sem] ints_set
def cntInt64S (xs : List Int) : Nat := xs.length
def SigD (x : List Int) : D := .agg [.sl .any (x.map (.int .i64))]
attribute [go_sem] SigD
def cntSig (x : List Int) : Nat := cntInt64S x
def cntInt64SS (xs : List (List Int)) : Nat := xs.length + (xs.map cntInt64S).sum
def cntSubst (x : List (List Int)) : Nat := cntInt64SS x
structure RuleT where
  l : List Int
  r : List Int
  deriving Inhabited
structure SystemT where
  sig : List Int
  rules : List RuleT
  deriving Inhabited
structure StepT where
  at_ : Int
  rule : Int
  to : List Int
  deriving Inhabited
def cntStep (x : StepT) : Nat := cntInt64S x.to
def cntStepS (xs : List StepT) : Nat := xs.length + (xs.map cntStep).sum
structure WalkT where
  frm : List Int
  steps : List StepT
  deriving Inhabited
def cntWalk (x : WalkT) : Nat := cntInt64S x.frm + cntStepS x.steps
structure LineT where
  fun_ : Int
  pats : List (List Int)
  body : List Int
  deriving Inhabited
def LineD (x : LineT) : D := .agg [.int .i64 x.fun_, .sl .any (x.pats.map IntsD), .sl .any (x.body.map (.int .i64))]
attribute [go_sem] LineD
def cntLine (x : LineT) : Nat := cntInt64SS x.pats + cntInt64S x.body
def cntLineS (xs : List LineT) : Nat := xs.length + (xs.map cntLine).sum
structure FrontT where
  sig : List Int
  funs : List Int
  lines : List LineT
  deriving Inhabited
def FrontD (x : FrontT) : D := .agg [.sl .any (x.sig.map (.int .i64)), .sl .any (x.funs.map (.int .i64)), .sl .any (x.lines.map LineD)]
attribute [go_sem] FrontD
def cntFront (x : FrontT) : Nat := cntSig x.sig + cntInt64S x.funs + cntLineS x.lines
theorem szd_rng {b : Int} {n : Nat} (h : -1 ≤ b ∧ b ≤ 1048576) : -1 ≤ szd b n ∧ szd b n ≤ 1048576 := by unfold szd; split <;> omega
end Go.Proofs.Ytlcdahaihlflaaa
