/-
  The data of the statements: Lean types, their encodings as logical values, the counts of the size checks. Made by Ty.gen.
-/
import Derived.Test.YtenjmepbaajkjaaSet
import Derived.Test.YtenjmepbaajkjaaLgK4
import Derived.Test.YtenjmepbaajkjaaLgK5
namespace Go.Proofs.Ytenjmepbaajkjaa
open Go Go.Lg
def IntsD (x : List Int) : D := .sl .any (x.map (.int .i64))
attribute [go_sem] IntsD
theorem ints_set (ys : List (List Int)) (i : Nat) (u : List Int) : (ys.map IntsD).set i (.sl .any (u.map (.int .i64))) = (ys.set i u).map IntsD := by rw [List.map_set]; rfl
attribute [go_sem] ints_set
def cntInt64S (xs : List Int) : Nat := xs.length
structure RuleT where
  l : List Int
  r : List Int
  deriving Inhabited
structure SystemT where
  sig : List Int
  rules : List RuleT
  deriving Inhabited
structure PolyT where
  const : Int
  coef : List Int
  deriving Inhabited
def PolyD (x : PolyT) : D := .agg [.int .i64 x.const, .sl .any (x.coef.map (.int .i64))]
attribute [go_sem] PolyD
structure PairStepT where
  part : List Int
  proj : List Int
  polys : List PolyT
  gone : List Int
  deriving Inhabited
def PairStepD (x : PairStepT) : D := .agg [.sl .any (x.part.map (.int .i64)), .sl .any (x.proj.map (.int .i64)), .sl .any (x.polys.map PolyD), .sl .any (x.gone.map (.int .i64))]
attribute [go_sem] PairStepD
structure TransT where
  sym : Int
  args : List Int
  to : Int
  deriving Inhabited
structure AutoT where
  states : Int
  rules : List TransT
  final : List Int
  deriving Inhabited
end Go.Proofs.Ytenjmepbaajkjaa
