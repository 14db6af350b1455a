/-
  The data of the statements: Lean types, their encodings as logical values, the counts of the size checks. Made by Ty.gen.
-/
import Derived.Test.YtfokjjlbdaabaaaSet
import Derived.Test.YtfokjjlbdaabaaaLgK4
import Derived.Test.YtfokjjlbdaabaaaLgK5
namespace Go.Proofs.Ytfokjjlbdaabaaa
open Go Go.Lg
def IntsD (x : List Int) : D := .sl .any (x.map (.int .i64))
attribute [go_sem] IntsD
theorem ints_set (ys : List (List Int)) (i : Nat) (u : List Int) : (ys.map IntsD).set i (.sl .any (u.map (.int .i64))) = (ys.set i u).map IntsD := by rw [List.map_set]; rfl
attribute [go_sem] ints_set
structure RuleT where
  l : List Int
  r : List Int
  deriving Inhabited
def RuleD (x : RuleT) : D := .agg [.sl .any (x.l.map (.int .i64)), .sl .any (x.r.map (.int .i64))]
attribute [go_sem] RuleD
structure SystemT where
  sig : List Int
  rules : List RuleT
  deriving Inhabited
def SystemD (x : SystemT) : D := .agg [.sl .any (x.sig.map (.int .i64)), .sl .any (x.rules.map RuleD)]
attribute [go_sem] SystemD
end Go.Proofs.Ytfokjjlbdaabaaa
