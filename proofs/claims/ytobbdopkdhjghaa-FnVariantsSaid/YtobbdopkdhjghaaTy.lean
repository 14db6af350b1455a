/-
  The data of the statements: Lean types, their encodings as logical values, the counts of the size checks. Made by Ty.gen.
-/
import Derived.Test.YtobbdopkdhjghaaSet
import Derived.Test.YtobbdopkdhjghaaLgK4
import Derived.Test.YtobbdopkdhjghaaLgK5
namespace Go.Proofs.Ytobbdopkdhjghaa
open Go Go.Lg
def IntsD (x : List Int) : D := .sl .any (x.map (.int .i64))
attribute [go_sem] IntsD
theorem ints_set (ys : List (List Int)) (i : Nat) (u : List Int) : (ys.map IntsD).set i (.sl .any (u.map (.int .i64))) = (ys.set i u).map IntsD := by rw [List.map_set]; rfl
attribute [go_sem] ints_set
structure EqT where
  l : List Int
  r : List Int
  deriving Inhabited
def EqD (x : EqT) : D := .agg [.sl .any (x.l.map (.int .i64)), .sl .any (x.r.map (.int .i64))]
attribute [go_sem] EqD
end Go.Proofs.Ytobbdopkdhjghaa
