/-
  Contracts of instances of package slices. Made by Sl.gen.
-/
import Derived.Test.YtobbdopkdhjghaaSet
import Derived.Test.YtobbdopkdhjghaaTy
namespace Go.Proofs.Ytobbdopkdhjghaa
open Go Go.Lg
set_option linter.unusedSimpArgs false
set_option maxHeartbeats 4000000
attribute [local irreducible] SW runL runQ runG runQG FC Ret1
def kp89 : List (Nat × List Nat) := [(0, [0, 1]), (1, [0, 1, 10]), (2, [4]), (3, [0, 1, 12, 13]), (4, [0, 1, 12, 13, 14]), (5, [0, 1, 5, 12, 13]), (6, [0, 1, 12, 13, 24]), (7, [4]), (8, [0, 1, 12, 13]), (9, [4])]
attribute [go_sem] kp89
end Go.Proofs.Ytobbdopkdhjghaa
