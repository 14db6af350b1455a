/-
  slices.Clone: its keep list.
-/
import Derived.Test.YtfokjjlbdaabaaaSet
namespace Go.Proofs.Ytfokjjlbdaabaaa
open Go Go.Lg
def kp93 : List (Nat × List Nat) := [(0, [0]), (1, [0, 4]), (2, [2]), (3, [2])]
attribute [go_sem] kp93
end Go.Proofs.Ytfokjjlbdaabaaa
