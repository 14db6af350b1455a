/-
  slices.Clone: its keep list.
-/
import Derived.Test.YtlcdahaihlflaaaSet
namespace Go.Proofs.Ytlcdahaihlflaaa
open Go Go.Lg
def kp90 : List (Nat × List Nat) := [(0, [0]), (1, [0, 4]), (2, [2]), (3, [2])]
attribute [go_sem] kp90
end Go.Proofs.Ytlcdahaihlflaaa
