/-
  The data of the statements: Lean types, their encodings as logical values, the counts of the size checks. Made by Ty.gen.
-/
import Derived.Test.YtobbdopkdhjghaaSet
import Derived.Test.YtobbdopkdhjghaaLgK4
import Derived.Test.YtobbdopkdhjghaaLgK5
namespace Go.Proofs.Ytobbdopkdhjghaa
open Go Go.Lg
def IntsD (x : List Int) : D := .sl .any (x.map (.int .i64))
attribute [go_sem] IntsD
theorem ints_set (ys : List (List Int)) (i : Nat) (u : List Int) : (ys.map IntsD).set i (.sl .any (u.map (.int .i64))) = (ys.set i u).map IntsD := by rw [List.map_set]; rfl
attribute [go_sem] ints_set
def cntInt64S (xs : List Int) : Nat := xs.length
def SigD (x : List Int) : D := .agg [.sl .any (x.map (.int .i64))]
attribute [go_sem] SigD
def cntSig (x : List Int) : Nat := cntInt64S x
theorem szd_rng {b : Int} {n : Nat} (h : -1 ≤ b ∧ b ≤ 1048576) : -1 ≤ szd b n ∧ szd b n ≤ 1048576 := by unfold szd; split <;> omega
end Go.Proofs.Ytobbdopkdhjghaa
