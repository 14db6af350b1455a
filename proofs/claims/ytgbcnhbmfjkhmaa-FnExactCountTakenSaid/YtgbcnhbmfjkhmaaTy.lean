/-
  The data of the statements: Lean types, their encodings as logical values, the counts of the size checks. Made by Ty.gen.
-/
import Derived.Test.YtgbcnhbmfjkhmaaSet
import Derived.Test.YtgbcnhbmfjkhmaaLgK4
import Derived.Test.YtgbcnhbmfjkhmaaLgK5
namespace Go.Proofs.Ytgbcnhbmfjkhmaa
open Go Go.Lg
def IntsD (x : List Int) : D := .sl .any (x.map (.int .i64))
attribute [go_sem] IntsD
theorem ints_set (ys : List (List Int)) (i : Nat) (u : List Int) : (ys.map IntsD).set i (.sl .any (u.map (.int .i64))) = (ys.set i u).map IntsD := by rw [List.map_set]; rfl
attribute [go_sem] ints_set
def cntInt64S (xs : List Int) : Nat := xs.length
def SigD (x : List Int) : D := .agg [.sl .any (x.map (.int .i64))]
attribute [go_sem] SigD
def cntSig (x : List Int) : Nat := cntInt64S x
structure TransT where
  sym : Int
  args : List Int
  to : Int
  deriving Inhabited
def TransD (x : TransT) : D := .agg [.int .i64 x.sym, .sl .any (x.args.map (.int .i64)), .int .i64 x.to]
attribute [go_sem] TransD
def cntTrans (x : TransT) : Nat := cntInt64S x.args
def cntTransS (xs : List TransT) : Nat := xs.length + (xs.map cntTrans).sum
structure AutoT where
  states : Int
  rules : List TransT
  final : List Int
  deriving Inhabited
def AutoD (x : AutoT) : D := .agg [.int .i64 x.states, .sl .any (x.rules.map TransD), .sl .any (x.final.map (.int .i64))]
attribute [go_sem] AutoD
def cntAuto (x : AutoT) : Nat := cntTransS x.rules + cntInt64S x.final
theorem szd_rng {b : Int} {n : Nat} (h : -1 ≤ b ∧ b ≤ 1048576) : -1 ≤ szd b n ∧ szd b n ≤ 1048576 := by unfold szd; split <;> omega
end Go.Proofs.Ytgbcnhbmfjkhmaa
