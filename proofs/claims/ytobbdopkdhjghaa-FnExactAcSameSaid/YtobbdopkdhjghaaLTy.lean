/-
  Labelled encodings, what holds of them, the labelled copies. Made by L.gen.
-/
import Derived.Test.YtobbdopkdhjghaaTy
import Derived.Test.YtobbdopkdhjghaaLgK7
namespace Go.Proofs.Ytobbdopkdhjghaa
open Go Go.Lg
set_option linter.unusedSimpArgs false
set_option linter.unusedVariables false
set_option maxHeartbeats 4000000
attribute [local irreducible] SW runL runQ runG runQG FC Ret Ret1
def Int64SL (p : List Nat) (xs : List Int) : D := .sl (.lab p) (xs.map (.int .i64))
attribute [go_sem] Int64SL
theorem le_Int64SL (p : List Nat) (xs : List Int) : D.le (Int64SL p xs) (.sl .any (xs.map (.int .i64))) := .any
def Int64SSL (p : List Nat) (xs : List (List Int)) : D := .sl (.lab p) (mapR (fun i y => Int64SL (p ++ [i] ++ [0]) y) xs)
attribute [go_sem] Int64SSL
theorem le_Int64SSL (p : List Nat) (xs : List (List Int)) : D.le (Int64SSL p xs) (.sl .any (xs.map IntsD)) := le_mapR xs fun j x => ⟨le_Int64SL _ _, trivial⟩
end Go.Proofs.Ytobbdopkdhjghaa
