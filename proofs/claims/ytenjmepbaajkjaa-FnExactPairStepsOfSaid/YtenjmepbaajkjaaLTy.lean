/-
  Labelled encodings, what holds of them, the labelled copies. Made by L.gen.
-/
import Derived.Test.YtenjmepbaajkjaaTy
import Derived.Test.YtenjmepbaajkjaaLgK7
namespace Go.Proofs.Ytenjmepbaajkjaa
open Go Go.Lg
set_option linter.unusedSimpArgs false
set_option linter.unusedVariables false
set_option maxHeartbeats 4000000
attribute [local irreducible] SW runL runQ runG runQG FC Ret Ret1
def shInt64S : Sh := .slc (.cell .nil)
def Int64SL (p : List Nat) (xs : List Int) : D := .sl (.lab p) (xs.map (.int .i64))
attribute [go_sem] Int64SL
def mcInt64S (xs : List Int) : Nat := xs.length
theorem le_Int64SL (p : List Nat) (xs : List Int) : D.le (Int64SL p xs) (.sl .any (xs.map (.int .i64))) := .any
theorem mcle_Int64S (xs : List Int) : mcInt64S xs ≤ 4 * cntInt64S xs := by unfold mcInt64S cntInt64S; omega
theorem lt_Int64S (p : List Nat) (xs : List Int) : LT shInt64S p (Int64SL p xs) (mcInt64S xs) := LT_ints p xs
def PolyL (p : List Nat) (x : PolyT) : D := .agg [.int .i64 x.const, Int64SL (p ++ [1]) x.coef]
attribute [go_sem] PolyL
theorem le_PolyLc (p : List Nat) (x : PolyT) : leL (PolyL p x).cells (PolyD x).cells := ⟨.refl _, le_Int64SL _ _, trivial⟩
theorem le_PolyL (p : List Nat) (x : PolyT) : D.le (PolyL p x) (PolyD x) := by unfold PolyL PolyD; rw [le_agg]; exact le_PolyLc p x
def shPolyS : Sh := .slc (.cell (.sub shInt64S .nil))
def PolySL (p : List Nat) (xs : List PolyT) : D := .sl (.lab p) (mapR (fun i y => PolyL (p ++ [i]) y) xs)
attribute [go_sem] PolySL
theorem le_PolySL (p : List Nat) (xs : List PolyT) : D.le (PolySL p xs) (.sl .any (xs.map PolyD)) := le_mapR xs fun j x => le_PolyLc _ _
def mcPolyS (xs : List PolyT) : Nat := (xs.map fun x => ((mcInt64S x.coef + 0) + 1)).sum
theorem lt_PolyS (p : List Nat) (xs : List PolyT) : LT shPolyS p (PolySL p xs) (mcPolyS xs) := LT_mapR xs fun j x => by unfold LF; exact ⟨_, _, _, rfl, rfl, by unfold LF; exact ⟨_, _, _, _, rfl, rfl, lt_Int64S _ _, by unfold LF; exact ⟨rfl, rfl⟩⟩⟩
def PairStepL (p : List Nat) (x : PairStepT) : D := .agg [Int64SL (p ++ [0]) x.part, Int64SL (p ++ [1]) x.proj, PolySL (p ++ [2]) x.polys, Int64SL (p ++ [3]) x.gone]
attribute [go_sem] PairStepL
theorem le_PairStepLc (p : List Nat) (x : PairStepT) : leL (PairStepL p x).cells (PairStepD x).cells := ⟨le_Int64SL _ _, le_Int64SL _ _, le_PolySL _ _, le_Int64SL _ _, trivial⟩
theorem le_PairStepL (p : List Nat) (x : PairStepT) : D.le (PairStepL p x) (PairStepD x) := by unfold PairStepL PairStepD; rw [le_agg]; exact le_PairStepLc p x
def shPairStepS : Sh := .slc (.sub shInt64S (.sub shInt64S (.sub shPolyS (.sub shInt64S .nil))))
def PairStepSL (p : List Nat) (xs : List PairStepT) : D := .sl (.lab p) (mapR (fun i y => PairStepL (p ++ [i]) y) xs)
attribute [go_sem] PairStepSL
theorem le_PairStepSL (p : List Nat) (xs : List PairStepT) : D.le (PairStepSL p xs) (.sl .any (xs.map PairStepD)) := le_mapR xs fun j x => le_PairStepLc _ _
def mcPairStepS (xs : List PairStepT) : Nat := (xs.map fun x => (mcInt64S x.part + (mcInt64S x.proj + (mcPolyS x.polys + (mcInt64S x.gone + 0))))).sum
theorem lt_PairStepS (p : List Nat) (xs : List PairStepT) : LT shPairStepS p (PairStepSL p xs) (mcPairStepS xs) := LT_mapR xs fun j x => by unfold LF; exact ⟨_, _, _, _, rfl, rfl, lt_Int64S _ _, by unfold LF; exact ⟨_, _, _, _, rfl, rfl, lt_Int64S _ _, by unfold LF; exact ⟨_, _, _, _, rfl, rfl, lt_PolyS _ _, by unfold LF; exact ⟨_, _, _, _, rfl, rfl, lt_Int64S _ _, by unfold LF; exact ⟨rfl, rfl⟩⟩⟩⟩⟩
end Go.Proofs.Ytenjmepbaajkjaa
