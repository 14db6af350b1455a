/-
  Labelled encodings, what holds of them, the labelled copies. Made by L.gen.
-/
import Derived.Test.YtlcdahaihlflaaaTy
import Derived.Test.YtlcdahaihlflaaaLgK7
namespace Go.Proofs.Ytlcdahaihlflaaa
open Go Go.Lg
set_option linter.unusedSimpArgs false
set_option linter.unusedVariables false
set_option maxHeartbeats 4000000
attribute [local irreducible] SW runL runQ runG runQG FC Ret Ret1
def shInt64S : Sh := .slc (.cell .nil)
def Int64SL (p : List Nat) (xs : List Int) : D := .sl (.lab p) (xs.map (.int .i64))
attribute [go_sem] Int64SL
def mcInt64S (xs : List Int) : Nat := xs.length
theorem le_Int64SL (p : List Nat) (xs : List Int) : D.le (Int64SL p xs) (.sl .any (xs.map (.int .i64))) := .any
theorem mcle_Int64S (xs : List Int) : mcInt64S xs ≤ 4 * cntInt64S xs := by unfold mcInt64S cntInt64S; omega
theorem lt_Int64S (p : List Nat) (xs : List Int) : LT shInt64S p (Int64SL p xs) (mcInt64S xs) := LT_ints p xs
def fsSig : Fs := (.sub shInt64S .nil)
def SigL (p : List Nat) (x : List Int) : D := .agg [Int64SL (p ++ [0]) x]
attribute [go_sem] SigL
theorem le_SigLc (p : List Nat) (x : List Int) : leL (SigL p x).cells (SigD x).cells := ⟨le_Int64SL _ _, trivial⟩
theorem le_SigL (p : List Nat) (x : List Int) : D.le (SigL p x) (SigD x) := by unfold SigL SigD; rw [le_agg]; exact le_SigLc p x
def shInt64SS : Sh := .slc (.sub shInt64S .nil)
def Int64SSL (p : List Nat) (xs : List (List Int)) : D := .sl (.lab p) (mapR (fun i y => Int64SL (p ++ [i] ++ [0]) y) xs)
attribute [go_sem] Int64SSL
theorem le_Int64SSL (p : List Nat) (xs : List (List Int)) : D.le (Int64SSL p xs) (.sl .any (xs.map IntsD)) := le_mapR xs fun j x => ⟨le_Int64SL _ _, trivial⟩
def mcInt64SS (xs : List (List Int)) : Nat := (xs.map fun x => (mcInt64S x + 0)).sum
theorem mcle_Int64SS (xs : List (List Int)) : mcInt64SS xs ≤ 4 * cntInt64SS xs := by unfold mcInt64SS cntInt64SS; exact sum_le4 (fun x => by have := mcle_Int64S x; (try simp only [cntInt64S, cntInt64S, cntSig, cntSubst] at *); omega) xs
theorem lt_Int64SS (p : List Nat) (xs : List (List Int)) : LT shInt64SS p (Int64SSL p xs) (mcInt64SS xs) := LT_mapR xs fun j x => by unfold LF; exact ⟨_, _, _, _, rfl, rfl, lt_Int64S _ _, by unfold LF; exact ⟨rfl, rfl⟩⟩
def LineL (p : List Nat) (x : LineT) : D := .agg [.int .i64 x.fun_, Int64SSL (p ++ [1]) x.pats, Int64SL (p ++ [2]) x.body]
attribute [go_sem] LineL
theorem le_LineLc (p : List Nat) (x : LineT) : leL (LineL p x).cells (LineD x).cells := ⟨.refl _, le_Int64SSL _ _, le_Int64SL _ _, trivial⟩
theorem le_LineL (p : List Nat) (x : LineT) : D.le (LineL p x) (LineD x) := by unfold LineL LineD; rw [le_agg]; exact le_LineLc p x
def shLineS : Sh := .slc (.cell (.sub shInt64SS (.sub shInt64S .nil)))
def LineSL (p : List Nat) (xs : List LineT) : D := .sl (.lab p) (mapR (fun i y => LineL (p ++ [i]) y) xs)
attribute [go_sem] LineSL
theorem le_LineSL (p : List Nat) (xs : List LineT) : D.le (LineSL p xs) (.sl .any (xs.map LineD)) := le_mapR xs fun j x => le_LineLc _ _
def mcLineS (xs : List LineT) : Nat := (xs.map fun x => ((mcInt64SS x.pats + (mcInt64S x.body + 0)) + 1)).sum
theorem mcle_LineS (xs : List LineT) : mcLineS xs ≤ 4 * cntLineS xs := by unfold mcLineS cntLineS; exact sum_le4 (fun x => by have := mcle_Int64SS x.pats; have := mcle_Int64S x.body; (try simp only [cntLine, cntInt64S, cntSig, cntSubst] at *); omega) xs
theorem lt_LineS (p : List Nat) (xs : List LineT) : LT shLineS p (LineSL p xs) (mcLineS xs) := LT_mapR xs fun j x => by unfold LF; exact ⟨_, _, _, rfl, rfl, by unfold LF; exact ⟨_, _, _, _, rfl, rfl, lt_Int64SS _ _, by unfold LF; exact ⟨_, _, _, _, rfl, rfl, lt_Int64S _ _, by unfold LF; exact ⟨rfl, rfl⟩⟩⟩⟩
def fsFront : Fs := (.sub shInt64S (.sub shInt64S (.sub shLineS .nil)))
def FrontL (p : List Nat) (x : FrontT) : D := .agg [Int64SL (p ++ [0]) x.sig, Int64SL (p ++ [1]) x.funs, LineSL (p ++ [2]) x.lines]
attribute [go_sem] FrontL
theorem le_FrontLc (p : List Nat) (x : FrontT) : leL (FrontL p x).cells (FrontD x).cells := ⟨le_Int64SL _ _, le_Int64SL _ _, le_LineSL _ _, trivial⟩
theorem le_FrontL (p : List Nat) (x : FrontT) : D.le (FrontL p x) (FrontD x) := by unfold FrontL FrontD; rw [le_agg]; exact le_FrontLc p x
def mcFront (x : FrontT) : Nat := (mcInt64S x.sig + (mcInt64S x.funs + (mcLineS x.lines + 0)))
theorem mcle_Front (x : FrontT) : mcFront x ≤ 4 * cntFront x := by have := mcle_Int64S x.sig; have := mcle_Int64S x.funs; have := mcle_LineS x.lines; unfold mcFront cntFront; (try simp only [cntSig, cntInt64S, cntWalk, cntSubst] at *); omega
def FrontH (k : Int) (x : FrontT) : List D := [HD shInt64S (k) (mcInt64S x.sig), HD shInt64S (k + (mcInt64S x.sig : Nat)) (mcInt64S x.funs), HD shLineS (k + (mcInt64S x.sig : Nat) + (mcInt64S x.funs : Nat)) (mcLineS x.lines)]
attribute [go_sem] FrontH
theorem ta_Front (i : Nat) (k : Int) (x : FrontT) : TA fsFront [i] 0 k (FrontL [i] x).cells (FrontH k x) (mcFront x) := by unfold TA; exact ⟨_, _, _, _, _, rfl, rfl, rfl, lt_Int64S _ _, by unfold TA; exact ⟨_, _, _, _, _, rfl, rfl, rfl, lt_Int64S _ _, by unfold TA; exact ⟨_, _, _, _, _, rfl, rfl, rfl, lt_LineS _ _, by unfold TA; exact ⟨rfl, rfl, rfl⟩⟩⟩⟩
end Go.Proofs.Ytlcdahaihlflaaa
