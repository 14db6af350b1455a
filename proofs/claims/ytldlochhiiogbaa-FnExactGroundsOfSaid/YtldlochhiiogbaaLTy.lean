/-
  Labelled encodings, what holds of them, the labelled copies. Made by L.gen.
-/
import Derived.Test.YtldlochhiiogbaaTy
import Derived.Test.YtldlochhiiogbaaLgK7
namespace Go.Proofs.Ytldlochhiiogbaa
open Go Go.Lg
set_option linter.unusedSimpArgs false
set_option linter.unusedVariables false
set_option maxHeartbeats 4000000
attribute [local irreducible] SW runL runQ runG runQG FC Ret Ret1
def shInt64S : Sh := .slc (.cell .nil)
def Int64SL (p : List Nat) (xs : List Int) : D := .sl (.lab p) (xs.map (.int .i64))
attribute [go_sem] Int64SL
def mcInt64S (xs : List Int) : Nat := xs.length
theorem le_Int64SL (p : List Nat) (xs : List Int) : D.le (Int64SL p xs) (.sl .any (xs.map (.int .i64))) := .any
theorem mcle_Int64S (xs : List Int) : mcInt64S xs ≤ 4 * cntInt64S xs := by unfold mcInt64S cntInt64S; omega
theorem lt_Int64S (p : List Nat) (xs : List Int) : LT shInt64S p (Int64SL p xs) (mcInt64S xs) := LT_ints p xs
def fsSig : Fs := (.sub shInt64S .nil)
def SigL (p : List Nat) (x : List Int) : D := .agg [Int64SL (p ++ [0]) x]
attribute [go_sem] SigL
theorem le_SigLc (p : List Nat) (x : List Int) : leL (SigL p x).cells (SigD x).cells := ⟨le_Int64SL _ _, trivial⟩
theorem le_SigL (p : List Nat) (x : List Int) : D.le (SigL p x) (SigD x) := by unfold SigL SigD; rw [le_agg]; exact le_SigLc p x
def mcSig (x : List Int) : Nat := (mcInt64S x + 0)
theorem mcle_Sig (x : List Int) : mcSig x ≤ 4 * cntSig x := by have := mcle_Int64S x; unfold mcSig cntSig; (try simp only [cntSig, cntInt64S, cntWalk, cntSubst] at *); omega
def SigH (k : Int) (x : List Int) : List D := [HD shInt64S (k) (mcInt64S x)]
attribute [go_sem] SigH
theorem ta_Sig (i : Nat) (k : Int) (x : List Int) : TA fsSig [i] 0 k (SigL [i] x).cells (SigH k x) (mcSig x) := by unfold TA; exact ⟨_, _, _, _, _, rfl, rfl, rfl, lt_Int64S _ _, by unfold TA; exact ⟨rfl, rfl, rfl⟩⟩
def shInt64SS : Sh := .slc (.sub shInt64S .nil)
def Int64SSL (p : List Nat) (xs : List (List Int)) : D := .sl (.lab p) (mapR (fun i y => Int64SL (p ++ [i] ++ [0]) y) xs)
attribute [go_sem] Int64SSL
theorem le_Int64SSL (p : List Nat) (xs : List (List Int)) : D.le (Int64SSL p xs) (.sl .any (xs.map IntsD)) := le_mapR xs fun j x => ⟨le_Int64SL _ _, trivial⟩
def mcInt64SS (xs : List (List Int)) : Nat := (xs.map fun x => (mcInt64S x + 0)).sum
theorem lt_Int64SS (p : List Nat) (xs : List (List Int)) : LT shInt64SS p (Int64SSL p xs) (mcInt64SS xs) := LT_mapR xs fun j x => by unfold LF; exact ⟨_, _, _, _, rfl, rfl, lt_Int64S _ _, by unfold LF; exact ⟨rfl, rfl⟩⟩
end Go.Proofs.Ytldlochhiiogbaa
