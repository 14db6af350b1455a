/-
  Labelled encodings, what holds of them, the labelled copies. Made by L.gen.
-/
import Derived.Test.YtlcdahaihlflaaaG0
import Derived.Test.YtlcdahaihlflaaaLgK7
namespace Go.Proofs.Ytlcdahaihlflaaa
open Go Go.Lg
set_option linter.unusedSimpArgs false
set_option linter.unusedVariables false
set_option maxHeartbeats 4000000
attribute [local irreducible] SW runL runQ runG runQG FC Ret Ret1
def shInt64S : Sh := .slc (.cell .nil)
def Int64SL (p : List Nat) (xs : List Int) : D := .sl (.lab p) (xs.map (.int .i64))
attribute [go_sem] Int64SL
def mcInt64S (xs : List Int) : Nat := xs.length
theorem le_Int64SL (p : List Nat) (xs : List Int) : D.le (Int64SL p xs) (.sl .any (xs.map (.int .i64))) := .any
theorem mcle_Int64S (xs : List Int) : mcInt64S xs ≤ 4 * cntInt64S xs := by unfold mcInt64S cntInt64S; omega
theorem lt_Int64S (p : List Nat) (xs : List Int) : LT shInt64S p (Int64SL p xs) (mcInt64S xs) := LT_ints p xs
def fsSig : Fs := (.sub shInt64S .nil)
def SigL (p : List Nat) (x : List Int) : D := .agg [Int64SL (p ++ [0]) x]
attribute [go_sem] SigL
theorem le_SigLc (p : List Nat) (x : List Int) : leL (SigL p x).cells (SigD x).cells := ⟨le_Int64SL _ _, trivial⟩
theorem le_SigL (p : List Nat) (x : List Int) : D.le (SigL p x) (SigD x) := by unfold SigL SigD; rw [le_agg]; exact le_SigLc p x
def shInt64SS : Sh := .slc (.sub shInt64S .nil)
def Int64SSL (p : List Nat) (xs : List (List Int)) : D := .sl (.lab p) (mapR (fun i y => Int64SL (p ++ [i] ++ [0]) y) xs)
attribute [go_sem] Int64SSL
theorem le_Int64SSL (p : List Nat) (xs : List (List Int)) : D.le (Int64SSL p xs) (.sl .any (xs.map IntsD)) := le_mapR xs fun j x => ⟨le_Int64SL _ _, trivial⟩
def mcInt64SS (xs : List (List Int)) : Nat := (xs.map fun x => (mcInt64S x + 0)).sum
theorem lt_Int64SS (p : List Nat) (xs : List (List Int)) : LT shInt64SS p (Int64SSL p xs) (mcInt64SS xs) := LT_mapR xs fun j x => by unfold LF; exact ⟨_, _, _, _, rfl, rfl, lt_Int64S _ _, by unfold LF; exact ⟨rfl, rfl⟩⟩
def RuleL (p : List Nat) (x : RuleT) : D := .agg [Int64SL (p ++ [0]) x.l, Int64SL (p ++ [1]) x.r]
attribute [go_sem] RuleL
theorem le_RuleLc (p : List Nat) (x : RuleT) : leL (RuleL p x).cells (RuleD x).cells := ⟨le_Int64SL _ _, le_Int64SL _ _, trivial⟩
theorem le_RuleL (p : List Nat) (x : RuleT) : D.le (RuleL p x) (RuleD x) := by unfold RuleL RuleD; rw [le_agg]; exact le_RuleLc p x
def shRuleS : Sh := .slc (.sub shInt64S (.sub shInt64S .nil))
def RuleSL (p : List Nat) (xs : List RuleT) : D := .sl (.lab p) (mapR (fun i y => RuleL (p ++ [i]) y) xs)
attribute [go_sem] RuleSL
theorem le_RuleSL (p : List Nat) (xs : List RuleT) : D.le (RuleSL p xs) (.sl .any (xs.map RuleD)) := le_mapR xs fun j x => le_RuleLc _ _
def mcRuleS (xs : List RuleT) : Nat := (xs.map fun x => (mcInt64S x.l + (mcInt64S x.r + 0))).sum
theorem mcle_RuleS (xs : List RuleT) : mcRuleS xs ≤ 4 * cntRuleS xs := by unfold mcRuleS cntRuleS; exact sum_le4 (fun x => by have := mcle_Int64S x.l; have := mcle_Int64S x.r; (try simp only [cntRule, cntInt64S, cntSig, cntSubst] at *); omega) xs
theorem lt_RuleS (p : List Nat) (xs : List RuleT) : LT shRuleS p (RuleSL p xs) (mcRuleS xs) := LT_mapR xs fun j x => by unfold LF; exact ⟨_, _, _, _, rfl, rfl, lt_Int64S _ _, by unfold LF; exact ⟨_, _, _, _, rfl, rfl, lt_Int64S _ _, by unfold LF; exact ⟨rfl, rfl⟩⟩⟩
def fsSystem : Fs := (.sub shInt64S (.sub shRuleS .nil))
def SystemL (p : List Nat) (x : SystemT) : D := .agg [Int64SL (p ++ [0]) x.sig, RuleSL (p ++ [1]) x.rules]
attribute [go_sem] SystemL
theorem le_SystemLc (p : List Nat) (x : SystemT) : leL (SystemL p x).cells (SystemD x).cells := ⟨le_Int64SL _ _, le_RuleSL _ _, trivial⟩
theorem le_SystemL (p : List Nat) (x : SystemT) : D.le (SystemL p x) (SystemD x) := by unfold SystemL SystemD; rw [le_agg]; exact le_SystemLc p x
def mcSystem (x : SystemT) : Nat := (mcInt64S x.sig + (mcRuleS x.rules + 0))
theorem mcle_System (x : SystemT) : mcSystem x ≤ 4 * cntSystem x := by have := mcle_Int64S x.sig; have := mcle_RuleS x.rules; unfold mcSystem cntSystem; (try simp only [cntSig, cntInt64S, cntWalk, cntSubst] at *); omega
def SystemH (k : Int) (x : SystemT) : List D := [HD shInt64S (k) (mcInt64S x.sig), HD shRuleS (k + (mcInt64S x.sig : Nat)) (mcRuleS x.rules)]
attribute [go_sem] SystemH
theorem ta_System (i : Nat) (k : Int) (x : SystemT) : TA fsSystem [i] 0 k (SystemL [i] x).cells (SystemH k x) (mcSystem x) := by unfold TA; exact ⟨_, _, _, _, _, rfl, rfl, rfl, lt_Int64S _ _, by unfold TA; exact ⟨_, _, _, _, _, rfl, rfl, rfl, lt_RuleS _ _, by unfold TA; exact ⟨rfl, rfl, rfl⟩⟩⟩
end Go.Proofs.Ytlcdahaihlflaaa
