/-
  Labelled encodings, what holds of them, the labelled copies. Made by L.gen.
-/
import Derived.Test.YtgbcnhbmfjkhmaaTy
import Derived.Test.YtgbcnhbmfjkhmaaLgK7
namespace Go.Proofs.Ytgbcnhbmfjkhmaa
open Go Go.Lg
set_option linter.unusedSimpArgs false
set_option linter.unusedVariables false
set_option maxHeartbeats 4000000
attribute [local irreducible] SW runL runQ runG runQG FC Ret Ret1
def shInt64S : Sh := .slc (.cell .nil)
def Int64SL (p : List Nat) (xs : List Int) : D := .sl (.lab p) (xs.map (.int .i64))
attribute [go_sem] Int64SL
def mcInt64S (xs : List Int) : Nat := xs.length
theorem le_Int64SL (p : List Nat) (xs : List Int) : D.le (Int64SL p xs) (.sl .any (xs.map (.int .i64))) := .any
theorem mcle_Int64S (xs : List Int) : mcInt64S xs ≤ 4 * cntInt64S xs := by unfold mcInt64S cntInt64S; omega
theorem lt_Int64S (p : List Nat) (xs : List Int) : LT shInt64S p (Int64SL p xs) (mcInt64S xs) := LT_ints p xs
def fsSig : Fs := (.sub shInt64S .nil)
def SigL (p : List Nat) (x : List Int) : D := .agg [Int64SL (p ++ [0]) x]
attribute [go_sem] SigL
theorem le_SigLc (p : List Nat) (x : List Int) : leL (SigL p x).cells (SigD x).cells := ⟨le_Int64SL _ _, trivial⟩
theorem le_SigL (p : List Nat) (x : List Int) : D.le (SigL p x) (SigD x) := by unfold SigL SigD; rw [le_agg]; exact le_SigLc p x
def mcSig (x : List Int) : Nat := (mcInt64S x + 0)
def RuleL (p : List Nat) (x : RuleT) : D := .agg [Int64SL (p ++ [0]) x.l, Int64SL (p ++ [1]) x.r]
attribute [go_sem] RuleL
theorem le_RuleLc (p : List Nat) (x : RuleT) : leL (RuleL p x).cells (RuleD x).cells := ⟨le_Int64SL _ _, le_Int64SL _ _, trivial⟩
theorem le_RuleL (p : List Nat) (x : RuleT) : D.le (RuleL p x) (RuleD x) := by unfold RuleL RuleD; rw [le_agg]; exact le_RuleLc p x
def shRuleS : Sh := .slc (.sub shInt64S (.sub shInt64S .nil))
def RuleSL (p : List Nat) (xs : List RuleT) : D := .sl (.lab p) (mapR (fun i y => RuleL (p ++ [i]) y) xs)
attribute [go_sem] RuleSL
theorem le_RuleSL (p : List Nat) (xs : List RuleT) : D.le (RuleSL p xs) (.sl .any (xs.map RuleD)) := le_mapR xs fun j x => le_RuleLc _ _
def mcRuleS (xs : List RuleT) : Nat := (xs.map fun x => (mcInt64S x.l + (mcInt64S x.r + 0))).sum
theorem lt_RuleS (p : List Nat) (xs : List RuleT) : LT shRuleS p (RuleSL p xs) (mcRuleS xs) := LT_mapR xs fun j x => by unfold LF; exact ⟨_, _, _, _, rfl, rfl, lt_Int64S _ _, by unfold LF; exact ⟨_, _, _, _, rfl, rfl, lt_Int64S _ _, by unfold LF; exact ⟨rfl, rfl⟩⟩⟩
def fsSystem : Fs := (.sub shInt64S (.sub shRuleS .nil))
def SystemL (p : List Nat) (x : SystemT) : D := .agg [Int64SL (p ++ [0]) x.sig, RuleSL (p ++ [1]) x.rules]
attribute [go_sem] SystemL
theorem le_SystemLc (p : List Nat) (x : SystemT) : leL (SystemL p x).cells (SystemD x).cells := ⟨le_Int64SL _ _, le_RuleSL _ _, trivial⟩
theorem le_SystemL (p : List Nat) (x : SystemT) : D.le (SystemL p x) (SystemD x) := by unfold SystemL SystemD; rw [le_agg]; exact le_SystemLc p x
def mcSystem (x : SystemT) : Nat := (mcInt64S x.sig + (mcRuleS x.rules + 0))
def SystemH (k : Int) (x : SystemT) : List D := [HD shInt64S (k) (mcInt64S x.sig), HD shRuleS (k + (mcInt64S x.sig : Nat)) (mcRuleS x.rules)]
attribute [go_sem] SystemH
theorem ta_System (i : Nat) (k : Int) (x : SystemT) : TA fsSystem [i] 0 k (SystemL [i] x).cells (SystemH k x) (mcSystem x) := by unfold TA; exact ⟨_, _, _, _, _, rfl, rfl, rfl, lt_Int64S _ _, by unfold TA; exact ⟨_, _, _, _, _, rfl, rfl, rfl, lt_RuleS _ _, by unfold TA; exact ⟨rfl, rfl, rfl⟩⟩⟩
theorem hf_System (k : Int) (x : SystemT) : HF fsSystem k (SystemH k x) (mcSystem x) := by unfold HF; exact ⟨_, _, _, rfl, rfl, by unfold HF; exact ⟨_, _, _, rfl, rfl, by unfold HF; exact ⟨rfl, rfl⟩⟩⟩
def EqL (p : List Nat) (x : EqT) : D := .agg [Int64SL (p ++ [0]) x.l, Int64SL (p ++ [1]) x.r]
attribute [go_sem] EqL
theorem le_EqLc (p : List Nat) (x : EqT) : leL (EqL p x).cells (EqD x).cells := ⟨le_Int64SL _ _, le_Int64SL _ _, trivial⟩
theorem le_EqL (p : List Nat) (x : EqT) : D.le (EqL p x) (EqD x) := by unfold EqL EqD; rw [le_agg]; exact le_EqLc p x
def shEqS : Sh := .slc (.sub shInt64S (.sub shInt64S .nil))
def EqSL (p : List Nat) (xs : List EqT) : D := .sl (.lab p) (mapR (fun i y => EqL (p ++ [i]) y) xs)
attribute [go_sem] EqSL
theorem le_EqSL (p : List Nat) (xs : List EqT) : D.le (EqSL p xs) (.sl .any (xs.map EqD)) := le_mapR xs fun j x => le_EqLc _ _
def mcEqS (xs : List EqT) : Nat := (xs.map fun x => (mcInt64S x.l + (mcInt64S x.r + 0))).sum
theorem mcle_EqS (xs : List EqT) : mcEqS xs ≤ 4 * cntEqS xs := by unfold mcEqS cntEqS; exact sum_le4 (fun x => by have := mcle_Int64S x.l; have := mcle_Int64S x.r; (try simp only [cntEq, cntInt64S, cntSig, cntSubst] at *); omega) xs
theorem lt_EqS (p : List Nat) (xs : List EqT) : LT shEqS p (EqSL p xs) (mcEqS xs) := LT_mapR xs fun j x => by unfold LF; exact ⟨_, _, _, _, rfl, rfl, lt_Int64S _ _, by unfold LF; exact ⟨_, _, _, _, rfl, rfl, lt_Int64S _ _, by unfold LF; exact ⟨rfl, rfl⟩⟩⟩
def CRuleL (p : List Nat) (x : CRuleT) : D := .agg [Int64SL (p ++ [0]) x.l, Int64SL (p ++ [1]) x.r, EqSL (p ++ [2]) x.conds]
attribute [go_sem] CRuleL
theorem le_CRuleLc (p : List Nat) (x : CRuleT) : leL (CRuleL p x).cells (CRuleD x).cells := ⟨le_Int64SL _ _, le_Int64SL _ _, le_EqSL _ _, trivial⟩
theorem le_CRuleL (p : List Nat) (x : CRuleT) : D.le (CRuleL p x) (CRuleD x) := by unfold CRuleL CRuleD; rw [le_agg]; exact le_CRuleLc p x
def shCRuleS : Sh := .slc (.sub shInt64S (.sub shInt64S (.sub shEqS .nil)))
def CRuleSL (p : List Nat) (xs : List CRuleT) : D := .sl (.lab p) (mapR (fun i y => CRuleL (p ++ [i]) y) xs)
attribute [go_sem] CRuleSL
theorem le_CRuleSL (p : List Nat) (xs : List CRuleT) : D.le (CRuleSL p xs) (.sl .any (xs.map CRuleD)) := le_mapR xs fun j x => le_CRuleLc _ _
def mcCRuleS (xs : List CRuleT) : Nat := (xs.map fun x => (mcInt64S x.l + (mcInt64S x.r + (mcEqS x.conds + 0)))).sum
theorem mcle_CRuleS (xs : List CRuleT) : mcCRuleS xs ≤ 4 * cntCRuleS xs := by unfold mcCRuleS cntCRuleS; exact sum_le4 (fun x => by have := mcle_Int64S x.l; have := mcle_Int64S x.r; have := mcle_EqS x.conds; (try simp only [cntCRule, cntInt64S, cntSig, cntSubst] at *); omega) xs
theorem lt_CRuleS (p : List Nat) (xs : List CRuleT) : LT shCRuleS p (CRuleSL p xs) (mcCRuleS xs) := LT_mapR xs fun j x => by unfold LF; exact ⟨_, _, _, _, rfl, rfl, lt_Int64S _ _, by unfold LF; exact ⟨_, _, _, _, rfl, rfl, lt_Int64S _ _, by unfold LF; exact ⟨_, _, _, _, rfl, rfl, lt_EqS _ _, by unfold LF; exact ⟨rfl, rfl⟩⟩⟩⟩
def fsCSystem : Fs := (.sub shInt64S (.sub shCRuleS .nil))
def CSystemL (p : List Nat) (x : CSystemT) : D := .agg [Int64SL (p ++ [0]) x.sig, CRuleSL (p ++ [1]) x.rules]
attribute [go_sem] CSystemL
theorem le_CSystemLc (p : List Nat) (x : CSystemT) : leL (CSystemL p x).cells (CSystemD x).cells := ⟨le_Int64SL _ _, le_CRuleSL _ _, trivial⟩
theorem le_CSystemL (p : List Nat) (x : CSystemT) : D.le (CSystemL p x) (CSystemD x) := by unfold CSystemL CSystemD; rw [le_agg]; exact le_CSystemLc p x
def mcCSystem (x : CSystemT) : Nat := (mcInt64S x.sig + (mcCRuleS x.rules + 0))
theorem mcle_CSystem (x : CSystemT) : mcCSystem x ≤ 4 * cntCSystem x := by have := mcle_Int64S x.sig; have := mcle_CRuleS x.rules; unfold mcCSystem cntCSystem; (try simp only [cntSig, cntInt64S, cntWalk, cntSubst] at *); omega
def CSystemH (k : Int) (x : CSystemT) : List D := [HD shInt64S (k) (mcInt64S x.sig), HD shCRuleS (k + (mcInt64S x.sig : Nat)) (mcCRuleS x.rules)]
attribute [go_sem] CSystemH
theorem ta_CSystem (i : Nat) (k : Int) (x : CSystemT) : TA fsCSystem [i] 0 k (CSystemL [i] x).cells (CSystemH k x) (mcCSystem x) := by unfold TA; exact ⟨_, _, _, _, _, rfl, rfl, rfl, lt_Int64S _ _, by unfold TA; exact ⟨_, _, _, _, _, rfl, rfl, rfl, lt_CRuleS _ _, by unfold TA; exact ⟨rfl, rfl, rfl⟩⟩⟩
end Go.Proofs.Ytgbcnhbmfjkhmaa
