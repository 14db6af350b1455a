/-
  Labelled encodings, what holds of them, the labelled copies. Made by L.gen.
-/
import Derived.Test.YtenjmepbaajkjaaTy
import Derived.Test.YtenjmepbaajkjaaLgMk7
namespace Go.Proofs.Ytenjmepbaajkjaa
open Go Go.Lg
set_option linter.unusedSimpArgs false
set_option linter.unusedVariables false
set_option maxHeartbeats 4000000
attribute [local irreducible] SW runL runQ runG runQG FC Ret Ret1
def shInt64S : Sh := .slc (.cell .nil)
def Int64SL (p : List Nat) (xs : List Int) : D := .sl (.lab p) (xs.map (.int .i64))
attribute [go_sem] Int64SL
def mcInt64S (xs : List Int) : Nat := xs.length
theorem le_Int64SL (p : List Nat) (xs : List Int) : D.le (Int64SL p xs) (.sl .any (xs.map (.int .i64))) := .any
theorem mcle_Int64S (xs : List Int) : mcInt64S xs ≤ 4 * cntInt64S xs := by unfold mcInt64S cntInt64S; omega
theorem lt_Int64S (p : List Nat) (xs : List Int) : LT shInt64S p (Int64SL p xs) (mcInt64S xs) := LT_ints p xs
def fsSig : Fs := (.sub shInt64S .nil)
def SigL (p : List Nat) (x : List Int) : D := .agg [Int64SL (p ++ [0]) x]
attribute [go_sem] SigL
theorem le_SigLc (p : List Nat) (x : List Int) : leL (SigL p x).cells (SigD x).cells := ⟨le_Int64SL _ _, trivial⟩
theorem le_SigL (p : List Nat) (x : List Int) : D.le (SigL p x) (SigD x) := by unfold SigL SigD; rw [le_agg]; exact le_SigLc p x
def mcSig (x : List Int) : Nat := (mcInt64S x + 0)
theorem mcle_Sig (x : List Int) : mcSig x ≤ 4 * cntSig x := by have := mcle_Int64S x; unfold mcSig cntSig; (try simp only [cntSig, cntInt64S, cntWalk, cntSubst] at *); omega
def SigH (k : Int) (x : List Int) : List D := [HD shInt64S (k) (mcInt64S x)]
attribute [go_sem] SigH
theorem ta_Sig (i : Nat) (k : Int) (x : List Int) : TA fsSig [i] 0 k (SigL [i] x).cells (SigH k x) (mcSig x) := by unfold TA; exact ⟨_, _, _, _, _, rfl, rfl, rfl, lt_Int64S _ _, by unfold TA; exact ⟨rfl, rfl, rfl⟩⟩
theorem hf_Sig (k : Int) (x : List Int) : HF fsSig k (SigH k x) (mcSig x) := by unfold HF; exact ⟨_, _, _, rfl, rfl, by unfold HF; exact ⟨rfl, rfl⟩⟩
def shInt64SS : Sh := .slc (.sub shInt64S .nil)
def Int64SSL (p : List Nat) (xs : List (List Int)) : D := .sl (.lab p) (mapR (fun i y => Int64SL (p ++ [i] ++ [0]) y) xs)
attribute [go_sem] Int64SSL
theorem le_Int64SSL (p : List Nat) (xs : List (List Int)) : D.le (Int64SSL p xs) (.sl .any (xs.map IntsD)) := le_mapR xs fun j x => ⟨le_Int64SL _ _, trivial⟩
def mcInt64SS (xs : List (List Int)) : Nat := (xs.map fun x => (mcInt64S x + 0)).sum
theorem mcle_Int64SS (xs : List (List Int)) : mcInt64SS xs ≤ 4 * cntInt64SS xs := by unfold mcInt64SS cntInt64SS; exact sum_le4 (fun x => by have := mcle_Int64S x; (try simp only [cntInt64S, cntInt64S, cntSig, cntSubst] at *); omega) xs
theorem lt_Int64SS (p : List Nat) (xs : List (List Int)) : LT shInt64SS p (Int64SSL p xs) (mcInt64SS xs) := LT_mapR xs fun j x => by unfold LF; exact ⟨_, _, _, _, rfl, rfl, lt_Int64S _ _, by unfold LF; exact ⟨rfl, rfl⟩⟩
def fsSubst : Fs := (.sub shInt64SS .nil)
def SubstL (p : List Nat) (x : List (List Int)) : D := .agg [Int64SSL (p ++ [0]) x]
attribute [go_sem] SubstL
theorem le_SubstLc (p : List Nat) (x : List (List Int)) : leL (SubstL p x).cells (SubstD x).cells := ⟨le_Int64SSL _ _, trivial⟩
theorem le_SubstL (p : List Nat) (x : List (List Int)) : D.le (SubstL p x) (SubstD x) := by unfold SubstL SubstD; rw [le_agg]; exact le_SubstLc p x
def mcSubst (x : List (List Int)) : Nat := (mcInt64SS x + 0)
theorem mcle_Subst (x : List (List Int)) : mcSubst x ≤ 4 * cntSubst x := by have := mcle_Int64SS x; unfold mcSubst cntSubst; (try simp only [cntSig, cntInt64S, cntWalk, cntSubst] at *); omega
def SubstH (k : Int) (x : List (List Int)) : List D := [HD shInt64SS (k) (mcInt64SS x)]
attribute [go_sem] SubstH
theorem ta_Subst (i : Nat) (k : Int) (x : List (List Int)) : TA fsSubst [i] 0 k (SubstL [i] x).cells (SubstH k x) (mcSubst x) := by unfold TA; exact ⟨_, _, _, _, _, rfl, rfl, rfl, lt_Int64SS _ _, by unfold TA; exact ⟨rfl, rfl, rfl⟩⟩
theorem hf_Subst (k : Int) (x : List (List Int)) : HF fsSubst k (SubstH k x) (mcSubst x) := by unfold HF; exact ⟨_, _, _, rfl, rfl, by unfold HF; exact ⟨rfl, rfl⟩⟩
def fsRule : Fs := (.sub shInt64S (.sub shInt64S .nil))
def RuleL (p : List Nat) (x : RuleT) : D := .agg [Int64SL (p ++ [0]) x.l, Int64SL (p ++ [1]) x.r]
attribute [go_sem] RuleL
theorem le_RuleLc (p : List Nat) (x : RuleT) : leL (RuleL p x).cells (RuleD x).cells := ⟨le_Int64SL _ _, le_Int64SL _ _, trivial⟩
theorem le_RuleL (p : List Nat) (x : RuleT) : D.le (RuleL p x) (RuleD x) := by unfold RuleL RuleD; rw [le_agg]; exact le_RuleLc p x
def mcRule (x : RuleT) : Nat := (mcInt64S x.l + (mcInt64S x.r + 0))
theorem mcle_Rule (x : RuleT) : mcRule x ≤ 4 * cntRule x := by have := mcle_Int64S x.l; have := mcle_Int64S x.r; unfold mcRule cntRule; (try simp only [cntSig, cntInt64S, cntWalk, cntSubst] at *); omega
def RuleH (k : Int) (x : RuleT) : List D := [HD shInt64S (k) (mcInt64S x.l), HD shInt64S (k + (mcInt64S x.l : Nat)) (mcInt64S x.r)]
attribute [go_sem] RuleH
theorem ta_Rule (i : Nat) (k : Int) (x : RuleT) : TA fsRule [i] 0 k (RuleL [i] x).cells (RuleH k x) (mcRule x) := by unfold TA; exact ⟨_, _, _, _, _, rfl, rfl, rfl, lt_Int64S _ _, by unfold TA; exact ⟨_, _, _, _, _, rfl, rfl, rfl, lt_Int64S _ _, by unfold TA; exact ⟨rfl, rfl, rfl⟩⟩⟩
theorem hf_Rule (k : Int) (x : RuleT) : HF fsRule k (RuleH k x) (mcRule x) := by unfold HF; exact ⟨_, _, _, rfl, rfl, by unfold HF; exact ⟨_, _, _, rfl, rfl, by unfold HF; exact ⟨rfl, rfl⟩⟩⟩
def shRuleS : Sh := .slc (.sub shInt64S (.sub shInt64S .nil))
def RuleSL (p : List Nat) (xs : List RuleT) : D := .sl (.lab p) (mapR (fun i y => RuleL (p ++ [i]) y) xs)
attribute [go_sem] RuleSL
theorem le_RuleSL (p : List Nat) (xs : List RuleT) : D.le (RuleSL p xs) (.sl .any (xs.map RuleD)) := le_mapR xs fun j x => le_RuleLc _ _
def mcRuleS (xs : List RuleT) : Nat := (xs.map fun x => (mcInt64S x.l + (mcInt64S x.r + 0))).sum
theorem mcle_RuleS (xs : List RuleT) : mcRuleS xs ≤ 4 * cntRuleS xs := by unfold mcRuleS cntRuleS; exact sum_le4 (fun x => by have := mcle_Int64S x.l; have := mcle_Int64S x.r; (try simp only [cntRule, cntInt64S, cntSig, cntSubst] at *); omega) xs
theorem lt_RuleS (p : List Nat) (xs : List RuleT) : LT shRuleS p (RuleSL p xs) (mcRuleS xs) := LT_mapR xs fun j x => by unfold LF; exact ⟨_, _, _, _, rfl, rfl, lt_Int64S _ _, by unfold LF; exact ⟨_, _, _, _, rfl, rfl, lt_Int64S _ _, by unfold LF; exact ⟨rfl, rfl⟩⟩⟩
def fsSystem : Fs := (.sub shInt64S (.sub shRuleS .nil))
def SystemL (p : List Nat) (x : SystemT) : D := .agg [Int64SL (p ++ [0]) x.sig, RuleSL (p ++ [1]) x.rules]
attribute [go_sem] SystemL
theorem le_SystemLc (p : List Nat) (x : SystemT) : leL (SystemL p x).cells (SystemD x).cells := ⟨le_Int64SL _ _, le_RuleSL _ _, trivial⟩
theorem le_SystemL (p : List Nat) (x : SystemT) : D.le (SystemL p x) (SystemD x) := by unfold SystemL SystemD; rw [le_agg]; exact le_SystemLc p x
def mcSystem (x : SystemT) : Nat := (mcInt64S x.sig + (mcRuleS x.rules + 0))
theorem mcle_System (x : SystemT) : mcSystem x ≤ 4 * cntSystem x := by have := mcle_Int64S x.sig; have := mcle_RuleS x.rules; unfold mcSystem cntSystem; (try simp only [cntSig, cntInt64S, cntWalk, cntSubst] at *); omega
def SystemH (k : Int) (x : SystemT) : List D := [HD shInt64S (k) (mcInt64S x.sig), HD shRuleS (k + (mcInt64S x.sig : Nat)) (mcRuleS x.rules)]
attribute [go_sem] SystemH
theorem ta_System (i : Nat) (k : Int) (x : SystemT) : TA fsSystem [i] 0 k (SystemL [i] x).cells (SystemH k x) (mcSystem x) := by unfold TA; exact ⟨_, _, _, _, _, rfl, rfl, rfl, lt_Int64S _ _, by unfold TA; exact ⟨_, _, _, _, _, rfl, rfl, rfl, lt_RuleS _ _, by unfold TA; exact ⟨rfl, rfl, rfl⟩⟩⟩
theorem hf_System (k : Int) (x : SystemT) : HF fsSystem k (SystemH k x) (mcSystem x) := by unfold HF; exact ⟨_, _, _, rfl, rfl, by unfold HF; exact ⟨_, _, _, rfl, rfl, by unfold HF; exact ⟨rfl, rfl⟩⟩⟩
def StepL (p : List Nat) (x : StepT) : D := .agg [.int .i64 x.at_, .int .i64 x.rule, Int64SL (p ++ [2]) x.to]
attribute [go_sem] StepL
theorem le_StepLc (p : List Nat) (x : StepT) : leL (StepL p x).cells (StepD x).cells := ⟨.refl _, .refl _, le_Int64SL _ _, trivial⟩
theorem le_StepL (p : List Nat) (x : StepT) : D.le (StepL p x) (StepD x) := by unfold StepL StepD; rw [le_agg]; exact le_StepLc p x
def shStepS : Sh := .slc (.cell (.cell (.sub shInt64S .nil)))
def StepSL (p : List Nat) (xs : List StepT) : D := .sl (.lab p) (mapR (fun i y => StepL (p ++ [i]) y) xs)
attribute [go_sem] StepSL
theorem le_StepSL (p : List Nat) (xs : List StepT) : D.le (StepSL p xs) (.sl .any (xs.map StepD)) := le_mapR xs fun j x => le_StepLc _ _
def mcStepS (xs : List StepT) : Nat := (xs.map fun x => (((mcInt64S x.to + 0) + 1) + 1)).sum
theorem mcle_StepS (xs : List StepT) : mcStepS xs ≤ 4 * cntStepS xs := by unfold mcStepS cntStepS; exact sum_le4 (fun x => by have := mcle_Int64S x.to; (try simp only [cntStep, cntInt64S, cntSig, cntSubst] at *); omega) xs
theorem lt_StepS (p : List Nat) (xs : List StepT) : LT shStepS p (StepSL p xs) (mcStepS xs) := LT_mapR xs fun j x => by unfold LF; exact ⟨_, _, _, rfl, rfl, by unfold LF; exact ⟨_, _, _, rfl, rfl, by unfold LF; exact ⟨_, _, _, _, rfl, rfl, lt_Int64S _ _, by unfold LF; exact ⟨rfl, rfl⟩⟩⟩⟩
def fsWalk : Fs := (.sub shInt64S (.sub shStepS .nil))
def WalkL (p : List Nat) (x : WalkT) : D := .agg [Int64SL (p ++ [0]) x.frm, StepSL (p ++ [1]) x.steps]
attribute [go_sem] WalkL
theorem le_WalkLc (p : List Nat) (x : WalkT) : leL (WalkL p x).cells (WalkD x).cells := ⟨le_Int64SL _ _, le_StepSL _ _, trivial⟩
theorem le_WalkL (p : List Nat) (x : WalkT) : D.le (WalkL p x) (WalkD x) := by unfold WalkL WalkD; rw [le_agg]; exact le_WalkLc p x
def mcWalk (x : WalkT) : Nat := (mcInt64S x.frm + (mcStepS x.steps + 0))
theorem mcle_Walk (x : WalkT) : mcWalk x ≤ 4 * cntWalk x := by have := mcle_Int64S x.frm; have := mcle_StepS x.steps; unfold mcWalk cntWalk; (try simp only [cntSig, cntInt64S, cntWalk, cntSubst] at *); omega
def WalkH (k : Int) (x : WalkT) : List D := [HD shInt64S (k) (mcInt64S x.frm), HD shStepS (k + (mcInt64S x.frm : Nat)) (mcStepS x.steps)]
attribute [go_sem] WalkH
theorem ta_Walk (i : Nat) (k : Int) (x : WalkT) : TA fsWalk [i] 0 k (WalkL [i] x).cells (WalkH k x) (mcWalk x) := by unfold TA; exact ⟨_, _, _, _, _, rfl, rfl, rfl, lt_Int64S _ _, by unfold TA; exact ⟨_, _, _, _, _, rfl, rfl, rfl, lt_StepS _ _, by unfold TA; exact ⟨rfl, rfl, rfl⟩⟩⟩
theorem hf_Walk (k : Int) (x : WalkT) : HF fsWalk k (WalkH k x) (mcWalk x) := by unfold HF; exact ⟨_, _, _, rfl, rfl, by unfold HF; exact ⟨_, _, _, rfl, rfl, by unfold HF; exact ⟨rfl, rfl⟩⟩⟩
def fsPeak : Fs := (.sub shInt64S (.sub shInt64S (.sub shInt64S (.skip (.skip (.skip .nil))))))
def PeakL (p : List Nat) (x : PeakT) : D := .agg [Int64SL (p ++ [0]) x.top, Int64SL (p ++ [1]) x.left, Int64SL (p ++ [2]) x.right, .int .i64 x.at_, .int .i64 x.under, .int .i64 x.over]
attribute [go_sem] PeakL
theorem le_PeakLc (p : List Nat) (x : PeakT) : leL (PeakL p x).cells (PeakD x).cells := ⟨le_Int64SL _ _, le_Int64SL _ _, le_Int64SL _ _, .refl _, .refl _, .refl _, trivial⟩
theorem le_PeakL (p : List Nat) (x : PeakT) : D.le (PeakL p x) (PeakD x) := by unfold PeakL PeakD; rw [le_agg]; exact le_PeakLc p x
def mcPeak (x : PeakT) : Nat := (mcInt64S x.top + (mcInt64S x.left + (mcInt64S x.right + 0)))
theorem mcle_Peak (x : PeakT) : mcPeak x ≤ 4 * cntPeak x := by have := mcle_Int64S x.top; have := mcle_Int64S x.left; have := mcle_Int64S x.right; unfold mcPeak cntPeak; (try simp only [cntSig, cntInt64S, cntWalk, cntSubst] at *); omega
def PeakH (k : Int) (x : PeakT) : List D := [HD shInt64S (k) (mcInt64S x.top), HD shInt64S (k + (mcInt64S x.top : Nat)) (mcInt64S x.left), HD shInt64S (k + (mcInt64S x.top : Nat) + (mcInt64S x.left : Nat)) (mcInt64S x.right), .int .i64 x.at_, .int .i64 x.under, .int .i64 x.over]
attribute [go_sem] PeakH
theorem ta_Peak (i : Nat) (k : Int) (x : PeakT) : TA fsPeak [i] 0 k (PeakL [i] x).cells (PeakH k x) (mcPeak x) := by unfold TA; exact ⟨_, _, _, _, _, rfl, rfl, rfl, lt_Int64S _ _, by unfold TA; exact ⟨_, _, _, _, _, rfl, rfl, rfl, lt_Int64S _ _, by unfold TA; exact ⟨_, _, _, _, _, rfl, rfl, rfl, lt_Int64S _ _, by unfold TA; exact ⟨_, _, _, rfl, rfl, rfl, by unfold TA; exact ⟨_, _, _, rfl, rfl, rfl, by unfold TA; exact ⟨_, _, _, rfl, rfl, rfl, by unfold TA; exact ⟨rfl, rfl, rfl⟩⟩⟩⟩⟩⟩⟩
theorem hf_Peak (k : Int) (x : PeakT) : HF fsPeak k (PeakH k x) (mcPeak x) := by unfold HF; exact ⟨_, _, _, rfl, rfl, by unfold HF; exact ⟨_, _, _, rfl, rfl, by unfold HF; exact ⟨_, _, _, rfl, rfl, by unfold HF; exact ⟨_, _, rfl, by unfold HF; exact ⟨_, _, rfl, by unfold HF; exact ⟨_, _, rfl, by unfold HF; exact ⟨rfl, rfl⟩⟩⟩⟩⟩⟩⟩
def shPeakS : Sh := .slc (.sub shInt64S (.sub shInt64S (.sub shInt64S (.cell (.cell (.cell .nil))))))
def PeakSL (p : List Nat) (xs : List PeakT) : D := .sl (.lab p) (mapR (fun i y => PeakL (p ++ [i]) y) xs)
attribute [go_sem] PeakSL
theorem le_PeakSL (p : List Nat) (xs : List PeakT) : D.le (PeakSL p xs) (.sl .any (xs.map PeakD)) := le_mapR xs fun j x => le_PeakLc _ _
def mcPeakS (xs : List PeakT) : Nat := (xs.map fun x => (mcInt64S x.top + (mcInt64S x.left + (mcInt64S x.right + (((0 + 1) + 1) + 1))))).sum
theorem lt_PeakS (p : List Nat) (xs : List PeakT) : LT shPeakS p (PeakSL p xs) (mcPeakS xs) := LT_mapR xs fun j x => by unfold LF; exact ⟨_, _, _, _, rfl, rfl, lt_Int64S _ _, by unfold LF; exact ⟨_, _, _, _, rfl, rfl, lt_Int64S _ _, by unfold LF; exact ⟨_, _, _, _, rfl, rfl, lt_Int64S _ _, by unfold LF; exact ⟨_, _, _, rfl, rfl, by unfold LF; exact ⟨_, _, _, rfl, rfl, by unfold LF; exact ⟨_, _, _, rfl, rfl, by unfold LF; exact ⟨rfl, rfl⟩⟩⟩⟩⟩⟩⟩
def fsWeights : Fs := (.skip (.sub shInt64S (.sub shInt64S .nil)))
def WeightsL (p : List Nat) (x : WeightsT) : D := .agg [.int .i64 x.var, Int64SL (p ++ [1]) x.sym, Int64SL (p ++ [2]) x.rank]
attribute [go_sem] WeightsL
theorem le_WeightsLc (p : List Nat) (x : WeightsT) : leL (WeightsL p x).cells (WeightsD x).cells := ⟨.refl _, le_Int64SL _ _, le_Int64SL _ _, trivial⟩
theorem le_WeightsL (p : List Nat) (x : WeightsT) : D.le (WeightsL p x) (WeightsD x) := by unfold WeightsL WeightsD; rw [le_agg]; exact le_WeightsLc p x
def mcWeights (x : WeightsT) : Nat := (mcInt64S x.sym + (mcInt64S x.rank + 0))
theorem mcle_Weights (x : WeightsT) : mcWeights x ≤ 4 * cntWeights x := by have := mcle_Int64S x.sym; have := mcle_Int64S x.rank; unfold mcWeights cntWeights; (try simp only [cntSig, cntInt64S, cntWalk, cntSubst] at *); omega
def WeightsH (k : Int) (x : WeightsT) : List D := [.int .i64 x.var, HD shInt64S (k) (mcInt64S x.sym), HD shInt64S (k + (mcInt64S x.sym : Nat)) (mcInt64S x.rank)]
attribute [go_sem] WeightsH
theorem ta_Weights (i : Nat) (k : Int) (x : WeightsT) : TA fsWeights [i] 0 k (WeightsL [i] x).cells (WeightsH k x) (mcWeights x) := by unfold TA; exact ⟨_, _, _, rfl, rfl, rfl, by unfold TA; exact ⟨_, _, _, _, _, rfl, rfl, rfl, lt_Int64S _ _, by unfold TA; exact ⟨_, _, _, _, _, rfl, rfl, rfl, lt_Int64S _ _, by unfold TA; exact ⟨rfl, rfl, rfl⟩⟩⟩⟩
theorem hf_Weights (k : Int) (x : WeightsT) : HF fsWeights k (WeightsH k x) (mcWeights x) := by unfold HF; exact ⟨_, _, rfl, by unfold HF; exact ⟨_, _, _, rfl, rfl, by unfold HF; exact ⟨_, _, _, rfl, rfl, by unfold HF; exact ⟨rfl, rfl⟩⟩⟩⟩
def fsPoly : Fs := (.skip (.sub shInt64S .nil))
def PolyL (p : List Nat) (x : PolyT) : D := .agg [.int .i64 x.const, Int64SL (p ++ [1]) x.coef]
attribute [go_sem] PolyL
theorem le_PolyLc (p : List Nat) (x : PolyT) : leL (PolyL p x).cells (PolyD x).cells := ⟨.refl _, le_Int64SL _ _, trivial⟩
theorem le_PolyL (p : List Nat) (x : PolyT) : D.le (PolyL p x) (PolyD x) := by unfold PolyL PolyD; rw [le_agg]; exact le_PolyLc p x
def mcPoly (x : PolyT) : Nat := (mcInt64S x.coef + 0)
theorem mcle_Poly (x : PolyT) : mcPoly x ≤ 4 * cntPoly x := by have := mcle_Int64S x.coef; unfold mcPoly cntPoly; (try simp only [cntSig, cntInt64S, cntWalk, cntSubst] at *); omega
def PolyH (k : Int) (x : PolyT) : List D := [.int .i64 x.const, HD shInt64S (k) (mcInt64S x.coef)]
attribute [go_sem] PolyH
theorem ta_Poly (i : Nat) (k : Int) (x : PolyT) : TA fsPoly [i] 0 k (PolyL [i] x).cells (PolyH k x) (mcPoly x) := by unfold TA; exact ⟨_, _, _, rfl, rfl, rfl, by unfold TA; exact ⟨_, _, _, _, _, rfl, rfl, rfl, lt_Int64S _ _, by unfold TA; exact ⟨rfl, rfl, rfl⟩⟩⟩
theorem hf_Poly (k : Int) (x : PolyT) : HF fsPoly k (PolyH k x) (mcPoly x) := by unfold HF; exact ⟨_, _, rfl, by unfold HF; exact ⟨_, _, _, rfl, rfl, by unfold HF; exact ⟨rfl, rfl⟩⟩⟩
def shPolyS : Sh := .slc (.cell (.sub shInt64S .nil))
def PolySL (p : List Nat) (xs : List PolyT) : D := .sl (.lab p) (mapR (fun i y => PolyL (p ++ [i]) y) xs)
attribute [go_sem] PolySL
theorem le_PolySL (p : List Nat) (xs : List PolyT) : D.le (PolySL p xs) (.sl .any (xs.map PolyD)) := le_mapR xs fun j x => le_PolyLc _ _
def mcPolyS (xs : List PolyT) : Nat := (xs.map fun x => ((mcInt64S x.coef + 0) + 1)).sum
theorem mcle_PolyS (xs : List PolyT) : mcPolyS xs ≤ 4 * cntPolyS xs := by unfold mcPolyS cntPolyS; exact sum_le4 (fun x => by have := mcle_Int64S x.coef; (try simp only [cntPoly, cntInt64S, cntSig, cntSubst] at *); omega) xs
theorem lt_PolyS (p : List Nat) (xs : List PolyT) : LT shPolyS p (PolySL p xs) (mcPolyS xs) := LT_mapR xs fun j x => by unfold LF; exact ⟨_, _, _, rfl, rfl, by unfold LF; exact ⟨_, _, _, _, rfl, rfl, lt_Int64S _ _, by unfold LF; exact ⟨rfl, rfl⟩⟩⟩
def DepPairL (p : List Nat) (x : DepPairT) : D := .agg [Int64SL (p ++ [0]) x.l, Int64SL (p ++ [1]) x.r, .int .i64 x.rule, .int .i64 x.at_]
attribute [go_sem] DepPairL
theorem le_DepPairLc (p : List Nat) (x : DepPairT) : leL (DepPairL p x).cells (DepPairD x).cells := ⟨le_Int64SL _ _, le_Int64SL _ _, .refl _, .refl _, trivial⟩
theorem le_DepPairL (p : List Nat) (x : DepPairT) : D.le (DepPairL p x) (DepPairD x) := by unfold DepPairL DepPairD; rw [le_agg]; exact le_DepPairLc p x
def shDepPairS : Sh := .slc (.sub shInt64S (.sub shInt64S (.cell (.cell .nil))))
def DepPairSL (p : List Nat) (xs : List DepPairT) : D := .sl (.lab p) (mapR (fun i y => DepPairL (p ++ [i]) y) xs)
attribute [go_sem] DepPairSL
theorem le_DepPairSL (p : List Nat) (xs : List DepPairT) : D.le (DepPairSL p xs) (.sl .any (xs.map DepPairD)) := le_mapR xs fun j x => le_DepPairLc _ _
def mcDepPairS (xs : List DepPairT) : Nat := (xs.map fun x => (mcInt64S x.l + (mcInt64S x.r + ((0 + 1) + 1)))).sum
theorem mcle_DepPairS (xs : List DepPairT) : mcDepPairS xs ≤ 4 * cntDepPairS xs := by unfold mcDepPairS cntDepPairS; exact sum_le4 (fun x => by have := mcle_Int64S x.l; have := mcle_Int64S x.r; (try simp only [cntDepPair, cntInt64S, cntSig, cntSubst] at *); omega) xs
theorem lt_DepPairS (p : List Nat) (xs : List DepPairT) : LT shDepPairS p (DepPairSL p xs) (mcDepPairS xs) := LT_mapR xs fun j x => by unfold LF; exact ⟨_, _, _, _, rfl, rfl, lt_Int64S _ _, by unfold LF; exact ⟨_, _, _, _, rfl, rfl, lt_Int64S _ _, by unfold LF; exact ⟨_, _, _, rfl, rfl, by unfold LF; exact ⟨_, _, _, rfl, rfl, by unfold LF; exact ⟨rfl, rfl⟩⟩⟩⟩⟩
def PairStepL (p : List Nat) (x : PairStepT) : D := .agg [Int64SL (p ++ [0]) x.part, Int64SL (p ++ [1]) x.proj, PolySL (p ++ [2]) x.polys, Int64SL (p ++ [3]) x.gone]
attribute [go_sem] PairStepL
theorem le_PairStepLc (p : List Nat) (x : PairStepT) : leL (PairStepL p x).cells (PairStepD x).cells := ⟨le_Int64SL _ _, le_Int64SL _ _, le_PolySL _ _, le_Int64SL _ _, trivial⟩
theorem le_PairStepL (p : List Nat) (x : PairStepT) : D.le (PairStepL p x) (PairStepD x) := by unfold PairStepL PairStepD; rw [le_agg]; exact le_PairStepLc p x
def shPairStepS : Sh := .slc (.sub shInt64S (.sub shInt64S (.sub shPolyS (.sub shInt64S .nil))))
def PairStepSL (p : List Nat) (xs : List PairStepT) : D := .sl (.lab p) (mapR (fun i y => PairStepL (p ++ [i]) y) xs)
attribute [go_sem] PairStepSL
theorem le_PairStepSL (p : List Nat) (xs : List PairStepT) : D.le (PairStepSL p xs) (.sl .any (xs.map PairStepD)) := le_mapR xs fun j x => le_PairStepLc _ _
def mcPairStepS (xs : List PairStepT) : Nat := (xs.map fun x => (mcInt64S x.part + (mcInt64S x.proj + (mcPolyS x.polys + (mcInt64S x.gone + 0))))).sum
theorem mcle_PairStepS (xs : List PairStepT) : mcPairStepS xs ≤ 4 * cntPairStepS xs := by unfold mcPairStepS cntPairStepS; exact sum_le4 (fun x => by have := mcle_Int64S x.part; have := mcle_Int64S x.proj; have := mcle_PolyS x.polys; have := mcle_Int64S x.gone; (try simp only [cntPairStep, cntInt64S, cntSig, cntSubst] at *); omega) xs
theorem lt_PairStepS (p : List Nat) (xs : List PairStepT) : LT shPairStepS p (PairStepSL p xs) (mcPairStepS xs) := LT_mapR xs fun j x => by unfold LF; exact ⟨_, _, _, _, rfl, rfl, lt_Int64S _ _, by unfold LF; exact ⟨_, _, _, _, rfl, rfl, lt_Int64S _ _, by unfold LF; exact ⟨_, _, _, _, rfl, rfl, lt_PolyS _ _, by unfold LF; exact ⟨_, _, _, _, rfl, rfl, lt_Int64S _ _, by unfold LF; exact ⟨rfl, rfl⟩⟩⟩⟩⟩
def fsLoop : Fs := (.sub shInt64S (.sub shStepS (.skip (.sub shInt64SS .nil))))
def LoopL (p : List Nat) (x : LoopT) : D := .agg [Int64SL (p ++ [0]) x.walk.frm, StepSL (p ++ [1]) x.walk.steps, .int .i64 x.at_, Int64SSL (p ++ [3]) x.sub]
attribute [go_sem] LoopL
theorem le_LoopLc (p : List Nat) (x : LoopT) : leL (LoopL p x).cells (LoopD x).cells := ⟨le_Int64SL _ _, le_StepSL _ _, .refl _, le_Int64SSL _ _, trivial⟩
theorem le_LoopL (p : List Nat) (x : LoopT) : D.le (LoopL p x) (LoopD x) := by unfold LoopL LoopD; rw [le_agg]; exact le_LoopLc p x
def mcLoop (x : LoopT) : Nat := (mcInt64S x.walk.frm + (mcStepS x.walk.steps + (mcInt64SS x.sub + 0)))
theorem mcle_Loop (x : LoopT) : mcLoop x ≤ 4 * cntLoop x := by have := mcle_Int64S x.walk.frm; have := mcle_StepS x.walk.steps; have := mcle_Int64SS x.sub; unfold mcLoop cntLoop; (try simp only [cntSig, cntInt64S, cntWalk, cntSubst] at *); omega
def LoopH (k : Int) (x : LoopT) : List D := [HD shInt64S (k) (mcInt64S x.walk.frm), HD shStepS (k + (mcInt64S x.walk.frm : Nat)) (mcStepS x.walk.steps), .int .i64 x.at_, HD shInt64SS (k + (mcInt64S x.walk.frm : Nat) + (mcStepS x.walk.steps : Nat)) (mcInt64SS x.sub)]
attribute [go_sem] LoopH
theorem ta_Loop (i : Nat) (k : Int) (x : LoopT) : TA fsLoop [i] 0 k (LoopL [i] x).cells (LoopH k x) (mcLoop x) := by unfold TA; exact ⟨_, _, _, _, _, rfl, rfl, rfl, lt_Int64S _ _, by unfold TA; exact ⟨_, _, _, _, _, rfl, rfl, rfl, lt_StepS _ _, by unfold TA; exact ⟨_, _, _, rfl, rfl, rfl, by unfold TA; exact ⟨_, _, _, _, _, rfl, rfl, rfl, lt_Int64SS _ _, by unfold TA; exact ⟨rfl, rfl, rfl⟩⟩⟩⟩⟩
theorem hf_Loop (k : Int) (x : LoopT) : HF fsLoop k (LoopH k x) (mcLoop x) := by unfold HF; exact ⟨_, _, _, rfl, rfl, by unfold HF; exact ⟨_, _, _, rfl, rfl, by unfold HF; exact ⟨_, _, rfl, by unfold HF; exact ⟨_, _, _, rfl, rfl, by unfold HF; exact ⟨rfl, rfl⟩⟩⟩⟩⟩
def fsEq : Fs := (.sub shInt64S (.sub shInt64S .nil))
def EqL (p : List Nat) (x : EqT) : D := .agg [Int64SL (p ++ [0]) x.l, Int64SL (p ++ [1]) x.r]
attribute [go_sem] EqL
theorem le_EqLc (p : List Nat) (x : EqT) : leL (EqL p x).cells (EqD x).cells := ⟨le_Int64SL _ _, le_Int64SL _ _, trivial⟩
theorem le_EqL (p : List Nat) (x : EqT) : D.le (EqL p x) (EqD x) := by unfold EqL EqD; rw [le_agg]; exact le_EqLc p x
def mcEq (x : EqT) : Nat := (mcInt64S x.l + (mcInt64S x.r + 0))
theorem mcle_Eq (x : EqT) : mcEq x ≤ 4 * cntEq x := by have := mcle_Int64S x.l; have := mcle_Int64S x.r; unfold mcEq cntEq; (try simp only [cntSig, cntInt64S, cntWalk, cntSubst] at *); omega
def EqH (k : Int) (x : EqT) : List D := [HD shInt64S (k) (mcInt64S x.l), HD shInt64S (k + (mcInt64S x.l : Nat)) (mcInt64S x.r)]
attribute [go_sem] EqH
theorem ta_Eq (i : Nat) (k : Int) (x : EqT) : TA fsEq [i] 0 k (EqL [i] x).cells (EqH k x) (mcEq x) := by unfold TA; exact ⟨_, _, _, _, _, rfl, rfl, rfl, lt_Int64S _ _, by unfold TA; exact ⟨_, _, _, _, _, rfl, rfl, rfl, lt_Int64S _ _, by unfold TA; exact ⟨rfl, rfl, rfl⟩⟩⟩
theorem hf_Eq (k : Int) (x : EqT) : HF fsEq k (EqH k x) (mcEq x) := by unfold HF; exact ⟨_, _, _, rfl, rfl, by unfold HF; exact ⟨_, _, _, rfl, rfl, by unfold HF; exact ⟨rfl, rfl⟩⟩⟩
def shEqS : Sh := .slc (.sub shInt64S (.sub shInt64S .nil))
def EqSL (p : List Nat) (xs : List EqT) : D := .sl (.lab p) (mapR (fun i y => EqL (p ++ [i]) y) xs)
attribute [go_sem] EqSL
theorem le_EqSL (p : List Nat) (xs : List EqT) : D.le (EqSL p xs) (.sl .any (xs.map EqD)) := le_mapR xs fun j x => le_EqLc _ _
def mcEqS (xs : List EqT) : Nat := (xs.map fun x => (mcInt64S x.l + (mcInt64S x.r + 0))).sum
theorem mcle_EqS (xs : List EqT) : mcEqS xs ≤ 4 * cntEqS xs := by unfold mcEqS cntEqS; exact sum_le4 (fun x => by have := mcle_Int64S x.l; have := mcle_Int64S x.r; (try simp only [cntEq, cntInt64S, cntSig, cntSubst] at *); omega) xs
theorem lt_EqS (p : List Nat) (xs : List EqT) : LT shEqS p (EqSL p xs) (mcEqS xs) := LT_mapR xs fun j x => by unfold LF; exact ⟨_, _, _, _, rfl, rfl, lt_Int64S _ _, by unfold LF; exact ⟨_, _, _, _, rfl, rfl, lt_Int64S _ _, by unfold LF; exact ⟨rfl, rfl⟩⟩⟩
def MoveL (p : List Nat) (x : MoveT) : D := .agg [.int .i64 x.eq, .int .i64 x.at_, .bool x.back, Int64SL (p ++ [3]) x.to]
attribute [go_sem] MoveL
theorem le_MoveLc (p : List Nat) (x : MoveT) : leL (MoveL p x).cells (MoveD x).cells := ⟨.refl _, .refl _, .refl _, le_Int64SL _ _, trivial⟩
theorem le_MoveL (p : List Nat) (x : MoveT) : D.le (MoveL p x) (MoveD x) := by unfold MoveL MoveD; rw [le_agg]; exact le_MoveLc p x
def shMoveS : Sh := .slc (.cell (.cell (.flag (.sub shInt64S .nil))))
def MoveSL (p : List Nat) (xs : List MoveT) : D := .sl (.lab p) (mapR (fun i y => MoveL (p ++ [i]) y) xs)
attribute [go_sem] MoveSL
theorem le_MoveSL (p : List Nat) (xs : List MoveT) : D.le (MoveSL p xs) (.sl .any (xs.map MoveD)) := le_mapR xs fun j x => le_MoveLc _ _
def mcMoveS (xs : List MoveT) : Nat := (xs.map fun x => ((((mcInt64S x.to + 0) + 1) + 1) + 1)).sum
theorem mcle_MoveS (xs : List MoveT) : mcMoveS xs ≤ 4 * cntMoveS xs := by unfold mcMoveS cntMoveS; exact sum_le4 (fun x => by have := mcle_Int64S x.to; (try simp only [cntMove, cntInt64S, cntSig, cntSubst] at *); omega) xs
theorem lt_MoveS (p : List Nat) (xs : List MoveT) : LT shMoveS p (MoveSL p xs) (mcMoveS xs) := LT_mapR xs fun j x => by unfold LF; exact ⟨_, _, _, rfl, rfl, by unfold LF; exact ⟨_, _, _, rfl, rfl, by unfold LF; exact ⟨_, _, _, rfl, rfl, by unfold LF; exact ⟨_, _, _, _, rfl, rfl, lt_Int64S _ _, by unfold LF; exact ⟨rfl, rfl⟩⟩⟩⟩⟩
def fsChain : Fs := (.sub shInt64S (.sub shMoveS .nil))
def ChainL (p : List Nat) (x : ChainT) : D := .agg [Int64SL (p ++ [0]) x.frm, MoveSL (p ++ [1]) x.moves]
attribute [go_sem] ChainL
theorem le_ChainLc (p : List Nat) (x : ChainT) : leL (ChainL p x).cells (ChainD x).cells := ⟨le_Int64SL _ _, le_MoveSL _ _, trivial⟩
theorem le_ChainL (p : List Nat) (x : ChainT) : D.le (ChainL p x) (ChainD x) := by unfold ChainL ChainD; rw [le_agg]; exact le_ChainLc p x
def mcChain (x : ChainT) : Nat := (mcInt64S x.frm + (mcMoveS x.moves + 0))
theorem mcle_Chain (x : ChainT) : mcChain x ≤ 4 * cntChain x := by have := mcle_Int64S x.frm; have := mcle_MoveS x.moves; unfold mcChain cntChain; (try simp only [cntSig, cntInt64S, cntWalk, cntSubst] at *); omega
def ChainH (k : Int) (x : ChainT) : List D := [HD shInt64S (k) (mcInt64S x.frm), HD shMoveS (k + (mcInt64S x.frm : Nat)) (mcMoveS x.moves)]
attribute [go_sem] ChainH
theorem ta_Chain (i : Nat) (k : Int) (x : ChainT) : TA fsChain [i] 0 k (ChainL [i] x).cells (ChainH k x) (mcChain x) := by unfold TA; exact ⟨_, _, _, _, _, rfl, rfl, rfl, lt_Int64S _ _, by unfold TA; exact ⟨_, _, _, _, _, rfl, rfl, rfl, lt_MoveS _ _, by unfold TA; exact ⟨rfl, rfl, rfl⟩⟩⟩
theorem hf_Chain (k : Int) (x : ChainT) : HF fsChain k (ChainH k x) (mcChain x) := by unfold HF; exact ⟨_, _, _, rfl, rfl, by unfold HF; exact ⟨_, _, _, rfl, rfl, by unfold HF; exact ⟨rfl, rfl⟩⟩⟩
def fsWork : Fs := (.sub shInt64S (.sub shInt64S (.sub shEqS (.sub shRuleS .nil))))
def WorkL (p : List Nat) (x : WorkT) : D := .agg [Int64SL (p ++ [0]) x.sig, Int64SL (p ++ [1]) x.rank, EqSL (p ++ [2]) x.todo, RuleSL (p ++ [3]) x.rules]
attribute [go_sem] WorkL
theorem le_WorkLc (p : List Nat) (x : WorkT) : leL (WorkL p x).cells (WorkD x).cells := ⟨le_Int64SL _ _, le_Int64SL _ _, le_EqSL _ _, le_RuleSL _ _, trivial⟩
theorem le_WorkL (p : List Nat) (x : WorkT) : D.le (WorkL p x) (WorkD x) := by unfold WorkL WorkD; rw [le_agg]; exact le_WorkLc p x
def mcWork (x : WorkT) : Nat := (mcInt64S x.sig + (mcInt64S x.rank + (mcEqS x.todo + (mcRuleS x.rules + 0))))
theorem mcle_Work (x : WorkT) : mcWork x ≤ 4 * cntWork x := by have := mcle_Int64S x.sig; have := mcle_Int64S x.rank; have := mcle_EqS x.todo; have := mcle_RuleS x.rules; unfold mcWork cntWork; (try simp only [cntSig, cntInt64S, cntWalk, cntSubst] at *); omega
def WorkH (k : Int) (x : WorkT) : List D := [HD shInt64S (k) (mcInt64S x.sig), HD shInt64S (k + (mcInt64S x.sig : Nat)) (mcInt64S x.rank), HD shEqS (k + (mcInt64S x.sig : Nat) + (mcInt64S x.rank : Nat)) (mcEqS x.todo), HD shRuleS (k + (mcInt64S x.sig : Nat) + (mcInt64S x.rank : Nat) + (mcEqS x.todo : Nat)) (mcRuleS x.rules)]
attribute [go_sem] WorkH
theorem ta_Work (i : Nat) (k : Int) (x : WorkT) : TA fsWork [i] 0 k (WorkL [i] x).cells (WorkH k x) (mcWork x) := by unfold TA; exact ⟨_, _, _, _, _, rfl, rfl, rfl, lt_Int64S _ _, by unfold TA; exact ⟨_, _, _, _, _, rfl, rfl, rfl, lt_Int64S _ _, by unfold TA; exact ⟨_, _, _, _, _, rfl, rfl, rfl, lt_EqS _ _, by unfold TA; exact ⟨_, _, _, _, _, rfl, rfl, rfl, lt_RuleS _ _, by unfold TA; exact ⟨rfl, rfl, rfl⟩⟩⟩⟩⟩
theorem hf_Work (k : Int) (x : WorkT) : HF fsWork k (WorkH k x) (mcWork x) := by unfold HF; exact ⟨_, _, _, rfl, rfl, by unfold HF; exact ⟨_, _, _, rfl, rfl, by unfold HF; exact ⟨_, _, _, rfl, rfl, by unfold HF; exact ⟨_, _, _, rfl, rfl, by unfold HF; exact ⟨rfl, rfl⟩⟩⟩⟩⟩
def TransL (p : List Nat) (x : TransT) : D := .agg [.int .i64 x.sym, Int64SL (p ++ [1]) x.args, .int .i64 x.to]
attribute [go_sem] TransL
theorem le_TransLc (p : List Nat) (x : TransT) : leL (TransL p x).cells (TransD x).cells := ⟨.refl _, le_Int64SL _ _, .refl _, trivial⟩
theorem le_TransL (p : List Nat) (x : TransT) : D.le (TransL p x) (TransD x) := by unfold TransL TransD; rw [le_agg]; exact le_TransLc p x
def shTransS : Sh := .slc (.cell (.sub shInt64S (.cell .nil)))
def TransSL (p : List Nat) (xs : List TransT) : D := .sl (.lab p) (mapR (fun i y => TransL (p ++ [i]) y) xs)
attribute [go_sem] TransSL
theorem le_TransSL (p : List Nat) (xs : List TransT) : D.le (TransSL p xs) (.sl .any (xs.map TransD)) := le_mapR xs fun j x => le_TransLc _ _
def mcTransS (xs : List TransT) : Nat := (xs.map fun x => ((mcInt64S x.args + (0 + 1)) + 1)).sum
theorem mcle_TransS (xs : List TransT) : mcTransS xs ≤ 4 * cntTransS xs := by unfold mcTransS cntTransS; exact sum_le4 (fun x => by have := mcle_Int64S x.args; (try simp only [cntTrans, cntInt64S, cntSig, cntSubst] at *); omega) xs
theorem lt_TransS (p : List Nat) (xs : List TransT) : LT shTransS p (TransSL p xs) (mcTransS xs) := LT_mapR xs fun j x => by unfold LF; exact ⟨_, _, _, rfl, rfl, by unfold LF; exact ⟨_, _, _, _, rfl, rfl, lt_Int64S _ _, by unfold LF; exact ⟨_, _, _, rfl, rfl, by unfold LF; exact ⟨rfl, rfl⟩⟩⟩⟩
def fsAuto : Fs := (.skip (.sub shTransS (.sub shInt64S .nil)))
def AutoL (p : List Nat) (x : AutoT) : D := .agg [.int .i64 x.states, TransSL (p ++ [1]) x.rules, Int64SL (p ++ [2]) x.final]
attribute [go_sem] AutoL
theorem le_AutoLc (p : List Nat) (x : AutoT) : leL (AutoL p x).cells (AutoD x).cells := ⟨.refl _, le_TransSL _ _, le_Int64SL _ _, trivial⟩
theorem le_AutoL (p : List Nat) (x : AutoT) : D.le (AutoL p x) (AutoD x) := by unfold AutoL AutoD; rw [le_agg]; exact le_AutoLc p x
def mcAuto (x : AutoT) : Nat := (mcTransS x.rules + (mcInt64S x.final + 0))
theorem mcle_Auto (x : AutoT) : mcAuto x ≤ 4 * cntAuto x := by have := mcle_TransS x.rules; have := mcle_Int64S x.final; unfold mcAuto cntAuto; (try simp only [cntSig, cntInt64S, cntWalk, cntSubst] at *); omega
def AutoH (k : Int) (x : AutoT) : List D := [.int .i64 x.states, HD shTransS (k) (mcTransS x.rules), HD shInt64S (k + (mcTransS x.rules : Nat)) (mcInt64S x.final)]
attribute [go_sem] AutoH
theorem ta_Auto (i : Nat) (k : Int) (x : AutoT) : TA fsAuto [i] 0 k (AutoL [i] x).cells (AutoH k x) (mcAuto x) := by unfold TA; exact ⟨_, _, _, rfl, rfl, rfl, by unfold TA; exact ⟨_, _, _, _, _, rfl, rfl, rfl, lt_TransS _ _, by unfold TA; exact ⟨_, _, _, _, _, rfl, rfl, rfl, lt_Int64S _ _, by unfold TA; exact ⟨rfl, rfl, rfl⟩⟩⟩⟩
theorem hf_Auto (k : Int) (x : AutoT) : HF fsAuto k (AutoH k x) (mcAuto x) := by unfold HF; exact ⟨_, _, rfl, by unfold HF; exact ⟨_, _, _, rfl, rfl, by unfold HF; exact ⟨_, _, _, rfl, rfl, by unfold HF; exact ⟨rfl, rfl⟩⟩⟩⟩
def LineL (p : List Nat) (x : LineT) : D := .agg [.int .i64 x.fun_, Int64SSL (p ++ [1]) x.pats, Int64SL (p ++ [2]) x.body]
attribute [go_sem] LineL
theorem le_LineLc (p : List Nat) (x : LineT) : leL (LineL p x).cells (LineD x).cells := ⟨.refl _, le_Int64SSL _ _, le_Int64SL _ _, trivial⟩
theorem le_LineL (p : List Nat) (x : LineT) : D.le (LineL p x) (LineD x) := by unfold LineL LineD; rw [le_agg]; exact le_LineLc p x
def shLineS : Sh := .slc (.cell (.sub shInt64SS (.sub shInt64S .nil)))
def LineSL (p : List Nat) (xs : List LineT) : D := .sl (.lab p) (mapR (fun i y => LineL (p ++ [i]) y) xs)
attribute [go_sem] LineSL
theorem le_LineSL (p : List Nat) (xs : List LineT) : D.le (LineSL p xs) (.sl .any (xs.map LineD)) := le_mapR xs fun j x => le_LineLc _ _
def mcLineS (xs : List LineT) : Nat := (xs.map fun x => ((mcInt64SS x.pats + (mcInt64S x.body + 0)) + 1)).sum
theorem mcle_LineS (xs : List LineT) : mcLineS xs ≤ 4 * cntLineS xs := by unfold mcLineS cntLineS; exact sum_le4 (fun x => by have := mcle_Int64SS x.pats; have := mcle_Int64S x.body; (try simp only [cntLine, cntInt64S, cntSig, cntSubst] at *); omega) xs
theorem lt_LineS (p : List Nat) (xs : List LineT) : LT shLineS p (LineSL p xs) (mcLineS xs) := LT_mapR xs fun j x => by unfold LF; exact ⟨_, _, _, rfl, rfl, by unfold LF; exact ⟨_, _, _, _, rfl, rfl, lt_Int64SS _ _, by unfold LF; exact ⟨_, _, _, _, rfl, rfl, lt_Int64S _ _, by unfold LF; exact ⟨rfl, rfl⟩⟩⟩⟩
def fsFront : Fs := (.sub shInt64S (.sub shInt64S (.sub shLineS .nil)))
def FrontL (p : List Nat) (x : FrontT) : D := .agg [Int64SL (p ++ [0]) x.sig, Int64SL (p ++ [1]) x.funs, LineSL (p ++ [2]) x.lines]
attribute [go_sem] FrontL
theorem le_FrontLc (p : List Nat) (x : FrontT) : leL (FrontL p x).cells (FrontD x).cells := ⟨le_Int64SL _ _, le_Int64SL _ _, le_LineSL _ _, trivial⟩
theorem le_FrontL (p : List Nat) (x : FrontT) : D.le (FrontL p x) (FrontD x) := by unfold FrontL FrontD; rw [le_agg]; exact le_FrontLc p x
def mcFront (x : FrontT) : Nat := (mcInt64S x.sig + (mcInt64S x.funs + (mcLineS x.lines + 0)))
theorem mcle_Front (x : FrontT) : mcFront x ≤ 4 * cntFront x := by have := mcle_Int64S x.sig; have := mcle_Int64S x.funs; have := mcle_LineS x.lines; unfold mcFront cntFront; (try simp only [cntSig, cntInt64S, cntWalk, cntSubst] at *); omega
def FrontH (k : Int) (x : FrontT) : List D := [HD shInt64S (k) (mcInt64S x.sig), HD shInt64S (k + (mcInt64S x.sig : Nat)) (mcInt64S x.funs), HD shLineS (k + (mcInt64S x.sig : Nat) + (mcInt64S x.funs : Nat)) (mcLineS x.lines)]
attribute [go_sem] FrontH
theorem ta_Front (i : Nat) (k : Int) (x : FrontT) : TA fsFront [i] 0 k (FrontL [i] x).cells (FrontH k x) (mcFront x) := by unfold TA; exact ⟨_, _, _, _, _, rfl, rfl, rfl, lt_Int64S _ _, by unfold TA; exact ⟨_, _, _, _, _, rfl, rfl, rfl, lt_Int64S _ _, by unfold TA; exact ⟨_, _, _, _, _, rfl, rfl, rfl, lt_LineS _ _, by unfold TA; exact ⟨rfl, rfl, rfl⟩⟩⟩⟩
theorem hf_Front (k : Int) (x : FrontT) : HF fsFront k (FrontH k x) (mcFront x) := by unfold HF; exact ⟨_, _, _, rfl, rfl, by unfold HF; exact ⟨_, _, _, rfl, rfl, by unfold HF; exact ⟨_, _, _, rfl, rfl, by unfold HF; exact ⟨rfl, rfl⟩⟩⟩⟩
def CRuleL (p : List Nat) (x : CRuleT) : D := .agg [Int64SL (p ++ [0]) x.l, Int64SL (p ++ [1]) x.r, EqSL (p ++ [2]) x.conds]
attribute [go_sem] CRuleL
theorem le_CRuleLc (p : List Nat) (x : CRuleT) : leL (CRuleL p x).cells (CRuleD x).cells := ⟨le_Int64SL _ _, le_Int64SL _ _, le_EqSL _ _, trivial⟩
theorem le_CRuleL (p : List Nat) (x : CRuleT) : D.le (CRuleL p x) (CRuleD x) := by unfold CRuleL CRuleD; rw [le_agg]; exact le_CRuleLc p x
def shCRuleS : Sh := .slc (.sub shInt64S (.sub shInt64S (.sub shEqS .nil)))
def CRuleSL (p : List Nat) (xs : List CRuleT) : D := .sl (.lab p) (mapR (fun i y => CRuleL (p ++ [i]) y) xs)
attribute [go_sem] CRuleSL
theorem le_CRuleSL (p : List Nat) (xs : List CRuleT) : D.le (CRuleSL p xs) (.sl .any (xs.map CRuleD)) := le_mapR xs fun j x => le_CRuleLc _ _
def mcCRuleS (xs : List CRuleT) : Nat := (xs.map fun x => (mcInt64S x.l + (mcInt64S x.r + (mcEqS x.conds + 0)))).sum
theorem mcle_CRuleS (xs : List CRuleT) : mcCRuleS xs ≤ 4 * cntCRuleS xs := by unfold mcCRuleS cntCRuleS; exact sum_le4 (fun x => by have := mcle_Int64S x.l; have := mcle_Int64S x.r; have := mcle_EqS x.conds; (try simp only [cntCRule, cntInt64S, cntSig, cntSubst] at *); omega) xs
theorem lt_CRuleS (p : List Nat) (xs : List CRuleT) : LT shCRuleS p (CRuleSL p xs) (mcCRuleS xs) := LT_mapR xs fun j x => by unfold LF; exact ⟨_, _, _, _, rfl, rfl, lt_Int64S _ _, by unfold LF; exact ⟨_, _, _, _, rfl, rfl, lt_Int64S _ _, by unfold LF; exact ⟨_, _, _, _, rfl, rfl, lt_EqS _ _, by unfold LF; exact ⟨rfl, rfl⟩⟩⟩⟩
def fsCSystem : Fs := (.sub shInt64S (.sub shCRuleS .nil))
def CSystemL (p : List Nat) (x : CSystemT) : D := .agg [Int64SL (p ++ [0]) x.sig, CRuleSL (p ++ [1]) x.rules]
attribute [go_sem] CSystemL
theorem le_CSystemLc (p : List Nat) (x : CSystemT) : leL (CSystemL p x).cells (CSystemD x).cells := ⟨le_Int64SL _ _, le_CRuleSL _ _, trivial⟩
theorem le_CSystemL (p : List Nat) (x : CSystemT) : D.le (CSystemL p x) (CSystemD x) := by unfold CSystemL CSystemD; rw [le_agg]; exact le_CSystemLc p x
def mcCSystem (x : CSystemT) : Nat := (mcInt64S x.sig + (mcCRuleS x.rules + 0))
theorem mcle_CSystem (x : CSystemT) : mcCSystem x ≤ 4 * cntCSystem x := by have := mcle_Int64S x.sig; have := mcle_CRuleS x.rules; unfold mcCSystem cntCSystem; (try simp only [cntSig, cntInt64S, cntWalk, cntSubst] at *); omega
def CSystemH (k : Int) (x : CSystemT) : List D := [HD shInt64S (k) (mcInt64S x.sig), HD shCRuleS (k + (mcInt64S x.sig : Nat)) (mcCRuleS x.rules)]
attribute [go_sem] CSystemH
theorem ta_CSystem (i : Nat) (k : Int) (x : CSystemT) : TA fsCSystem [i] 0 k (CSystemL [i] x).cells (CSystemH k x) (mcCSystem x) := by unfold TA; exact ⟨_, _, _, _, _, rfl, rfl, rfl, lt_Int64S _ _, by unfold TA; exact ⟨_, _, _, _, _, rfl, rfl, rfl, lt_CRuleS _ _, by unfold TA; exact ⟨rfl, rfl, rfl⟩⟩⟩
theorem hf_CSystem (k : Int) (x : CSystemT) : HF fsCSystem k (CSystemH k x) (mcCSystem x) := by unfold HF; exact ⟨_, _, _, rfl, rfl, by unfold HF; exact ⟨_, _, _, rfl, rfl, by unfold HF; exact ⟨rfl, rfl⟩⟩⟩
def shSubstS : Sh := .slc (.sub shInt64SS .nil)
def SubstSL (p : List Nat) (xs : List (List (List Int))) : D := .sl (.lab p) (mapR (fun i y => SubstL (p ++ [i]) y) xs)
attribute [go_sem] SubstSL
theorem le_SubstSL (p : List Nat) (xs : List (List (List Int))) : D.le (SubstSL p xs) (.sl .any (xs.map SubstD)) := le_mapR xs fun j x => le_SubstLc _ _
def mcSubstS (xs : List (List (List Int))) : Nat := (xs.map fun x => (mcInt64SS x + 0)).sum
theorem mcle_SubstS (xs : List (List (List Int))) : mcSubstS xs ≤ 4 * cntSubstS xs := by unfold mcSubstS cntSubstS; exact sum_le4 (fun x => by have := mcle_Int64SS x; (try simp only [cntSubst, cntInt64S, cntSig, cntSubst] at *); omega) xs
theorem lt_SubstS (p : List Nat) (xs : List (List (List Int))) : LT shSubstS p (SubstSL p xs) (mcSubstS xs) := LT_mapR xs fun j x => by unfold LF; exact ⟨_, _, _, _, rfl, rfl, lt_Int64SS _ _, by unfold LF; exact ⟨rfl, rfl⟩⟩
def fsNode : Fs := (.skip (.sub shInt64S (.sub shInt64SS (.sub shInt64S .nil))))
def NodeL (p : List Nat) (x : NodeT) : D := .agg [.int .i64 x.kind, Int64SL (p ++ [1]) x.nums, Int64SSL (p ++ [2]) x.terms, Int64SL (p ++ [3]) x.kids]
attribute [go_sem] NodeL
theorem le_NodeLc (p : List Nat) (x : NodeT) : leL (NodeL p x).cells (NodeD x).cells := ⟨.refl _, le_Int64SL _ _, le_Int64SSL _ _, le_Int64SL _ _, trivial⟩
theorem le_NodeL (p : List Nat) (x : NodeT) : D.le (NodeL p x) (NodeD x) := by unfold NodeL NodeD; rw [le_agg]; exact le_NodeLc p x
def mcNode (x : NodeT) : Nat := (mcInt64S x.nums + (mcInt64SS x.terms + (mcInt64S x.kids + 0)))
theorem mcle_Node (x : NodeT) : mcNode x ≤ 4 * cntNode x := by have := mcle_Int64S x.nums; have := mcle_Int64SS x.terms; have := mcle_Int64S x.kids; unfold mcNode cntNode; (try simp only [cntSig, cntInt64S, cntWalk, cntSubst] at *); omega
def NodeH (k : Int) (x : NodeT) : List D := [.int .i64 x.kind, HD shInt64S (k) (mcInt64S x.nums), HD shInt64SS (k + (mcInt64S x.nums : Nat)) (mcInt64SS x.terms), HD shInt64S (k + (mcInt64S x.nums : Nat) + (mcInt64SS x.terms : Nat)) (mcInt64S x.kids)]
attribute [go_sem] NodeH
theorem ta_Node (i : Nat) (k : Int) (x : NodeT) : TA fsNode [i] 0 k (NodeL [i] x).cells (NodeH k x) (mcNode x) := by unfold TA; exact ⟨_, _, _, rfl, rfl, rfl, by unfold TA; exact ⟨_, _, _, _, _, rfl, rfl, rfl, lt_Int64S _ _, by unfold TA; exact ⟨_, _, _, _, _, rfl, rfl, rfl, lt_Int64SS _ _, by unfold TA; exact ⟨_, _, _, _, _, rfl, rfl, rfl, lt_Int64S _ _, by unfold TA; exact ⟨rfl, rfl, rfl⟩⟩⟩⟩⟩
theorem hf_Node (k : Int) (x : NodeT) : HF fsNode k (NodeH k x) (mcNode x) := by unfold HF; exact ⟨_, _, rfl, by unfold HF; exact ⟨_, _, _, rfl, rfl, by unfold HF; exact ⟨_, _, _, rfl, rfl, by unfold HF; exact ⟨_, _, _, rfl, rfl, by unfold HF; exact ⟨rfl, rfl⟩⟩⟩⟩⟩
def shNodeS : Sh := .slc (.cell (.sub shInt64S (.sub shInt64SS (.sub shInt64S .nil))))
def NodeSL (p : List Nat) (xs : List NodeT) : D := .sl (.lab p) (mapR (fun i y => NodeL (p ++ [i]) y) xs)
attribute [go_sem] NodeSL
theorem le_NodeSL (p : List Nat) (xs : List NodeT) : D.le (NodeSL p xs) (.sl .any (xs.map NodeD)) := le_mapR xs fun j x => le_NodeLc _ _
def mcNodeS (xs : List NodeT) : Nat := (xs.map fun x => ((mcInt64S x.nums + (mcInt64SS x.terms + (mcInt64S x.kids + 0))) + 1)).sum
theorem mcle_NodeS (xs : List NodeT) : mcNodeS xs ≤ 4 * cntNodeS xs := by unfold mcNodeS cntNodeS; exact sum_le4 (fun x => by have := mcle_Int64S x.nums; have := mcle_Int64SS x.terms; have := mcle_Int64S x.kids; (try simp only [cntNode, cntInt64S, cntSig, cntSubst] at *); omega) xs
theorem lt_NodeS (p : List Nat) (xs : List NodeT) : LT shNodeS p (NodeSL p xs) (mcNodeS xs) := LT_mapR xs fun j x => by unfold LF; exact ⟨_, _, _, rfl, rfl, by unfold LF; exact ⟨_, _, _, _, rfl, rfl, lt_Int64S _ _, by unfold LF; exact ⟨_, _, _, _, rfl, rfl, lt_Int64SS _ _, by unfold LF; exact ⟨_, _, _, _, rfl, rfl, lt_Int64S _ _, by unfold LF; exact ⟨rfl, rfl⟩⟩⟩⟩⟩
def fsProof : Fs := (.sub shNodeS .nil)
def ProofL (p : List Nat) (x : List NodeT) : D := .agg [NodeSL (p ++ [0]) x]
attribute [go_sem] ProofL
theorem le_ProofLc (p : List Nat) (x : List NodeT) : leL (ProofL p x).cells (ProofD x).cells := ⟨le_NodeSL _ _, trivial⟩
theorem le_ProofL (p : List Nat) (x : List NodeT) : D.le (ProofL p x) (ProofD x) := by unfold ProofL ProofD; rw [le_agg]; exact le_ProofLc p x
def mcProof (x : List NodeT) : Nat := (mcNodeS x + 0)
theorem mcle_Proof (x : List NodeT) : mcProof x ≤ 4 * cntProof x := by have := mcle_NodeS x; unfold mcProof cntProof; (try simp only [cntSig, cntInt64S, cntWalk, cntSubst] at *); omega
def ProofH (k : Int) (x : List NodeT) : List D := [HD shNodeS (k) (mcNodeS x)]
attribute [go_sem] ProofH
theorem ta_Proof (i : Nat) (k : Int) (x : List NodeT) : TA fsProof [i] 0 k (ProofL [i] x).cells (ProofH k x) (mcProof x) := by unfold TA; exact ⟨_, _, _, _, _, rfl, rfl, rfl, lt_NodeS _ _, by unfold TA; exact ⟨rfl, rfl, rfl⟩⟩
theorem hf_Proof (k : Int) (x : List NodeT) : HF fsProof k (ProofH k x) (mcProof x) := by unfold HF; exact ⟨_, _, _, rfl, rfl, by unfold HF; exact ⟨rfl, rfl⟩⟩
def fsClaim : Fs := (.skip (.sub shInt64S (.sub shInt64S .nil)))
def ClaimL (p : List Nat) (x : ClaimT) : D := .agg [.int .i64 x.kind, Int64SL (p ++ [1]) x.a, Int64SL (p ++ [2]) x.b]
attribute [go_sem] ClaimL
theorem le_ClaimLc (p : List Nat) (x : ClaimT) : leL (ClaimL p x).cells (ClaimD x).cells := ⟨.refl _, le_Int64SL _ _, le_Int64SL _ _, trivial⟩
theorem le_ClaimL (p : List Nat) (x : ClaimT) : D.le (ClaimL p x) (ClaimD x) := by unfold ClaimL ClaimD; rw [le_agg]; exact le_ClaimLc p x
def mcClaim (x : ClaimT) : Nat := (mcInt64S x.a + (mcInt64S x.b + 0))
theorem mcle_Claim (x : ClaimT) : mcClaim x ≤ 4 * cntClaim x := by have := mcle_Int64S x.a; have := mcle_Int64S x.b; unfold mcClaim cntClaim; (try simp only [cntSig, cntInt64S, cntWalk, cntSubst] at *); omega
def ClaimH (k : Int) (x : ClaimT) : List D := [.int .i64 x.kind, HD shInt64S (k) (mcInt64S x.a), HD shInt64S (k + (mcInt64S x.a : Nat)) (mcInt64S x.b)]
attribute [go_sem] ClaimH
theorem ta_Claim (i : Nat) (k : Int) (x : ClaimT) : TA fsClaim [i] 0 k (ClaimL [i] x).cells (ClaimH k x) (mcClaim x) := by unfold TA; exact ⟨_, _, _, rfl, rfl, rfl, by unfold TA; exact ⟨_, _, _, _, _, rfl, rfl, rfl, lt_Int64S _ _, by unfold TA; exact ⟨_, _, _, _, _, rfl, rfl, rfl, lt_Int64S _ _, by unfold TA; exact ⟨rfl, rfl, rfl⟩⟩⟩⟩
theorem hf_Claim (k : Int) (x : ClaimT) : HF fsClaim k (ClaimH k x) (mcClaim x) := by unfold HF; exact ⟨_, _, rfl, by unfold HF; exact ⟨_, _, _, rfl, rfl, by unfold HF; exact ⟨_, _, _, rfl, rfl, by unfold HF; exact ⟨rfl, rfl⟩⟩⟩⟩
end Go.Proofs.Ytenjmepbaajkjaa
