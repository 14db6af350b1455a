/-
  Labelled encodings, what holds of them, the labelled copies. Made by L.gen.
-/
import Derived.Test.YtgbcnhbmfjkhmaaTy
import Derived.Test.YtgbcnhbmfjkhmaaLgK7
namespace Go.Proofs.Ytgbcnhbmfjkhmaa
open Go Go.Lg
set_option linter.unusedSimpArgs false
set_option linter.unusedVariables false
set_option maxHeartbeats 4000000
attribute [local irreducible] SW runL runQ runG runQG FC Ret Ret1
def shInt64S : Sh := .slc (.cell .nil)
def Int64SL (p : List Nat) (xs : List Int) : D := .sl (.lab p) (xs.map (.int .i64))
attribute [go_sem] Int64SL
def mcInt64S (xs : List Int) : Nat := xs.length
theorem le_Int64SL (p : List Nat) (xs : List Int) : D.le (Int64SL p xs) (.sl .any (xs.map (.int .i64))) := .any
theorem mcle_Int64S (xs : List Int) : mcInt64S xs ≤ 4 * cntInt64S xs := by unfold mcInt64S cntInt64S; omega
theorem lt_Int64S (p : List Nat) (xs : List Int) : LT shInt64S p (Int64SL p xs) (mcInt64S xs) := LT_ints p xs
def fsSig : Fs := (.sub shInt64S .nil)
def SigL (p : List Nat) (x : List Int) : D := .agg [Int64SL (p ++ [0]) x]
attribute [go_sem] SigL
theorem le_SigLc (p : List Nat) (x : List Int) : leL (SigL p x).cells (SigD x).cells := ⟨le_Int64SL _ _, trivial⟩
theorem le_SigL (p : List Nat) (x : List Int) : D.le (SigL p x) (SigD x) := by unfold SigL SigD; rw [le_agg]; exact le_SigLc p x
def mcSig (x : List Int) : Nat := (mcInt64S x + 0)
theorem mcle_Sig (x : List Int) : mcSig x ≤ 4 * cntSig x := by have := mcle_Int64S x; unfold mcSig cntSig; (try simp only [cntSig, cntInt64S, cntWalk, cntSubst] at *); omega
def SigH (k : Int) (x : List Int) : List D := [HD shInt64S (k) (mcInt64S x)]
attribute [go_sem] SigH
theorem ta_Sig (i : Nat) (k : Int) (x : List Int) : TA fsSig [i] 0 k (SigL [i] x).cells (SigH k x) (mcSig x) := by unfold TA; exact ⟨_, _, _, _, _, rfl, rfl, rfl, lt_Int64S _ _, by unfold TA; exact ⟨rfl, rfl, rfl⟩⟩
def TransL (p : List Nat) (x : TransT) : D := .agg [.int .i64 x.sym, Int64SL (p ++ [1]) x.args, .int .i64 x.to]
attribute [go_sem] TransL
theorem le_TransLc (p : List Nat) (x : TransT) : leL (TransL p x).cells (TransD x).cells := ⟨.refl _, le_Int64SL _ _, .refl _, trivial⟩
theorem le_TransL (p : List Nat) (x : TransT) : D.le (TransL p x) (TransD x) := by unfold TransL TransD; rw [le_agg]; exact le_TransLc p x
def shTransS : Sh := .slc (.cell (.sub shInt64S (.cell .nil)))
def TransSL (p : List Nat) (xs : List TransT) : D := .sl (.lab p) (mapR (fun i y => TransL (p ++ [i]) y) xs)
attribute [go_sem] TransSL
theorem le_TransSL (p : List Nat) (xs : List TransT) : D.le (TransSL p xs) (.sl .any (xs.map TransD)) := le_mapR xs fun j x => le_TransLc _ _
def mcTransS (xs : List TransT) : Nat := (xs.map fun x => ((mcInt64S x.args + (0 + 1)) + 1)).sum
theorem mcle_TransS (xs : List TransT) : mcTransS xs ≤ 4 * cntTransS xs := by unfold mcTransS cntTransS; exact sum_le4 (fun x => by have := mcle_Int64S x.args; (try simp only [cntTrans, cntInt64S, cntSig, cntSubst] at *); omega) xs
theorem lt_TransS (p : List Nat) (xs : List TransT) : LT shTransS p (TransSL p xs) (mcTransS xs) := LT_mapR xs fun j x => by unfold LF; exact ⟨_, _, _, rfl, rfl, by unfold LF; exact ⟨_, _, _, _, rfl, rfl, lt_Int64S _ _, by unfold LF; exact ⟨_, _, _, rfl, rfl, by unfold LF; exact ⟨rfl, rfl⟩⟩⟩⟩
def fsAuto : Fs := (.skip (.sub shTransS (.sub shInt64S .nil)))
def AutoL (p : List Nat) (x : AutoT) : D := .agg [.int .i64 x.states, TransSL (p ++ [1]) x.rules, Int64SL (p ++ [2]) x.final]
attribute [go_sem] AutoL
theorem le_AutoLc (p : List Nat) (x : AutoT) : leL (AutoL p x).cells (AutoD x).cells := ⟨.refl _, le_TransSL _ _, le_Int64SL _ _, trivial⟩
theorem le_AutoL (p : List Nat) (x : AutoT) : D.le (AutoL p x) (AutoD x) := by unfold AutoL AutoD; rw [le_agg]; exact le_AutoLc p x
def mcAuto (x : AutoT) : Nat := (mcTransS x.rules + (mcInt64S x.final + 0))
theorem mcle_Auto (x : AutoT) : mcAuto x ≤ 4 * cntAuto x := by have := mcle_TransS x.rules; have := mcle_Int64S x.final; unfold mcAuto cntAuto; (try simp only [cntSig, cntInt64S, cntWalk, cntSubst] at *); omega
def AutoH (k : Int) (x : AutoT) : List D := [.int .i64 x.states, HD shTransS (k) (mcTransS x.rules), HD shInt64S (k + (mcTransS x.rules : Nat)) (mcInt64S x.final)]
attribute [go_sem] AutoH
theorem ta_Auto (i : Nat) (k : Int) (x : AutoT) : TA fsAuto [i] 0 k (AutoL [i] x).cells (AutoH k x) (mcAuto x) := by unfold TA; exact ⟨_, _, _, rfl, rfl, rfl, by unfold TA; exact ⟨_, _, _, _, _, rfl, rfl, rfl, lt_TransS _ _, by unfold TA; exact ⟨_, _, _, _, _, rfl, rfl, rfl, lt_Int64S _ _, by unfold TA; exact ⟨rfl, rfl, rfl⟩⟩⟩⟩
theorem hf_Auto (k : Int) (x : AutoT) : HF fsAuto k (AutoH k x) (mcAuto x) := by unfold HF; exact ⟨_, _, rfl, by unfold HF; exact ⟨_, _, _, rfl, rfl, by unfold HF; exact ⟨_, _, _, rfl, rfl, by unfold HF; exact ⟨rfl, rfl⟩⟩⟩⟩
end Go.Proofs.Ytgbcnhbmfjkhmaa
