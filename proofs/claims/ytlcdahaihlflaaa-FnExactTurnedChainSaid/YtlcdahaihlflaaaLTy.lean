/-
  Labelled encodings, what holds of them, the labelled copies. Made by L.gen.
-/
import Derived.Test.YtlcdahaihlflaaaTy
import Derived.Test.YtlcdahaihlflaaaLgK7
namespace Go.Proofs.Ytlcdahaihlflaaa
open Go Go.Lg
set_option linter.unusedSimpArgs false
set_option linter.unusedVariables false
set_option maxHeartbeats 4000000
attribute [local irreducible] SW runL runQ runG runQG FC Ret Ret1
def shInt64S : Sh := .slc (.cell .nil)
def Int64SL (p : List Nat) (xs : List Int) : D := .sl (.lab p) (xs.map (.int .i64))
attribute [go_sem] Int64SL
def mcInt64S (xs : List Int) : Nat := xs.length
theorem le_Int64SL (p : List Nat) (xs : List Int) : D.le (Int64SL p xs) (.sl .any (xs.map (.int .i64))) := .any
theorem mcle_Int64S (xs : List Int) : mcInt64S xs ≤ 4 * cntInt64S xs := by unfold mcInt64S cntInt64S; omega
theorem lt_Int64S (p : List Nat) (xs : List Int) : LT shInt64S p (Int64SL p xs) (mcInt64S xs) := LT_ints p xs
def fsSig : Fs := (.sub shInt64S .nil)
def SigL (p : List Nat) (x : List Int) : D := .agg [Int64SL (p ++ [0]) x]
attribute [go_sem] SigL
theorem le_SigLc (p : List Nat) (x : List Int) : leL (SigL p x).cells (SigD x).cells := ⟨le_Int64SL _ _, trivial⟩
theorem le_SigL (p : List Nat) (x : List Int) : D.le (SigL p x) (SigD x) := by unfold SigL SigD; rw [le_agg]; exact le_SigLc p x
def mcSig (x : List Int) : Nat := (mcInt64S x + 0)
theorem mcle_Sig (x : List Int) : mcSig x ≤ 4 * cntSig x := by have := mcle_Int64S x; unfold mcSig cntSig; (try simp only [cntSig, cntInt64S, cntWalk, cntSubst] at *); omega
def SigH (k : Int) (x : List Int) : List D := [HD shInt64S (k) (mcInt64S x)]
attribute [go_sem] SigH
theorem ta_Sig (i : Nat) (k : Int) (x : List Int) : TA fsSig [i] 0 k (SigL [i] x).cells (SigH k x) (mcSig x) := by unfold TA; exact ⟨_, _, _, _, _, rfl, rfl, rfl, lt_Int64S _ _, by unfold TA; exact ⟨rfl, rfl, rfl⟩⟩
def EqL (p : List Nat) (x : EqT) : D := .agg [Int64SL (p ++ [0]) x.l, Int64SL (p ++ [1]) x.r]
attribute [go_sem] EqL
theorem le_EqLc (p : List Nat) (x : EqT) : leL (EqL p x).cells (EqD x).cells := ⟨le_Int64SL _ _, le_Int64SL _ _, trivial⟩
theorem le_EqL (p : List Nat) (x : EqT) : D.le (EqL p x) (EqD x) := by unfold EqL EqD; rw [le_agg]; exact le_EqLc p x
def shEqS : Sh := .slc (.sub shInt64S (.sub shInt64S .nil))
def EqSL (p : List Nat) (xs : List EqT) : D := .sl (.lab p) (mapR (fun i y => EqL (p ++ [i]) y) xs)
attribute [go_sem] EqSL
theorem le_EqSL (p : List Nat) (xs : List EqT) : D.le (EqSL p xs) (.sl .any (xs.map EqD)) := le_mapR xs fun j x => le_EqLc _ _
def mcEqS (xs : List EqT) : Nat := (xs.map fun x => (mcInt64S x.l + (mcInt64S x.r + 0))).sum
theorem mcle_EqS (xs : List EqT) : mcEqS xs ≤ 4 * cntEqS xs := by unfold mcEqS cntEqS; exact sum_le4 (fun x => by have := mcle_Int64S x.l; have := mcle_Int64S x.r; (try simp only [cntEq, cntInt64S, cntSig, cntSubst] at *); omega) xs
theorem lt_EqS (p : List Nat) (xs : List EqT) : LT shEqS p (EqSL p xs) (mcEqS xs) := LT_mapR xs fun j x => by unfold LF; exact ⟨_, _, _, _, rfl, rfl, lt_Int64S _ _, by unfold LF; exact ⟨_, _, _, _, rfl, rfl, lt_Int64S _ _, by unfold LF; exact ⟨rfl, rfl⟩⟩⟩
def MoveL (p : List Nat) (x : MoveT) : D := .agg [.int .i64 x.eq, .int .i64 x.at_, .bool x.back, Int64SL (p ++ [3]) x.to]
attribute [go_sem] MoveL
theorem le_MoveLc (p : List Nat) (x : MoveT) : leL (MoveL p x).cells (MoveD x).cells := ⟨.refl _, .refl _, .refl _, le_Int64SL _ _, trivial⟩
theorem le_MoveL (p : List Nat) (x : MoveT) : D.le (MoveL p x) (MoveD x) := by unfold MoveL MoveD; rw [le_agg]; exact le_MoveLc p x
def shMoveS : Sh := .slc (.cell (.cell (.flag (.sub shInt64S .nil))))
def MoveSL (p : List Nat) (xs : List MoveT) : D := .sl (.lab p) (mapR (fun i y => MoveL (p ++ [i]) y) xs)
attribute [go_sem] MoveSL
theorem le_MoveSL (p : List Nat) (xs : List MoveT) : D.le (MoveSL p xs) (.sl .any (xs.map MoveD)) := le_mapR xs fun j x => le_MoveLc _ _
def mcMoveS (xs : List MoveT) : Nat := (xs.map fun x => ((((mcInt64S x.to + 0) + 1) + 1) + 1)).sum
theorem mcle_MoveS (xs : List MoveT) : mcMoveS xs ≤ 4 * cntMoveS xs := by unfold mcMoveS cntMoveS; exact sum_le4 (fun x => by have := mcle_Int64S x.to; (try simp only [cntMove, cntInt64S, cntSig, cntSubst] at *); omega) xs
theorem lt_MoveS (p : List Nat) (xs : List MoveT) : LT shMoveS p (MoveSL p xs) (mcMoveS xs) := LT_mapR xs fun j x => by unfold LF; exact ⟨_, _, _, rfl, rfl, by unfold LF; exact ⟨_, _, _, rfl, rfl, by unfold LF; exact ⟨_, _, _, rfl, rfl, by unfold LF; exact ⟨_, _, _, _, rfl, rfl, lt_Int64S _ _, by unfold LF; exact ⟨rfl, rfl⟩⟩⟩⟩⟩
def fsChain : Fs := (.sub shInt64S (.sub shMoveS .nil))
def ChainL (p : List Nat) (x : ChainT) : D := .agg [Int64SL (p ++ [0]) x.frm, MoveSL (p ++ [1]) x.moves]
attribute [go_sem] ChainL
theorem le_ChainLc (p : List Nat) (x : ChainT) : leL (ChainL p x).cells (ChainD x).cells := ⟨le_Int64SL _ _, le_MoveSL _ _, trivial⟩
theorem le_ChainL (p : List Nat) (x : ChainT) : D.le (ChainL p x) (ChainD x) := by unfold ChainL ChainD; rw [le_agg]; exact le_ChainLc p x
def mcChain (x : ChainT) : Nat := (mcInt64S x.frm + (mcMoveS x.moves + 0))
theorem mcle_Chain (x : ChainT) : mcChain x ≤ 4 * cntChain x := by have := mcle_Int64S x.frm; have := mcle_MoveS x.moves; unfold mcChain cntChain; (try simp only [cntSig, cntInt64S, cntWalk, cntSubst] at *); omega
def ChainH (k : Int) (x : ChainT) : List D := [HD shInt64S (k) (mcInt64S x.frm), HD shMoveS (k + (mcInt64S x.frm : Nat)) (mcMoveS x.moves)]
attribute [go_sem] ChainH
theorem ta_Chain (i : Nat) (k : Int) (x : ChainT) : TA fsChain [i] 0 k (ChainL [i] x).cells (ChainH k x) (mcChain x) := by unfold TA; exact ⟨_, _, _, _, _, rfl, rfl, rfl, lt_Int64S _ _, by unfold TA; exact ⟨_, _, _, _, _, rfl, rfl, rfl, lt_MoveS _ _, by unfold TA; exact ⟨rfl, rfl, rfl⟩⟩⟩
theorem hf_Chain (k : Int) (x : ChainT) : HF fsChain k (ChainH k x) (mcChain x) := by unfold HF; exact ⟨_, _, _, rfl, rfl, by unfold HF; exact ⟨_, _, _, rfl, rfl, by unfold HF; exact ⟨rfl, rfl⟩⟩⟩
end Go.Proofs.Ytlcdahaihlflaaa
