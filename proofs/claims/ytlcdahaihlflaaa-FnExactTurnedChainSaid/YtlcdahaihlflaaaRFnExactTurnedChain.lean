/-
  FnExactTurnedChain returns true, whatever its arguments: its contract, and its row (no condition).
-/
import Derived.Test.YtlcdahaihlflaaaRows
import Derived.Test.YtlcdahaihlflaaaHFnExactTurnedChain
import Derived.Test.YtlcdahaihlflaaaA20t
import Derived.Test.YtlcdahaihlflaaaT02
import Derived.Test.YtlcdahaihlflaaaLFnExactTurnedChain
import Derived.Test.YtlcdahaihlflaaaLgK7
import Derived.Test.YtlcdahaihlflaaaLgK6
namespace Go.Proofs.Ytlcdahaihlflaaa
open Go Go.Lg Go.RowKit Go.ChangeShapes Go.WideShapes Go.ChangeAt
set_option linter.unusedVariables false
set_option linter.unusedSimpArgs false
set_option maxHeartbeats 4000000
set_option maxRecDepth 100000
def RngInt64 (x : Int) : Prop := In64 x
def RngInt64S (xs : List Int) : Prop := ∀ x ∈ xs, RngInt64 x
def RngSig (x : List Int) : Prop := RngInt64S x
def RngEq (x : EqT) : Prop := RngInt64S x.l ∧ RngInt64S x.r
def RngEqS (xs : List EqT) : Prop := ∀ x ∈ xs, RngEq x
def RngMove (x : MoveT) : Prop := RngInt64 x.eq ∧ RngInt64 x.at_ ∧ True ∧ RngInt64S x.to
def RngMoveS (xs : List MoveT) : Prop := ∀ x ∈ xs, RngMove x
def RngChain (x : ChainT) : Prop := RngInt64S x.frm ∧ RngMoveS x.moves
section
attribute [local irreducible] SW runL runQ runG runQG FC Ret1
def kp4 : List (Nat × List Nat) := [(0, [1, 3, 5]), (1, [1, 3, 5, 7]), (2, [1, 3, 5, 7]), (3, [1, 3, 5, 7, 24]), (4, [6]), (5, [1, 3, 5, 7]), (6, [1, 3, 5, 7, 29]), (7, [6]), (8, [1, 3, 5, 7]), (9, [1, 3, 5, 34]), (10, [6]), (11, [1, 3, 5, 8, 9]), (12, [1, 3, 5, 8, 9, 10]), (13, [1, 3, 5, 8, 9, 10, 11]), (14, [1, 3, 5, 8, 9, 10, 11, 12]), (15, [1, 3, 5, 8, 9, 10, 11, 12, 13, 14]), (16, [1, 3, 5, 8, 9, 10, 11, 12, 13, 14, 66]), (17, [6]), (18, [1, 3, 5, 8, 9, 10, 11, 12, 13, 14, 71]), (19, [6]), (20, [1, 3, 5, 8, 9, 10, 11, 12, 13, 14, 76]), (21, [6]), (22, [1, 3, 5, 8, 9, 10, 11, 12, 13, 14, 81]), (23, [6]), (24, [1, 3, 5, 8, 9, 10, 11, 12, 13, 14, 15]), (25, [1, 3, 5, 8, 9, 11, 12, 13, 14, 15]), (26, [1, 3, 5, 8, 9, 12, 13, 14, 15]), (27, [1, 3, 5, 8, 9, 13, 14, 15]), (28, [1, 3, 5, 8, 9, 13, 103]), (29, [6]), (30, [1, 3, 5, 8, 9, 13, 16]), (31, [1, 3, 5, 8, 9, 13, 16]), (32, [1, 3, 5, 8, 9, 13, 16, 17]), (33, [1, 3, 5, 8, 9, 13, 16, 17]), (34, [1, 3, 5, 8, 9, 13, 16, 17, 111]), (35, [6]), (36, [1, 3, 5, 8, 9, 13, 16, 114]), (37, [6]), (38, [8, 9, 13, 16, 18, 19]), (39, [13, 16, 133]), (40, [6]), (41, [13, 16, 17]), (42, [16, 17]), (43, [16, 17, 138]), (44, [6]), (45, [141]), (46, [6]), (47, [6])]
attribute [go_sem] kp4
theorem fnExactTurnedChain_fc (aSig : List Int) (aEqs : List EqT) (aC : ChainT) (haSig : RngSig aSig) (haEqs : RngEqS aEqs) (haC : RngChain aC) : FC S 4 [] [] [] [SigD aSig, .sl .any (aEqs.map EqD), ChainD aC] (.bool true) [] [] := by
  have cS := specTurnedChain_fc aSig aEqs aC
  have cI := fun (g : List Nat) (hg : g ≠ []) => implTurnedChain_fc g hg aSig aEqs aC
  have cM := turnR_mc aSig aEqs aC
  generalize turnR aSig aEqs aC = rR at cS cI cM
  refine fc_bodyT Try.func4 rfl (by kernel_rfl) (by simp [Try.f4]) rfl fun B hB => ?_
  simp only [Try.ntmps4, enumD, List.map_nil, List.map_cons, List.length_map, Nat.zero_add, Nat.reduceAdd]
  refine sw_bnd_agg 0 0 rfl rfl fun hb0_0 => ?_
  simp only [D.bnd, List.length_map] at hb0_0
  refine sw_bnd 1 rfl fun hb1 => ?_
  simp only [D.bnd, List.length_map] at hb1
  refine sw_bnd_agg 2 0 rfl rfl fun hb2_0 => ?_
  simp only [D.bnd, List.length_map] at hb2_0
  refine sw_bnd_agg 2 1 rfl rfl fun hb2_1 => ?_
  simp only [D.bnd, List.length_map] at hb2_1
  repeat' first
    | (refine sw_rebaseAt 12 hB rfl fun B1 N hN => ?_; simp only [go_sem, LS.rebase, mapA, kdc])
    | (refine sw_markA1 hN (i := N + 1) (by omega) markSig_mk rfl rfl (ta_Sig (N + 1) _ aSig) rfl rfl rfl rfl (by omega) (by (have : cntSig aSig ≤ 1048576 := (by first|(simp only [cntInt64S]; omega)|grind [szd]); have := mcle_Sig aSig; have : cntEqS aEqs ≤ 1048576 := (by first|(simp only [cntInt64S]; omega)|grind [szd]); have := mcle_EqS aEqs; have : cntChain aC ≤ 1048576 := (by first|(simp only [cntInt64S]; omega)|grind [szd]); have := mcle_Chain aC; omega)) (by simp) ⟨rfl, rfl, rfl⟩ (by simp) (by (simp only [eraseK, KeepE, KeepX, KeepL, Nat.reduceEqDiff, ↓reduceIte, and_true]; (repeat' first | exact trivial | exact keep_int _ _ _ _ | exact keep_bool _ _ _ | exact keep_box _ _ _ _ | exact keep_KD _ _ _ | exact keep_LT (lt_Int64S _ _) (by omega) | exact keep_LT (lt_EqS _ _) (by omega) | exact keep_LT (lt_MoveS _ _) (by omega) | refine And.intro ?_ ?_); done)) (by (simp only [eraseK, KeepE, KeepX, KeepL, Nat.reduceEqDiff, ↓reduceIte, and_true]; (repeat' first | exact trivial | exact keep_int _ _ _ _ | exact keep_bool _ _ _ | exact keep_box _ _ _ _ | exact keep_KD _ _ _ | exact keep_LT (lt_Int64S _ _) (by omega) | exact keep_LT (lt_EqS _ _) (by omega) | exact keep_LT (lt_MoveS _ _) (by omega) | refine And.intro ?_ ?_); done)) (by (simp only [eraseK, KeepE, KeepX, KeepL, Nat.reduceEqDiff, ↓reduceIte, and_true]; (repeat' first | exact trivial | exact keep_int _ _ _ _ | exact keep_bool _ _ _ | exact keep_box _ _ _ _ | exact keep_KD _ _ _ | exact keep_LT (lt_Int64S _ _) (by omega) | exact keep_LT (lt_EqS _ _) (by omega) | exact keep_LT (lt_MoveS _ _) (by omega) | refine And.intro ?_ ?_); done)) ?_; simp only [go_sem])
    | (refine sw_markS1 hN (i := N + 2) (by omega) markEqS_mk rfl (lt_EqS [N + 2] aEqs) rfl (by omega) (by (have : cntSig aSig ≤ 1048576 := (by first|(simp only [cntInt64S]; omega)|grind [szd]); have := mcle_Sig aSig; have : cntEqS aEqs ≤ 1048576 := (by first|(simp only [cntInt64S]; omega)|grind [szd]); have := mcle_EqS aEqs; have : cntChain aC ≤ 1048576 := (by first|(simp only [cntInt64S]; omega)|grind [szd]); have := mcle_Chain aC; omega)) (by simp) ⟨rfl, rfl, rfl⟩ (by simp) (by (simp only [eraseK, KeepE, KeepX, KeepL, Nat.reduceEqDiff, ↓reduceIte, and_true]; (repeat' first | exact trivial | exact keep_int _ _ _ _ | exact keep_bool _ _ _ | exact keep_box _ _ _ _ | exact keep_KD _ _ _ | exact keep_LT (lt_Int64S _ _) (by omega) | exact keep_LT (lt_EqS _ _) (by omega) | exact keep_LT (lt_MoveS _ _) (by omega) | refine And.intro ?_ ?_); done)) (by (simp only [eraseK, KeepE, KeepX, KeepL, Nat.reduceEqDiff, ↓reduceIte, and_true]; (repeat' first | exact trivial | exact keep_int _ _ _ _ | exact keep_bool _ _ _ | exact keep_box _ _ _ _ | exact keep_KD _ _ _ | exact keep_LT (lt_Int64S _ _) (by omega) | exact keep_LT (lt_EqS _ _) (by omega) | exact keep_LT (lt_MoveS _ _) (by omega) | refine And.intro ?_ ?_); done)) (by (simp only [eraseK, KeepE, KeepX, KeepL, Nat.reduceEqDiff, ↓reduceIte, and_true]; (repeat' first | exact trivial | exact keep_int _ _ _ _ | exact keep_bool _ _ _ | exact keep_box _ _ _ _ | exact keep_KD _ _ _ | exact keep_LT (lt_Int64S _ _) (by omega) | exact keep_LT (lt_EqS _ _) (by omega) | exact keep_LT (lt_MoveS _ _) (by omega) | refine And.intro ?_ ?_); done)) ?_; simp only [go_sem])
    | (refine sw_markA1 hN (i := N + 3) (by omega) markChain_mk rfl rfl (ta_Chain (N + 3) _ aC) rfl rfl rfl rfl (by omega) (by (have : cntSig aSig ≤ 1048576 := (by first|(simp only [cntInt64S]; omega)|grind [szd]); have := mcle_Sig aSig; have : cntEqS aEqs ≤ 1048576 := (by first|(simp only [cntInt64S]; omega)|grind [szd]); have := mcle_EqS aEqs; have : cntChain aC ≤ 1048576 := (by first|(simp only [cntInt64S]; omega)|grind [szd]); have := mcle_Chain aC; omega)) (by simp) ⟨rfl, rfl, rfl⟩ (by simp) (by (simp only [eraseK, KeepE, KeepX, KeepL, Nat.reduceEqDiff, ↓reduceIte, and_true]; (repeat' first | exact trivial | exact keep_int _ _ _ _ | exact keep_bool _ _ _ | exact keep_box _ _ _ _ | exact keep_KD _ _ _ | exact keep_LT (lt_Int64S _ _) (by omega) | exact keep_LT (lt_EqS _ _) (by omega) | exact keep_LT (lt_MoveS _ _) (by omega) | refine And.intro ?_ ?_); done)) (by (simp only [eraseK, KeepE, KeepX, KeepL, Nat.reduceEqDiff, ↓reduceIte, and_true]; (repeat' first | exact trivial | exact keep_int _ _ _ _ | exact keep_bool _ _ _ | exact keep_box _ _ _ _ | exact keep_KD _ _ _ | exact keep_LT (lt_Int64S _ _) (by omega) | exact keep_LT (lt_EqS _ _) (by omega) | exact keep_LT (lt_MoveS _ _) (by omega) | refine And.intro ?_ ?_); done)) (by (simp only [eraseK, KeepE, KeepX, KeepL, Nat.reduceEqDiff, ↓reduceIte, and_true]; (repeat' first | exact trivial | exact keep_int _ _ _ _ | exact keep_bool _ _ _ | exact keep_box _ _ _ _ | exact keep_KD _ _ _ | exact keep_LT (lt_Int64S _ _) (by omega) | exact keep_LT (lt_EqS _ _) (by omega) | exact keep_LT (lt_MoveS _ _) (by omega) | refine And.intro ?_ ?_); done)) ?_; simp only [go_sem])
    | (refine sw_markA2 hN (i := N + 4) (by omega) markChain_mk rfl rfl (ta_Chain (N + 4) _ (rR)) rfl rfl rfl rfl (by omega) (by (have : cntSig aSig ≤ 1048576 := (by first|(simp only [cntInt64S]; omega)|grind [szd]); have := mcle_Sig aSig; have : cntEqS aEqs ≤ 1048576 := (by first|(simp only [cntInt64S]; omega)|grind [szd]); have := mcle_EqS aEqs; have : cntChain aC ≤ 1048576 := (by first|(simp only [cntInt64S]; omega)|grind [szd]); have := mcle_Chain aC; have := cM; omega)) (by simp) ⟨rfl, rfl, rfl⟩ (by simp) (by (simp only [eraseK, KeepE, KeepX, KeepL, Nat.reduceEqDiff, ↓reduceIte, and_true]; (repeat' first | exact trivial | exact keep_int _ _ _ _ | exact keep_bool _ _ _ | exact keep_box _ _ _ _ | exact keep_KD _ _ _ | exact keep_LT (lt_Int64S _ _) (by omega) | exact keep_LT (lt_EqS _ _) (by omega) | exact keep_LT (lt_MoveS _ _) (by omega) | refine And.intro ?_ ?_); done)) (by (simp only [eraseK, KeepE, KeepX, KeepL, Nat.reduceEqDiff, ↓reduceIte, and_true]; (repeat' first | exact trivial | exact keep_int _ _ _ _ | exact keep_bool _ _ _ | exact keep_box _ _ _ _ | exact keep_KD _ _ _ | exact keep_LT (lt_Int64S _ _) (by omega) | exact keep_LT (lt_EqS _ _) (by omega) | exact keep_LT (lt_MoveS _ _) (by omega) | refine And.intro ?_ ?_); done)) (by (simp only [eraseK, KeepE, KeepX, KeepL, Nat.reduceEqDiff, ↓reduceIte, and_true]; (repeat' first | exact trivial | exact keep_int _ _ _ _ | exact keep_bool _ _ _ | exact keep_box _ _ _ _ | exact keep_KD _ _ _ | exact keep_LT (lt_Int64S _ _) (by omega) | exact keep_LT (lt_EqS _ _) (by omega) | exact keep_LT (lt_MoveS _ _) (by omega) | refine And.intro ?_ ?_); done)) ?_; simp only [go_sem])
    | exact Bool.noConfusion h
    | refine sw_seq ?_
    | refine sw_block ?_
    | refine sw_skip ?_
    | refine sw_inBlock ?_
    | refine sw_go 0 kp4 fun K hK => ?_
    | refine sw_goX 0 kp4 13 (id := 11) (by kernel_rfl) fun K hK => ?_
    | refine sw_goX 0 kp4 13 (id := 38) (by kernel_rfl) fun K hK => ?_
    | (refine hK.alloc rfl rfl ⟨(by simp only [Nat.reduceLT]), rfl⟩ ?_; simp (disch := (refine Om.mk ?_; omega)) only [go_sem])
    | (refine hK.store rfl rfl rfl ⟨⟨(by simp only [go_sem]), (by simp only [go_sem])⟩, (by simp only [go_sem]), (by simp only [go_sem]), (by simp only [go_sem])⟩ ?_; simp (disch := (refine Om.mk ?_; omega)) only [go_sem])
    | (refine toF_go ?_; simp (disch := (refine Om.mk ?_; omega)) only [go_sem])
    | refine fun (K : List Oper → LS → Prop) (hK : KOk S 0 _ _ _ K) => ?_
    | refine sw_goD kp4 (by kernel_rfl) fun K hK => ?_
    | ((first | refine runL_go ?_ | refine runQ_go ?_); simp (disch := (refine Om.mk ?_; omega)) only [go_sem])
    | (refine hK.nil ?_; clear hK K; simp only [go_sem])
    | (refine runG_fork rfl rfl rfl rfl rfl (fun h => ?_) (fun h => ?_) <;> (try simp (disch := (refine Om.mk ?_; omega)) only [go_sem] at h))
    | (refine runQG_fork rfl rfl rfl rfl rfl (fun h => ?_) (fun h => ?_) <;> (try simp (disch := (refine Om.mk ?_; omega)) only [go_sem] at h))
    | (refine hK.skip rfl (by simp only [dstOk, Nat.reduceLT]) ?_)
    | (refine sw_cond rfl (fun h => ?_) (fun h => ?_) <;> (try simp (disch := (refine Om.mk ?_; omega)) only [go_sem] at h))
    | (refine sw_exit rfl ?_)
    | (refine sw_loopEnd ?_)
    | ((first | refine sw_ret (ret0 ?_) | refine sw_ret ?_); simp (disch := (refine Om.mk ?_; omega)) only [go_sem, Try.results4])
    | refine hK.call rfl rfl rfl (szSig_fc _ _ (by repeat' (first|apply szd_rng|(constructor <;> omega)))) ⟨(by intro p hp; cases hp), rfl, rfl, (by simp only [dstOk, Nat.reduceLT])⟩ ?_
    | refine hK.call rfl rfl rfl (szEqS_fc _ _ _ (by repeat' (first|apply szd_rng|(constructor <;> omega)))) ⟨(by intro p hp; cases hp), rfl, rfl, (by simp only [dstOk, Nat.reduceLT])⟩ ?_
    | refine hK.call rfl rfl rfl (szChain_fc _ _ (by repeat' (first|apply szd_rng|(constructor <;> omega)))) ⟨(by intro p hp; cases hp), rfl, rfl, (by simp only [dstOk, Nat.reduceLT])⟩ ?_
    | (refine hK.call rfl rfl rfl (FC.args (toSigL_fc [N + 1] (by simp) aSig (by first|(simp only [cntInt64S]; omega)|grind [szd])) ?le) ⟨(by intro p hp; cases hp), rfl, rfl, (by simp only [dstOk, Nat.reduceLT])⟩ ?_; case le => (simp only [go_sem]; (repeat' first | exact trivial | exact D.le.refl _ | exact KD_le rfl rfl | exact le_Int64SL _ _ | exact le_SigL _ _ | exact le_EqL _ _ | exact le_EqSL _ _ | exact le_MoveL _ _ | exact le_MoveSL _ _ | exact le_ChainL _ _ | exact D.le.any | refine And.intro ?_ ?_); done))
    | (refine hK.call rfl rfl rfl (FC.args (eqSig_fc aSig aSig) ?le) ⟨(by intro p hp; cases hp), rfl, rfl, (by simp only [dstOk, Nat.reduceLT])⟩ ?_; case le => (simp only [go_sem]; (repeat' first | exact trivial | exact D.le.refl _ | exact KD_le rfl rfl | exact le_Int64SL _ _ | exact le_SigL _ _ | exact le_EqL _ _ | exact le_EqSL _ _ | exact le_MoveL _ _ | exact le_MoveSL _ _ | exact le_ChainL _ _ | exact D.le.any | refine And.intro ?_ ?_); done))
    | (refine hK.call rfl rfl rfl (FC.args (toEqSL_fc [N + 2] (by simp) .any aEqs (by first|(simp only [cntInt64S]; omega)|grind [szd])) ?le) ⟨(by intro p hp; cases hp), rfl, rfl, (by simp only [dstOk, Nat.reduceLT])⟩ ?_; case le => (simp only [go_sem]; (repeat' first | exact trivial | exact D.le.refl _ | exact KD_le rfl rfl | exact le_Int64SL _ _ | exact le_SigL _ _ | exact le_EqL _ _ | exact le_EqSL _ _ | exact le_MoveL _ _ | exact le_MoveSL _ _ | exact le_ChainL _ _ | exact D.le.any | refine And.intro ?_ ?_); done))
    | (refine hK.call rfl rfl rfl (FC.args (eqEqS_fc .any .any aEqs aEqs) ?le) ⟨(by intro p hp; cases hp), rfl, rfl, (by simp only [dstOk, Nat.reduceLT])⟩ ?_; case le => (simp only [go_sem]; (repeat' first | exact trivial | exact D.le.refl _ | exact KD_le rfl rfl | exact le_Int64SL _ _ | exact le_SigL _ _ | exact le_EqL _ _ | exact le_EqSL _ _ | exact le_MoveL _ _ | exact le_MoveSL _ _ | exact le_ChainL _ _ | exact D.le.any | refine And.intro ?_ ?_); done))
    | (refine hK.call rfl rfl rfl (FC.args (toChainL_fc [N + 3] (by simp) aC (by first|(simp only [cntInt64S]; omega)|grind [szd])) ?le) ⟨(by intro p hp; cases hp), rfl, rfl, (by simp only [dstOk, Nat.reduceLT])⟩ ?_; case le => (simp only [go_sem]; (repeat' first | exact trivial | exact D.le.refl _ | exact KD_le rfl rfl | exact le_Int64SL _ _ | exact le_SigL _ _ | exact le_EqL _ _ | exact le_EqSL _ _ | exact le_MoveL _ _ | exact le_MoveSL _ _ | exact le_ChainL _ _ | exact D.le.any | refine And.intro ?_ ?_); done))
    | (refine hK.call rfl rfl rfl (FC.args (eqChain_fc aC aC) ?le) ⟨(by intro p hp; cases hp), rfl, rfl, (by simp only [dstOk, Nat.reduceLT])⟩ ?_; case le => (simp only [go_sem]; (repeat' first | exact trivial | exact D.le.refl _ | exact KD_le rfl rfl | exact le_Int64SL _ _ | exact le_SigL _ _ | exact le_EqL _ _ | exact le_EqSL _ _ | exact le_MoveL _ _ | exact le_MoveSL _ _ | exact le_ChainL _ _ | exact D.le.any | refine And.intro ?_ ?_); done))
    | refine hK.call rfl rfl rfl (heldA_fc heldChain_mk (hf_Chain 1 (rR)) (by omega) (by (have : cntSig aSig ≤ 1048576 := (by first|(simp only [cntInt64S]; omega)|grind [szd]); have := mcle_Sig aSig; have : cntEqS aEqs ≤ 1048576 := (by first|(simp only [cntInt64S]; omega)|grind [szd]); have := mcle_EqS aEqs; have : cntChain aC ≤ 1048576 := (by first|(simp only [cntInt64S]; omega)|grind [szd]); have := mcle_Chain aC; have := cM; omega))) ⟨(by intro p hp; cases hp), rfl, rfl, (by simp only [dstOk, Nat.reduceLT])⟩ ?_
    | (refine hK.call rfl rfl rfl (FC.args (eqChain_fc (rR) (rR)) ?le) ⟨(by intro p hp; cases hp), rfl, rfl, (by simp only [dstOk, Nat.reduceLT])⟩ ?_; case le => (simp only [go_sem]; (repeat' first | exact trivial | exact D.le.refl _ | exact KD_le rfl rfl | exact le_Int64SL _ _ | exact le_SigL _ _ | exact le_EqL _ _ | exact le_EqSL _ _ | exact le_MoveL _ _ | exact le_MoveSL _ _ | exact le_ChainL _ _ | exact D.le.any | refine And.intro ?_ ?_); done))
    | (refine hK.call rfl rfl rfl (FC.args (cI [N + 4] (by simp)) ?le) ⟨(by intro p hp; cases hp), rfl, rfl, (by simp only [dstOk, Nat.reduceLT])⟩ ?_; case le => (simp only [go_sem]; (repeat' first | exact trivial | exact D.le.refl _ | exact KD_le rfl rfl | exact le_Int64SL _ _ | exact le_SigL _ _ | exact le_EqL _ _ | exact le_EqSL _ _ | exact le_MoveL _ _ | exact le_MoveSL _ _ | exact le_ChainL _ _ | exact D.le.any | refine And.intro ?_ ?_); done))
    | refine hK.call rfl rfl rfl (toSig_fc _ (by first|(simp only [cntInt64S]; omega)|grind [szd])) ⟨(by intro p hp; cases hp), rfl, rfl, (by simp only [dstOk, Nat.reduceLT])⟩ ?_
    | refine hK.call rfl rfl rfl (toEqS_fc _ _ (by first|(simp only [cntInt64S]; omega)|grind [szd])) ⟨(by intro p hp; cases hp), rfl, rfl, (by simp only [dstOk, Nat.reduceLT])⟩ ?_
    | refine hK.call rfl rfl rfl (toChain_fc _ (by first|(simp only [cntInt64S]; omega)|grind [szd])) ⟨(by intro p hp; cases hp), rfl, rfl, (by simp only [dstOk, Nat.reduceLT])⟩ ?_
    | refine hK.call rfl rfl rfl (cS) ⟨(by intro p hp; cases hp), rfl, rfl, (by simp only [dstOk, Nat.reduceLT])⟩ ?_
    | (refine hK.fork rfl rfl rfl (fun h => ?_) (fun h => ?_) <;> (try simp (disch := (refine Om.mk ?_; omega)) only [go_sem] at h))
    | (with_reducible refine And.intro (by first | omega | (simp only [List.length_append, List.length_take, List.length_drop, List.length_cons, List.length_nil, List.length_map]; omega)) ?_)
    | ((with_reducible refine And.intro ?_ ?_); · first | (intro x hx; subst hx; rfl) | exact upR_mem fun _ _ => rfl | exact mapR_mem fun _ _ => rfl | (intro x; refine And.intro ?_ ?_ <;> (intros; subst_vars; rfl)))
    | fail
  all_goals first | omega | exact h trivial | exact absurd rfl h | exact absurd Iff.rfl h | (simp at h; done)
end
theorem own : ownKnob Try.prog.godebug = none := by kernel_rfl
theorem laidOut : laidOutB Try.prog = true := by kernel_rfl
theorem wc_Int64S {cs : List D} (h : WC S 22 cs) : ∃ xs : List Int, cs = [.sl .any (xs.map (.int .i64))] ∧ RngInt64S xs := wc_ints rfl rfl h
theorem wc_Sig {cs : List D} (h : WC S 24 cs) : ∃ x : List Int, cs = [.sl .any (x.map (.int .i64))] ∧ RngSig x := by
  obtain ⟨css, rfl, hl, hc⟩ := wc_st (fs := [(0, 22)]) rfl h
  match css, hl with
  | [c0], _ =>
    obtain ⟨x0, rfl, h0⟩ := wc_Int64S (hc 0 _ c0 rfl rfl)
    exact ⟨x0, rfl, h0⟩
theorem wc_Eq {cs : List D} (h : WC S 94 cs) : ∃ x : EqT, cs = [.sl .any (x.l.map (.int .i64)), .sl .any (x.r.map (.int .i64))] ∧ RngEq x := by
  obtain ⟨css, rfl, hl, hc⟩ := wc_st (fs := [(0, 22), (1, 22)]) rfl h
  match css, hl with
  | [c0, c1], _ =>
    obtain ⟨x0, rfl, h0⟩ := wc_Int64S (hc 0 _ c0 rfl rfl)
    obtain ⟨x1, rfl, h1⟩ := wc_Int64S (hc 1 _ c1 rfl rfl)
    exact ⟨⟨x0, x1⟩, rfl, ⟨h0, h1⟩⟩
theorem wc_EqS {cs : List D} (h : WC S 41 cs) : ∃ xs : List EqT, cs = [.sl .any (xs.map EqD)] ∧ RngEqS xs := by
  refine wc_list rfl tab94 h EqD RngEq fun ds _ hw => ?_
  obtain ⟨x, rfl, hx⟩ := wc_Eq hw
  exact ⟨x, rfl, hx⟩
theorem wc_Move {cs : List D} (h : WC S 132 cs) : ∃ x : MoveT, cs = [.int .i64 x.eq, .int .i64 x.at_, .bool x.back, .sl .any (x.to.map (.int .i64))] ∧ RngMove x := by
  obtain ⟨css, rfl, hl, hc⟩ := wc_st (fs := [(0, 2), (1, 2), (2, 4), (3, 22)]) rfl h
  match css, hl with
  | [c0, c1, c2, c3], _ =>
    obtain ⟨x0, rfl, h0⟩ := wc_int rfl (hc 0 _ c0 rfl rfl)
    obtain ⟨x1, rfl, h1⟩ := wc_int rfl (hc 1 _ c1 rfl rfl)
    obtain ⟨x2, rfl⟩ := wc_bool rfl (hc 2 _ c2 rfl rfl)
    obtain ⟨x3, rfl, h3⟩ := wc_Int64S (hc 3 _ c3 rfl rfl)
    exact ⟨⟨x0, x1, x2, x3⟩, rfl, ⟨in64_wf h0, in64_wf h1, trivial, h3⟩⟩
theorem wc_MoveS {cs : List D} (h : WC S 42 cs) : ∃ xs : List MoveT, cs = [.sl .any (xs.map MoveD)] ∧ RngMoveS xs := by
  refine wc_list rfl tab132 h MoveD RngMove fun ds _ hw => ?_
  obtain ⟨x, rfl, hx⟩ := wc_Move hw
  exact ⟨x, rfl, hx⟩
theorem wc_Chain {cs : List D} (h : WC S 44 cs) : ∃ x : ChainT, cs = [.sl .any (x.frm.map (.int .i64)), .sl .any (x.moves.map MoveD)] ∧ RngChain x := by
  obtain ⟨css, rfl, hl, hc⟩ := wc_st (fs := [(0, 22), (1, 42)]) rfl h
  match css, hl with
  | [c0, c1], _ =>
    obtain ⟨x0, rfl, h0⟩ := wc_Int64S (hc 0 _ c0 rfl rfl)
    obtain ⟨x1, rfl, h1⟩ := wc_MoveS (hc 1 _ c1 rfl rfl)
    exact ⟨⟨x0, x1⟩, rfl, ⟨h0, h1⟩⟩
set_option maxRecDepth 100000 in
theorem fnExactTurnedChain_lifted (os : Os) (started : os.Started) (H : Type) (enc : TypeId × Value → H) :
    ReturnsInHanded {} Try.checked os 4 .any (Rows.fnExactTurnedChainSpec.pre6 enc Try.prog Try.f4 Rows.fnExactTurnedChainRow.domain false) (Rows.fnExactTurnedChainSpec.post enc Try.prog Try.f4 false true false false) := by
  refine returnsInHanded_of_change (C := Try.checked) own started (by kernel_rfl) Try.func4
    (ChangeSpec.witness6 (enc := enc) (C := Try.checked) false ⟨#[], #[.agg #[.slice none 0 0], .slice none 0 0, .agg #[.slice none 0 0, .slice none 0 0]], []⟩ 12 (by kernel_rfl) (by kernel_rfl) (by kernel_rfl) (by kernel_rfl)) ?_
  intro W base args ds gs before hval hW _ _
  refine law_contract S (fn := Try.f4) (ts := [24, 41, 44]) (tb := 4) (m := 20) laidOut (by kernel_rfl) (of_decide_eq_true (by kernel_rfl)) (of_decide_eq_true (by kernel_rfl)) (by kernel_rfl) (by kernel_rfl) rfl (fun ds hd => ?_) (fun al hl h => ?_) hval hW
  · match ds, hd with
    | [_, _, _], _ => rfl
  · match al, hl with
    | [a0, a1, a2], _ =>
      obtain ⟨i0, c0, e0, _, w0, rfl⟩ := h 0 _ a0 rfl rfl
      cases tab24.symm.trans e0
      obtain ⟨i1, c1, e1, _, w1, rfl⟩ := h 1 _ a1 rfl rfl
      cases tab41.symm.trans e1
      obtain ⟨i2, c2, e2, _, w2, rfl⟩ := h 2 _ a2 rfl rfl
      cases tab44.symm.trans e2
      obtain ⟨x0, rfl, r0⟩ := wc_Sig w0
      obtain ⟨x1, rfl, r1⟩ := wc_EqS w1
      obtain ⟨x2, rfl, r2⟩ := wc_Chain w2
      exact fnExactTurnedChain_fc x0 x1 x2 r0 r1 r2
theorem and_t {a b : Bool} (ha : a = true) (hb : b = true) : (a && b) = true := by rw [ha, hb]; rfl
set_option maxRecDepth 100000 in
theorem jf_heard : Try.pinned.checked.prog.stopsHeard = true := by kernel_rfl
set_option maxRecDepth 100000 in
theorem jf_enter : Try.pinned.checked.prog.mayEnter = true := by kernel_rfl
set_option maxRecDepth 100000 in
theorem jf_lift : (Rows.fnExactTurnedChainRow.lifted == Try.pinned.checked.prog.liftsFinal) = true := by kernel_rfl
set_option maxRecDepth 100000 in
theorem jf_make : (Try.pinned.checked.prog.make == some Rows.fnExactTurnedChainRow.make) = true := by kernel_rfl
set_option maxRecDepth 100000 in
theorem jf_all : joinedFacts Try.pinned.checked.prog 4 Try.f4 Rows.fnExactTurnedChainSpec Rows.fnExactTurnedChainRow = true := by
  unfold joinedFacts
  exact and_t (and_t (and_t (and_t (and_t (and_t (and_t (and_t (by kernel_rfl) jf_heard) jf_enter) jf_lift) jf_make) (by kernel_rfl)) (by kernel_rfl)) (by kernel_rfl)) (by kernel_rfl)
set_option maxRecDepth 100000 in
theorem fnExactTurnedChain_holds : Rows.FnExactTurnedChainSaid :=
  OpenClaim.holds_of_wide 4 Try.f4 rfl rfl rfl rfl rfl rfl rfl ⟨rfl, rfl, rfl, rfl, rfl⟩ rfl rfl rfl rfl rfl (by kernel_rfl) Try.func4 jf_all
    (of_decide_eq_true (by kernel_rfl)) (by unfold Func.isWrapper; first | (rw [if_pos (by decide +kernel)]; kernel_rfl) | (rw [if_neg (by decide +kernel)]; exact ⟨rfl, rfl⟩))
    (fun os started H enc _ => fnExactTurnedChain_lifted os started H enc)
end Go.Proofs.Ytlcdahaihlflaaa
