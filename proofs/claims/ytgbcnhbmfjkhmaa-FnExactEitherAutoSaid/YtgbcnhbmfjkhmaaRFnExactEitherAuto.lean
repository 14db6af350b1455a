/-
  FnExactEitherAuto returns true, whatever its arguments: its contract, and its row (no condition).
-/
import Derived.Test.YtgbcnhbmfjkhmaaRows
import Derived.Test.YtgbcnhbmfjkhmaaHFnExactEitherAuto
import Derived.Test.YtgbcnhbmfjkhmaaA23y
import Derived.Test.YtgbcnhbmfjkhmaaLFnExactEitherAuto
import Derived.Test.YtgbcnhbmfjkhmaaLgK7
import Derived.Test.YtgbcnhbmfjkhmaaLgK6
namespace Go.Proofs.Ytgbcnhbmfjkhmaa
open Go Go.Lg Go.RowKit Go.ChangeShapes Go.WideShapes Go.ChangeAt
set_option linter.unusedVariables false
set_option linter.unusedSimpArgs false
set_option maxHeartbeats 4000000
set_option maxRecDepth 100000
def RngInt64 (x : Int) : Prop := In64 x
def RngInt64S (xs : List Int) : Prop := ∀ x ∈ xs, RngInt64 x
def RngSig (x : List Int) : Prop := RngInt64S x
def RngTrans (x : TransT) : Prop := RngInt64 x.sym ∧ RngInt64S x.args ∧ RngInt64 x.to
def RngTransS (xs : List TransT) : Prop := ∀ x ∈ xs, RngTrans x
def RngAuto (x : AutoT) : Prop := RngInt64 x.states ∧ RngTransS x.rules ∧ RngInt64S x.final
section
attribute [local irreducible] SW runL runQ runG runQG FC Ret1
def kp3 : List (Nat × List Nat) := [(0, [3, 4, 5]), (1, [3, 4, 5, 7]), (2, [3, 4, 5, 7]), (3, [3, 4, 5, 7, 24]), (4, [6]), (5, [3, 4, 5, 7]), (6, [3, 4, 5, 7, 29]), (7, [6]), (8, [3, 4, 5, 7]), (9, [3, 4, 5, 34]), (10, [6]), (11, [3, 4, 5, 8, 9]), (12, [3, 4, 5, 8, 9, 10]), (13, [3, 4, 5, 8, 9, 10, 11]), (14, [3, 4, 5, 8, 9, 10, 11, 12]), (15, [3, 4, 5, 8, 9, 10, 11, 12, 13, 14]), (16, [3, 4, 5, 8, 9, 10, 11, 12, 13, 14, 66]), (17, [6]), (18, [3, 4, 5, 8, 9, 10, 11, 12, 13, 14, 71]), (19, [6]), (20, [3, 4, 5, 8, 9, 10, 11, 12, 13, 14, 76]), (21, [6]), (22, [3, 4, 5, 8, 9, 10, 11, 12, 13, 14, 81]), (23, [6]), (24, [3, 4, 5, 8, 9, 10, 11, 12, 13, 14, 15]), (25, [3, 4, 5, 8, 9, 11, 12, 13, 14, 15]), (26, [3, 4, 5, 8, 9, 12, 13, 14, 15]), (27, [3, 4, 5, 8, 9, 13, 14, 15]), (28, [3, 4, 5, 8, 9, 13, 103]), (29, [6]), (30, [3, 4, 5, 8, 9, 13, 16]), (31, [3, 4, 5, 8, 9, 13, 16]), (32, [3, 4, 5, 8, 9, 13, 16, 17]), (33, [3, 4, 5, 8, 9, 13, 16, 17]), (34, [3, 4, 5, 8, 9, 13, 16, 17, 111]), (35, [6]), (36, [3, 4, 5, 8, 9, 13, 16, 114]), (37, [6]), (38, [8, 9, 13, 16, 18, 19]), (39, [13, 16, 133]), (40, [6]), (41, [13, 16, 17]), (42, [16, 17]), (43, [16, 17, 138]), (44, [6]), (45, [141]), (46, [6]), (47, [6])]
attribute [go_sem] kp3
theorem fnExactEitherAuto_fc (aSig : List Int) (aA : AutoT) (aB : AutoT) (haSig : RngSig aSig) (haA : RngAuto aA) (haB : RngAuto aB) : FC S 3 [] [] [] [SigD aSig, AutoD aA, AutoD aB] (.bool true) [] [] := by
  refine fc_bodyT Try.func3 rfl (by kernel_rfl) (by simp [Try.f3]) rfl fun B hB => ?_
  simp only [Try.ntmps3, enumD, List.map_nil, List.map_cons, List.length_map, Nat.zero_add, Nat.reduceAdd]
  refine sw_bnd_agg 0 0 rfl rfl fun hb0_0 => ?_
  simp only [D.bnd, List.length_map] at hb0_0
  refine sw_bnd_agg 1 1 rfl rfl fun hb1_1 => ?_
  simp only [D.bnd, List.length_map] at hb1_1
  refine sw_bnd_agg 1 2 rfl rfl fun hb1_2 => ?_
  simp only [D.bnd, List.length_map] at hb1_2
  refine sw_bnd_agg 2 1 rfl rfl fun hb2_1 => ?_
  simp only [D.bnd, List.length_map] at hb2_1
  refine sw_bnd_agg 2 2 rfl rfl fun hb2_2 => ?_
  simp only [D.bnd, List.length_map] at hb2_2
  repeat' first
    | (refine sw_rebaseAt 12 hB rfl fun B1 N hN => ?_; simp only [go_sem, Nat.reduceAdd, Nat.reduceMul, Nat.reduceLT, Nat.reduceLeDiff, Nat.reduceEqDiff, Nat.reduceBEq, Nat.reduceSub, ↓reduceIte, reduceCtorEq, LS.rebase, mapA, kdc])
    | (refine sw_markA1 hN (i := N + 1) (by omega) markSig_mk rfl rfl (ta_Sig (N + 1) _ aSig) rfl rfl rfl rfl (by omega) (by (have : cntSig aSig ≤ 1048576 := (by first|(simp only [cntInt64S]; omega)|grind [szd]); have := mcle_Sig aSig; have : cntAuto aA ≤ 1048576 := (by first|(simp only [cntInt64S]; omega)|grind [szd]); have := mcle_Auto aA; have : cntAuto aB ≤ 1048576 := (by first|(simp only [cntInt64S]; omega)|grind [szd]); have := mcle_Auto aB; omega)) (by simp) ⟨rfl, rfl, rfl⟩ (by simp) (by (simp only [eraseK, KeepE, KeepX, KeepL, Nat.reduceEqDiff, ↓reduceIte, and_true]; (repeat' first | exact trivial | exact keep_int _ _ _ _ | exact keep_bool _ _ _ | exact keep_box _ _ _ _ | exact keep_KD _ _ _ | exact keep_LT (lt_Int64S _ _) (by omega) | exact keep_LT (lt_TransS _ _) (by omega) | refine And.intro ?_ ?_); done)) (by (simp only [eraseK, KeepE, KeepX, KeepL, Nat.reduceEqDiff, ↓reduceIte, and_true]; (repeat' first | exact trivial | exact keep_int _ _ _ _ | exact keep_bool _ _ _ | exact keep_box _ _ _ _ | exact keep_KD _ _ _ | exact keep_LT (lt_Int64S _ _) (by omega) | exact keep_LT (lt_TransS _ _) (by omega) | refine And.intro ?_ ?_); done)) (by (simp only [eraseK, KeepE, KeepX, KeepL, Nat.reduceEqDiff, ↓reduceIte, and_true]; (repeat' first | exact trivial | exact keep_int _ _ _ _ | exact keep_bool _ _ _ | exact keep_box _ _ _ _ | exact keep_KD _ _ _ | exact keep_LT (lt_Int64S _ _) (by omega) | exact keep_LT (lt_TransS _ _) (by omega) | refine And.intro ?_ ?_); done)) ?_; simp only [go_sem, Nat.reduceAdd, Nat.reduceMul, Nat.reduceLT, Nat.reduceLeDiff, Nat.reduceEqDiff, Nat.reduceBEq, Nat.reduceSub, ↓reduceIte, reduceCtorEq])
    | (refine sw_markA1 hN (i := N + 2) (by omega) markAuto_mk rfl rfl (ta_Auto (N + 2) _ aA) rfl rfl rfl rfl (by omega) (by (have : cntSig aSig ≤ 1048576 := (by first|(simp only [cntInt64S]; omega)|grind [szd]); have := mcle_Sig aSig; have : cntAuto aA ≤ 1048576 := (by first|(simp only [cntInt64S]; omega)|grind [szd]); have := mcle_Auto aA; have : cntAuto aB ≤ 1048576 := (by first|(simp only [cntInt64S]; omega)|grind [szd]); have := mcle_Auto aB; omega)) (by simp) ⟨rfl, rfl, rfl⟩ (by simp) (by (simp only [eraseK, KeepE, KeepX, KeepL, Nat.reduceEqDiff, ↓reduceIte, and_true]; (repeat' first | exact trivial | exact keep_int _ _ _ _ | exact keep_bool _ _ _ | exact keep_box _ _ _ _ | exact keep_KD _ _ _ | exact keep_LT (lt_Int64S _ _) (by omega) | exact keep_LT (lt_TransS _ _) (by omega) | refine And.intro ?_ ?_); done)) (by (simp only [eraseK, KeepE, KeepX, KeepL, Nat.reduceEqDiff, ↓reduceIte, and_true]; (repeat' first | exact trivial | exact keep_int _ _ _ _ | exact keep_bool _ _ _ | exact keep_box _ _ _ _ | exact keep_KD _ _ _ | exact keep_LT (lt_Int64S _ _) (by omega) | exact keep_LT (lt_TransS _ _) (by omega) | refine And.intro ?_ ?_); done)) (by (simp only [eraseK, KeepE, KeepX, KeepL, Nat.reduceEqDiff, ↓reduceIte, and_true]; (repeat' first | exact trivial | exact keep_int _ _ _ _ | exact keep_bool _ _ _ | exact keep_box _ _ _ _ | exact keep_KD _ _ _ | exact keep_LT (lt_Int64S _ _) (by omega) | exact keep_LT (lt_TransS _ _) (by omega) | refine And.intro ?_ ?_); done)) ?_; simp only [go_sem, Nat.reduceAdd, Nat.reduceMul, Nat.reduceLT, Nat.reduceLeDiff, Nat.reduceEqDiff, Nat.reduceBEq, Nat.reduceSub, ↓reduceIte, reduceCtorEq])
    | (refine sw_markA1 hN (i := N + 3) (by omega) markAuto_mk rfl rfl (ta_Auto (N + 3) _ aB) rfl rfl rfl rfl (by omega) (by (have : cntSig aSig ≤ 1048576 := (by first|(simp only [cntInt64S]; omega)|grind [szd]); have := mcle_Sig aSig; have : cntAuto aA ≤ 1048576 := (by first|(simp only [cntInt64S]; omega)|grind [szd]); have := mcle_Auto aA; have : cntAuto aB ≤ 1048576 := (by first|(simp only [cntInt64S]; omega)|grind [szd]); have := mcle_Auto aB; omega)) (by simp) ⟨rfl, rfl, rfl⟩ (by simp) (by (simp only [eraseK, KeepE, KeepX, KeepL, Nat.reduceEqDiff, ↓reduceIte, and_true]; (repeat' first | exact trivial | exact keep_int _ _ _ _ | exact keep_bool _ _ _ | exact keep_box _ _ _ _ | exact keep_KD _ _ _ | exact keep_LT (lt_Int64S _ _) (by omega) | exact keep_LT (lt_TransS _ _) (by omega) | refine And.intro ?_ ?_); done)) (by (simp only [eraseK, KeepE, KeepX, KeepL, Nat.reduceEqDiff, ↓reduceIte, and_true]; (repeat' first | exact trivial | exact keep_int _ _ _ _ | exact keep_bool _ _ _ | exact keep_box _ _ _ _ | exact keep_KD _ _ _ | exact keep_LT (lt_Int64S _ _) (by omega) | exact keep_LT (lt_TransS _ _) (by omega) | refine And.intro ?_ ?_); done)) (by (simp only [eraseK, KeepE, KeepX, KeepL, Nat.reduceEqDiff, ↓reduceIte, and_true]; (repeat' first | exact trivial | exact keep_int _ _ _ _ | exact keep_bool _ _ _ | exact keep_box _ _ _ _ | exact keep_KD _ _ _ | exact keep_LT (lt_Int64S _ _) (by omega) | exact keep_LT (lt_TransS _ _) (by omega) | refine And.intro ?_ ?_); done)) ?_; simp only [go_sem, Nat.reduceAdd, Nat.reduceMul, Nat.reduceLT, Nat.reduceLeDiff, Nat.reduceEqDiff, Nat.reduceBEq, Nat.reduceSub, ↓reduceIte, reduceCtorEq])
    | (refine sw_markA2 hN (i := N + 4) (by omega) markAuto_mk rfl rfl (ta_Auto (N + 4) _ (eitherR aSig aA aB)) rfl rfl rfl rfl (by omega) (by (have : cntSig aSig ≤ 1048576 := (by first|(simp only [cntInt64S]; omega)|grind [szd]); have := mcle_Sig aSig; have : cntAuto aA ≤ 1048576 := (by first|(simp only [cntInt64S]; omega)|grind [szd]); have := mcle_Auto aA; have : cntAuto aB ≤ 1048576 := (by first|(simp only [cntInt64S]; omega)|grind [szd]); have := mcle_Auto aB; have := eitherR_mc aSig aA aB; omega)) (by simp) ⟨rfl, rfl, rfl⟩ (by simp) (by (simp only [eraseK, KeepE, KeepX, KeepL, Nat.reduceEqDiff, ↓reduceIte, and_true]; (repeat' first | exact trivial | exact keep_int _ _ _ _ | exact keep_bool _ _ _ | exact keep_box _ _ _ _ | exact keep_KD _ _ _ | exact keep_LT (lt_Int64S _ _) (by omega) | exact keep_LT (lt_TransS _ _) (by omega) | refine And.intro ?_ ?_); done)) (by (simp only [eraseK, KeepE, KeepX, KeepL, Nat.reduceEqDiff, ↓reduceIte, and_true]; (repeat' first | exact trivial | exact keep_int _ _ _ _ | exact keep_bool _ _ _ | exact keep_box _ _ _ _ | exact keep_KD _ _ _ | exact keep_LT (lt_Int64S _ _) (by omega) | exact keep_LT (lt_TransS _ _) (by omega) | refine And.intro ?_ ?_); done)) (by (simp only [eraseK, KeepE, KeepX, KeepL, Nat.reduceEqDiff, ↓reduceIte, and_true]; (repeat' first | exact trivial | exact keep_int _ _ _ _ | exact keep_bool _ _ _ | exact keep_box _ _ _ _ | exact keep_KD _ _ _ | exact keep_LT (lt_Int64S _ _) (by omega) | exact keep_LT (lt_TransS _ _) (by omega) | refine And.intro ?_ ?_); done)) ?_; simp only [go_sem, Nat.reduceAdd, Nat.reduceMul, Nat.reduceLT, Nat.reduceLeDiff, Nat.reduceEqDiff, Nat.reduceBEq, Nat.reduceSub, ↓reduceIte, reduceCtorEq])
    | exact Bool.noConfusion h
    | refine sw_seq ?_
    | refine sw_block ?_
    | refine sw_skip ?_
    | refine sw_inBlock ?_
    | refine sw_go 0 kp3 fun K hK => ?_
    | refine sw_goX 0 kp3 13 (id := 11) (by kernel_rfl) fun K hK => ?_
    | refine sw_goX 0 kp3 13 (id := 38) (by kernel_rfl) fun K hK => ?_
    | (refine hK.alloc rfl rfl ⟨(by simp only [Nat.reduceLT]), rfl⟩ ?_; simp (disch := (refine Om.mk ?_; omega)) only [go_sem, Nat.reduceAdd, Nat.reduceMul, Nat.reduceLT, Nat.reduceLeDiff, Nat.reduceEqDiff, Nat.reduceBEq, Nat.reduceSub, ↓reduceIte, reduceCtorEq])
    | (refine hK.store rfl rfl rfl ⟨⟨(by simp only [go_sem, Nat.reduceAdd, Nat.reduceMul, Nat.reduceLT, Nat.reduceLeDiff, Nat.reduceEqDiff, Nat.reduceBEq, Nat.reduceSub, ↓reduceIte, reduceCtorEq]), (by simp only [go_sem, Nat.reduceAdd, Nat.reduceMul, Nat.reduceLT, Nat.reduceLeDiff, Nat.reduceEqDiff, Nat.reduceBEq, Nat.reduceSub, ↓reduceIte, reduceCtorEq])⟩, (by simp only [go_sem, Nat.reduceAdd, Nat.reduceMul, Nat.reduceLT, Nat.reduceLeDiff, Nat.reduceEqDiff, Nat.reduceBEq, Nat.reduceSub, ↓reduceIte, reduceCtorEq]), (by simp only [go_sem, Nat.reduceAdd, Nat.reduceMul, Nat.reduceLT, Nat.reduceLeDiff, Nat.reduceEqDiff, Nat.reduceBEq, Nat.reduceSub, ↓reduceIte, reduceCtorEq]), (by simp only [go_sem, Nat.reduceAdd, Nat.reduceMul, Nat.reduceLT, Nat.reduceLeDiff, Nat.reduceEqDiff, Nat.reduceBEq, Nat.reduceSub, ↓reduceIte, reduceCtorEq])⟩ ?_; simp (disch := (refine Om.mk ?_; omega)) only [go_sem, Nat.reduceAdd, Nat.reduceMul, Nat.reduceLT, Nat.reduceLeDiff, Nat.reduceEqDiff, Nat.reduceBEq, Nat.reduceSub, ↓reduceIte, reduceCtorEq])
    | (refine toF_go ?_; simp (disch := (refine Om.mk ?_; omega)) only [go_sem, Nat.reduceAdd, Nat.reduceMul, Nat.reduceLT, Nat.reduceLeDiff, Nat.reduceEqDiff, Nat.reduceBEq, Nat.reduceSub, ↓reduceIte, reduceCtorEq])
    | refine fun (K : List Oper → LS → Prop) (hK : KOk S 0 _ _ _ K) => ?_
    | refine sw_goD kp3 (by kernel_rfl) fun K hK => ?_
    | ((first | refine runL_go ?_ | refine runQ_go ?_); simp (disch := (refine Om.mk ?_; omega)) only [go_sem, Nat.reduceAdd, Nat.reduceMul, Nat.reduceLT, Nat.reduceLeDiff, Nat.reduceEqDiff, Nat.reduceBEq, Nat.reduceSub, ↓reduceIte, reduceCtorEq])
    | (refine hK.nil ?_; clear hK K; simp only [go_sem, Nat.reduceAdd, Nat.reduceMul, Nat.reduceLT, Nat.reduceLeDiff, Nat.reduceEqDiff, Nat.reduceBEq, Nat.reduceSub, ↓reduceIte, reduceCtorEq])
    | (refine runG_fork rfl rfl rfl rfl rfl (fun h => ?_) (fun h => ?_) <;> (try simp (disch := (refine Om.mk ?_; omega)) only [go_sem, Nat.reduceAdd, Nat.reduceMul, Nat.reduceLT, Nat.reduceLeDiff, Nat.reduceEqDiff, Nat.reduceBEq, Nat.reduceSub, ↓reduceIte, reduceCtorEq] at h))
    | (refine runQG_fork rfl rfl rfl rfl rfl (fun h => ?_) (fun h => ?_) <;> (try simp (disch := (refine Om.mk ?_; omega)) only [go_sem, Nat.reduceAdd, Nat.reduceMul, Nat.reduceLT, Nat.reduceLeDiff, Nat.reduceEqDiff, Nat.reduceBEq, Nat.reduceSub, ↓reduceIte, reduceCtorEq] at h))
    | (refine hK.skip rfl (by simp only [dstOk, Nat.reduceLT]) ?_)
    | (refine sw_cond rfl (fun h => ?_) (fun h => ?_) <;> (try simp (disch := (refine Om.mk ?_; omega)) only [go_sem, Nat.reduceAdd, Nat.reduceMul, Nat.reduceLT, Nat.reduceLeDiff, Nat.reduceEqDiff, Nat.reduceBEq, Nat.reduceSub, ↓reduceIte, reduceCtorEq] at h))
    | (refine sw_exit rfl ?_)
    | (refine sw_loopEnd ?_)
    | ((first | refine sw_ret (ret0 ?_) | refine sw_ret ?_); simp (disch := (refine Om.mk ?_; omega)) only [go_sem, Nat.reduceAdd, Nat.reduceMul, Nat.reduceLT, Nat.reduceLeDiff, Nat.reduceEqDiff, Nat.reduceBEq, Nat.reduceSub, ↓reduceIte, reduceCtorEq, Try.results3])
    | refine hK.call rfl rfl rfl (szSig_fc _ _ (by repeat' (first|apply szd_rng|(constructor <;> omega)))) ⟨(by intro p hp; cases hp), rfl, rfl, (by simp only [dstOk, Nat.reduceLT])⟩ ?_
    | refine hK.call rfl rfl rfl (szAuto_fc _ _ (by repeat' (first|apply szd_rng|(constructor <;> omega)))) ⟨(by intro p hp; cases hp), rfl, rfl, (by simp only [dstOk, Nat.reduceLT])⟩ ?_
    | (refine hK.call rfl rfl rfl (FC.args (toSigL_fc [N + 1] (by simp) aSig (by first|(simp only [cntInt64S]; omega)|grind [szd])) ?le) ⟨(by intro p hp; cases hp), rfl, rfl, (by simp only [dstOk, Nat.reduceLT])⟩ ?_; case le => (simp only [go_sem, Nat.reduceAdd, Nat.reduceMul, Nat.reduceLT, Nat.reduceLeDiff, Nat.reduceEqDiff, Nat.reduceBEq, Nat.reduceSub, ↓reduceIte, reduceCtorEq]; (repeat' first | exact trivial | exact D.le.refl _ | exact KD_le rfl rfl | exact le_Int64SL _ _ | exact le_SigL _ _ | exact le_TransL _ _ | exact le_TransSL _ _ | exact le_AutoL _ _ | exact D.le.any | refine And.intro ?_ ?_); done))
    | (refine hK.call rfl rfl rfl (FC.args (eqSig_fc aSig aSig) ?le) ⟨(by intro p hp; cases hp), rfl, rfl, (by simp only [dstOk, Nat.reduceLT])⟩ ?_; case le => (simp only [go_sem, Nat.reduceAdd, Nat.reduceMul, Nat.reduceLT, Nat.reduceLeDiff, Nat.reduceEqDiff, Nat.reduceBEq, Nat.reduceSub, ↓reduceIte, reduceCtorEq]; (repeat' first | exact trivial | exact D.le.refl _ | exact KD_le rfl rfl | exact le_Int64SL _ _ | exact le_SigL _ _ | exact le_TransL _ _ | exact le_TransSL _ _ | exact le_AutoL _ _ | exact D.le.any | refine And.intro ?_ ?_); done))
    | (refine hK.call rfl rfl rfl (FC.args (toAutoL_fc [N + 2] (by simp) aA (by first|(simp only [cntInt64S]; omega)|grind [szd])) ?le) ⟨(by intro p hp; cases hp), rfl, rfl, (by simp only [dstOk, Nat.reduceLT])⟩ ?_; case le => (simp only [go_sem, Nat.reduceAdd, Nat.reduceMul, Nat.reduceLT, Nat.reduceLeDiff, Nat.reduceEqDiff, Nat.reduceBEq, Nat.reduceSub, ↓reduceIte, reduceCtorEq]; (repeat' first | exact trivial | exact D.le.refl _ | exact KD_le rfl rfl | exact le_Int64SL _ _ | exact le_SigL _ _ | exact le_TransL _ _ | exact le_TransSL _ _ | exact le_AutoL _ _ | exact D.le.any | refine And.intro ?_ ?_); done))
    | (refine hK.call rfl rfl rfl (FC.args (eqAuto_fc aA aA) ?le) ⟨(by intro p hp; cases hp), rfl, rfl, (by simp only [dstOk, Nat.reduceLT])⟩ ?_; case le => (simp only [go_sem, Nat.reduceAdd, Nat.reduceMul, Nat.reduceLT, Nat.reduceLeDiff, Nat.reduceEqDiff, Nat.reduceBEq, Nat.reduceSub, ↓reduceIte, reduceCtorEq]; (repeat' first | exact trivial | exact D.le.refl _ | exact KD_le rfl rfl | exact le_Int64SL _ _ | exact le_SigL _ _ | exact le_TransL _ _ | exact le_TransSL _ _ | exact le_AutoL _ _ | exact D.le.any | refine And.intro ?_ ?_); done))
    | (refine hK.call rfl rfl rfl (FC.args (toAutoL_fc [N + 3] (by simp) aB (by first|(simp only [cntInt64S]; omega)|grind [szd])) ?le) ⟨(by intro p hp; cases hp), rfl, rfl, (by simp only [dstOk, Nat.reduceLT])⟩ ?_; case le => (simp only [go_sem, Nat.reduceAdd, Nat.reduceMul, Nat.reduceLT, Nat.reduceLeDiff, Nat.reduceEqDiff, Nat.reduceBEq, Nat.reduceSub, ↓reduceIte, reduceCtorEq]; (repeat' first | exact trivial | exact D.le.refl _ | exact KD_le rfl rfl | exact le_Int64SL _ _ | exact le_SigL _ _ | exact le_TransL _ _ | exact le_TransSL _ _ | exact le_AutoL _ _ | exact D.le.any | refine And.intro ?_ ?_); done))
    | (refine hK.call rfl rfl rfl (FC.args (eqAuto_fc aB aB) ?le) ⟨(by intro p hp; cases hp), rfl, rfl, (by simp only [dstOk, Nat.reduceLT])⟩ ?_; case le => (simp only [go_sem, Nat.reduceAdd, Nat.reduceMul, Nat.reduceLT, Nat.reduceLeDiff, Nat.reduceEqDiff, Nat.reduceBEq, Nat.reduceSub, ↓reduceIte, reduceCtorEq]; (repeat' first | exact trivial | exact D.le.refl _ | exact KD_le rfl rfl | exact le_Int64SL _ _ | exact le_SigL _ _ | exact le_TransL _ _ | exact le_TransSL _ _ | exact le_AutoL _ _ | exact D.le.any | refine And.intro ?_ ?_); done))
    | refine hK.call rfl rfl rfl (heldA_fc heldAuto_mk (hf_Auto 1 (eitherR aSig aA aB)) (by omega) (by (have : cntSig aSig ≤ 1048576 := (by first|(simp only [cntInt64S]; omega)|grind [szd]); have := mcle_Sig aSig; have : cntAuto aA ≤ 1048576 := (by first|(simp only [cntInt64S]; omega)|grind [szd]); have := mcle_Auto aA; have : cntAuto aB ≤ 1048576 := (by first|(simp only [cntInt64S]; omega)|grind [szd]); have := mcle_Auto aB; have := eitherR_mc aSig aA aB; omega))) ⟨(by intro p hp; cases hp), rfl, rfl, (by simp only [dstOk, Nat.reduceLT])⟩ ?_
    | (refine hK.call rfl rfl rfl (FC.args (eqAuto_fc (eitherR aSig aA aB) (eitherR aSig aA aB)) ?le) ⟨(by intro p hp; cases hp), rfl, rfl, (by simp only [dstOk, Nat.reduceLT])⟩ ?_; case le => (simp only [go_sem, Nat.reduceAdd, Nat.reduceMul, Nat.reduceLT, Nat.reduceLeDiff, Nat.reduceEqDiff, Nat.reduceBEq, Nat.reduceSub, ↓reduceIte, reduceCtorEq]; (repeat' first | exact trivial | exact D.le.refl _ | exact KD_le rfl rfl | exact le_Int64SL _ _ | exact le_SigL _ _ | exact le_TransL _ _ | exact le_TransSL _ _ | exact le_AutoL _ _ | exact D.le.any | refine And.intro ?_ ?_); done))
    | (refine hK.call rfl rfl rfl (FC.args (implEitherAuto_fc [N + 4] (by simp) .any aSig aA aB) ?le) ⟨(by intro p hp; cases hp), rfl, rfl, (by simp only [dstOk, Nat.reduceLT])⟩ ?_; case le => (simp only [go_sem, Nat.reduceAdd, Nat.reduceMul, Nat.reduceLT, Nat.reduceLeDiff, Nat.reduceEqDiff, Nat.reduceBEq, Nat.reduceSub, ↓reduceIte, reduceCtorEq]; (repeat' first | exact trivial | exact D.le.refl _ | exact KD_le rfl rfl | exact le_Int64SL _ _ | exact le_SigL _ _ | exact le_TransL _ _ | exact le_TransSL _ _ | exact le_AutoL _ _ | exact D.le.any | refine And.intro ?_ ?_); done))
    | refine hK.call rfl rfl rfl (toSig_fc _ (by first|(simp only [cntInt64S]; omega)|grind [szd])) ⟨(by intro p hp; cases hp), rfl, rfl, (by simp only [dstOk, Nat.reduceLT])⟩ ?_
    | refine hK.call rfl rfl rfl (toAuto_fc _ (by first|(simp only [cntInt64S]; omega)|grind [szd])) ⟨(by intro p hp; cases hp), rfl, rfl, (by simp only [dstOk, Nat.reduceLT])⟩ ?_
    | refine hK.call rfl rfl rfl (specEitherAuto_fc .any aSig aA aB) ⟨(by intro p hp; cases hp), rfl, rfl, (by simp only [dstOk, Nat.reduceLT])⟩ ?_
    | (refine hK.fork rfl rfl rfl (fun h => ?_) (fun h => ?_) <;> (try simp (disch := (refine Om.mk ?_; omega)) only [go_sem, Nat.reduceAdd, Nat.reduceMul, Nat.reduceLT, Nat.reduceLeDiff, Nat.reduceEqDiff, Nat.reduceBEq, Nat.reduceSub, ↓reduceIte, reduceCtorEq] at h))
    | (with_reducible refine And.intro (by first | omega | (simp only [List.length_append, List.length_take, List.length_drop, List.length_cons, List.length_nil]; omega)) ?_)
    | ((with_reducible refine And.intro ?_ ?_); · first | (intro x hx; subst hx; rfl) | exact upR_mem fun _ _ => rfl | exact mapR_mem fun _ _ => rfl | (intro x; refine And.intro ?_ ?_ <;> (intros; subst_vars; rfl)))
    | fail
  all_goals first | omega | exact h trivial | exact absurd rfl h | exact absurd Iff.rfl h | (simp at h; done)
end
theorem own : ownKnob Try.prog.godebug = none := by kernel_rfl
theorem laidOut : laidOutB Try.prog = true := by kernel_rfl
theorem wc_Int64S {cs : List D} (h : WC S 22 cs) : ∃ xs : List Int, cs = [.sl .any (xs.map (.int .i64))] ∧ RngInt64S xs := wc_ints rfl rfl h
theorem wc_Sig {cs : List D} (h : WC S 24 cs) : ∃ x : List Int, cs = [.sl .any (x.map (.int .i64))] ∧ RngSig x := by
  obtain ⟨css, rfl, hl, hc⟩ := wc_st (fs := [(0, 22)]) rfl h
  match css, hl with
  | [c0], _ =>
    obtain ⟨x0, rfl, h0⟩ := wc_Int64S (hc 0 _ c0 rfl rfl)
    exact ⟨x0, rfl, h0⟩
theorem wc_Trans {cs : List D} (h : WC S 203 cs) : ∃ x : TransT, cs = [.int .i64 x.sym, .sl .any (x.args.map (.int .i64)), .int .i64 x.to] ∧ RngTrans x := by
  obtain ⟨css, rfl, hl, hc⟩ := wc_st (fs := [(0, 2), (1, 22), (2, 2)]) rfl h
  match css, hl with
  | [c0, c1, c2], _ =>
    obtain ⟨x0, rfl, h0⟩ := wc_int rfl (hc 0 _ c0 rfl rfl)
    obtain ⟨x1, rfl, h1⟩ := wc_Int64S (hc 1 _ c1 rfl rfl)
    obtain ⟨x2, rfl, h2⟩ := wc_int rfl (hc 2 _ c2 rfl rfl)
    exact ⟨⟨x0, x1, x2⟩, rfl, ⟨in64_wf h0, h1, in64_wf h2⟩⟩
theorem wc_TransS {cs : List D} (h : WC S 25 cs) : ∃ xs : List TransT, cs = [.sl .any (xs.map TransD)] ∧ RngTransS xs := by
  refine wc_list rfl tab203 h TransD RngTrans fun ds _ hw => ?_
  obtain ⟨x, rfl, hx⟩ := wc_Trans hw
  exact ⟨x, rfl, hx⟩
theorem wc_Auto {cs : List D} (h : WC S 27 cs) : ∃ x : AutoT, cs = [.int .i64 x.states, .sl .any (x.rules.map TransD), .sl .any (x.final.map (.int .i64))] ∧ RngAuto x := by
  obtain ⟨css, rfl, hl, hc⟩ := wc_st (fs := [(0, 2), (1, 25), (2, 22)]) rfl h
  match css, hl with
  | [c0, c1, c2], _ =>
    obtain ⟨x0, rfl, h0⟩ := wc_int rfl (hc 0 _ c0 rfl rfl)
    obtain ⟨x1, rfl, h1⟩ := wc_TransS (hc 1 _ c1 rfl rfl)
    obtain ⟨x2, rfl, h2⟩ := wc_Int64S (hc 2 _ c2 rfl rfl)
    exact ⟨⟨x0, x1, x2⟩, rfl, ⟨in64_wf h0, h1, h2⟩⟩
set_option maxRecDepth 100000 in
theorem fnExactEitherAuto_lifted (os : Os) (started : os.Started) (H : Type) (enc : TypeId × Value → H) :
    ReturnsInHanded {} Try.checked os 3 .any (Rows.fnExactEitherAutoSpec.pre6 enc Try.prog Try.f3 Rows.fnExactEitherAutoRow.domain false) (Rows.fnExactEitherAutoSpec.post enc Try.prog Try.f3 false true false false) := by
  refine returnsInHanded_of_change (C := Try.checked) own started (by kernel_rfl) Try.func3
    (ChangeSpec.witness6 (enc := enc) (C := Try.checked) false ⟨#[], #[.agg #[.slice none 0 0], .agg #[.int .i64 0, .slice none 0 0, .slice none 0 0], .agg #[.int .i64 0, .slice none 0 0, .slice none 0 0]], []⟩ 12 (by kernel_rfl) (by kernel_rfl) (by kernel_rfl) (by kernel_rfl)) ?_
  intro W base args ds gs before hval hW _ _
  refine law_contract S (fn := Try.f3) (ts := [24, 27, 27]) (tb := 4) (m := 20) laidOut (by kernel_rfl) (of_decide_eq_true (by kernel_rfl)) (of_decide_eq_true (by kernel_rfl)) (by kernel_rfl) (by kernel_rfl) rfl (fun ds hd => ?_) (fun al hl h => ?_) hval hW
  · match ds, hd with
    | [_, _, _], _ => rfl
  · match al, hl with
    | [a0, a1, a2], _ =>
      obtain ⟨i0, c0, e0, _, w0, rfl⟩ := h 0 _ a0 rfl rfl
      cases tab24.symm.trans e0
      obtain ⟨i1, c1, e1, _, w1, rfl⟩ := h 1 _ a1 rfl rfl
      cases tab27.symm.trans e1
      obtain ⟨i2, c2, e2, _, w2, rfl⟩ := h 2 _ a2 rfl rfl
      cases tab27.symm.trans e2
      obtain ⟨x0, rfl, r0⟩ := wc_Sig w0
      obtain ⟨x1, rfl, r1⟩ := wc_Auto w1
      obtain ⟨x2, rfl, r2⟩ := wc_Auto w2
      exact fnExactEitherAuto_fc x0 x1 x2 r0 r1 r2
theorem and_t {a b : Bool} (ha : a = true) (hb : b = true) : (a && b) = true := by rw [ha, hb]; rfl
set_option maxRecDepth 100000 in
theorem jf_heard : Try.pinned.checked.prog.stopsHeard = true := by kernel_rfl
set_option maxRecDepth 100000 in
theorem jf_enter : Try.pinned.checked.prog.mayEnter = true := by kernel_rfl
set_option maxRecDepth 100000 in
theorem jf_lift : (Rows.fnExactEitherAutoRow.lifted == Try.pinned.checked.prog.liftsFinal) = true := by kernel_rfl
set_option maxRecDepth 100000 in
theorem jf_make : (Try.pinned.checked.prog.make == some Rows.fnExactEitherAutoRow.make) = true := by kernel_rfl
set_option maxRecDepth 100000 in
theorem jf_all : joinedFacts Try.pinned.checked.prog 3 Try.f3 Rows.fnExactEitherAutoSpec Rows.fnExactEitherAutoRow = true := by
  unfold joinedFacts
  exact and_t (and_t (and_t (and_t (and_t (and_t (and_t (and_t (by kernel_rfl) jf_heard) jf_enter) jf_lift) jf_make) (by kernel_rfl)) (by kernel_rfl)) (by kernel_rfl)) (by kernel_rfl)
set_option maxRecDepth 100000 in
theorem fnExactEitherAuto_holds : Rows.FnExactEitherAutoSaid :=
  OpenClaim.holds_of_wide 3 Try.f3 rfl rfl rfl rfl rfl rfl rfl ⟨rfl, rfl, rfl, rfl, rfl⟩ rfl rfl rfl rfl rfl (by kernel_rfl) Try.func3 jf_all
    (of_decide_eq_true (by kernel_rfl)) (by unfold Func.isWrapper; first | (rw [if_pos (by decide +kernel)]; kernel_rfl) | (rw [if_neg (by decide +kernel)]; exact ⟨rfl, rfl⟩))
    (fun os started H enc _ => fnExactEitherAuto_lifted os started H enc)
end Go.Proofs.Ytgbcnhbmfjkhmaa
