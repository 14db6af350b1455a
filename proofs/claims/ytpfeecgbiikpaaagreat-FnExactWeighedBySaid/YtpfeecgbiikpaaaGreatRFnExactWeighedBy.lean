/-
  FnExactWeighedBy returns true, whatever its arguments: its contract, and its row (no condition).
-/
import Derived.Test.YtpfeecgbiikpaaaGreatRows
import Derived.Test.YtpfeecgbiikpaaaGreatHFnExactWeighedBy
import Derived.Test.YtpfeecgbiikpaaaGreatA17m
import Derived.Test.YtpfeecgbiikpaaaGreatLFnExactWeighedBy
import Derived.Test.YtpfeecgbiikpaaaGreatLgK7
import Derived.Test.YtpfeecgbiikpaaaGreatLgK6
namespace Go.Proofs.YtpfeecgbiikpaaaGreat
open Go Go.Lg Go.RowKit Go.ChangeShapes Go.WideShapes Go.ChangeAt
set_option linter.unusedVariables false
set_option linter.unusedSimpArgs false
set_option maxHeartbeats 4000000
set_option maxRecDepth 100000
def RngInt64 (x : Int) : Prop := In64 x
def RngInt64S (xs : List Int) : Prop := ∀ x ∈ xs, RngInt64 x
def RngSig (x : List Int) : Prop := RngInt64S x
def RngRule (x : RuleT) : Prop := RngInt64S x.l ∧ RngInt64S x.r
def RngRuleS (xs : List RuleT) : Prop := ∀ x ∈ xs, RngRule x
def RngSystem (x : SystemT) : Prop := RngSig x.sig ∧ RngRuleS x.rules
def RngPoly (x : PolyT) : Prop := RngInt64 x.const ∧ RngInt64S x.coef
def RngPolyS (xs : List PolyT) : Prop := ∀ x ∈ xs, RngPoly x
section
attribute [local irreducible] SW runL runQ runG runQG FC Ret1
def kp3 : List (Nat × List Nat) := [(0, [1, 2, 3]), (1, [1, 2, 3, 22]), (2, [6]), (3, [1, 2, 3, 7]), (4, [1, 2, 3, 7]), (5, [1, 2, 3, 7, 27]), (6, [6]), (7, [1, 2, 3, 7]), (8, [1, 2, 3, 32]), (9, [6]), (10, [1, 2, 3, 8, 9]), (11, [1, 2, 3, 8, 9, 10]), (12, [1, 2, 3, 8, 9, 10, 11]), (13, [1, 2, 3, 8, 9, 10, 11, 12]), (14, [1, 2, 3, 8, 9, 10, 11, 12, 13, 14]), (15, [1, 2, 3, 8, 9, 10, 11, 12, 13, 14, 64]), (16, [6]), (17, [1, 2, 3, 8, 9, 10, 11, 12, 13, 14, 69]), (18, [6]), (19, [1, 2, 3, 8, 9, 10, 11, 12, 13, 14, 74]), (20, [6]), (21, [1, 2, 3, 8, 9, 10, 11, 12, 13, 14, 79]), (22, [6]), (23, [1, 2, 3, 8, 9, 10, 11, 12, 13, 14, 15]), (24, [1, 2, 3, 8, 9, 11, 12, 13, 14, 15]), (25, [1, 2, 3, 8, 9, 12, 13, 14, 15]), (26, [1, 2, 3, 8, 9, 13, 14, 15]), (27, [1, 2, 3, 8, 9, 13, 101]), (28, [6]), (29, [1, 2, 3, 8, 9, 13, 16]), (30, [1, 2, 3, 8, 9, 13, 16]), (31, [1, 2, 3, 8, 9, 13, 16, 17]), (32, [1, 2, 3, 8, 9, 13, 16, 17]), (33, [1, 2, 3, 8, 9, 13, 16, 17, 109]), (34, [6]), (35, [1, 2, 3, 8, 9, 13, 16, 112]), (36, [6]), (37, [8, 9, 13, 16, 18, 19]), (38, [13, 16, 131]), (39, [6]), (40, [13, 16, 17]), (41, [16, 17]), (42, [16, 17, 136]), (43, [6]), (44, [139]), (45, [6]), (46, [6])]
attribute [go_sem] kp3
theorem fnExactWeighedBy_fc (aSys : SystemT) (aSet : List Int) (aPs : List PolyT) (haSys : RngSystem aSys) (haSet : RngInt64S aSet) (haPs : RngPolyS aPs) : FC S 3 [] [] [] [SystemD aSys, .sl .any (aSet.map (.int .i64)), .sl .any (aPs.map PolyD)] (.bool true) [] [] := by
  refine fc_bodyT Tryz.func3 rfl (by kernel_rfl) (by simp [Tryz.f3]) rfl fun B hB => ?_
  simp only [Tryz.ntmps3, enumD, List.map_nil, List.map_cons, List.length_map, Nat.zero_add, Nat.reduceAdd]
  refine sw_bnd_agg 0 0 rfl rfl fun hb0_0 => ?_
  simp only [D.bnd, List.length_map] at hb0_0
  refine sw_bnd_agg 0 1 rfl rfl fun hb0_1 => ?_
  simp only [D.bnd, List.length_map] at hb0_1
  refine sw_bnd 1 rfl fun hb1 => ?_
  simp only [D.bnd, List.length_map] at hb1
  refine sw_bnd 2 rfl fun hb2 => ?_
  simp only [D.bnd, List.length_map] at hb2
  repeat' first
    | (refine sw_rebaseAt 11 hB rfl fun B1 N hN => ?_; simp only [go_sem, LS.rebase, mapA, kdc])
    | (refine sw_markA1 hN (i := N + 1) (by omega) markSystem_mk rfl rfl (ta_System (N + 1) _ aSys) rfl rfl rfl rfl (by omega) (by (have : cntSystem aSys ≤ 1048576 := (by first|(simp only [cntInt64S]; omega)|grind [szd]); have := mcle_System aSys; have : cntInt64S aSet ≤ 1048576 := (by first|(simp only [cntInt64S]; omega)|grind [szd]); have := mcle_Int64S aSet; have : cntPolyS aPs ≤ 1048576 := (by first|(simp only [cntInt64S]; omega)|grind [szd]); have := mcle_PolyS aPs; omega)) (by simp) ⟨rfl, rfl, rfl⟩ (by simp) (by (simp only [eraseK, KeepE, KeepX, KeepL, Nat.reduceEqDiff, ↓reduceIte, and_true]; (repeat' first | exact trivial | exact keep_int _ _ _ _ | exact keep_bool _ _ _ | exact keep_box _ _ _ _ | exact keep_KD _ _ _ | exact keep_LT (lt_Int64S _ _) (by omega) | exact keep_LT (lt_RuleS _ _) (by omega) | exact keep_LT (lt_PolyS _ _) (by omega) | refine And.intro ?_ ?_); done)) (by (simp only [eraseK, KeepE, KeepX, KeepL, Nat.reduceEqDiff, ↓reduceIte, and_true]; (repeat' first | exact trivial | exact keep_int _ _ _ _ | exact keep_bool _ _ _ | exact keep_box _ _ _ _ | exact keep_KD _ _ _ | exact keep_LT (lt_Int64S _ _) (by omega) | exact keep_LT (lt_RuleS _ _) (by omega) | exact keep_LT (lt_PolyS _ _) (by omega) | refine And.intro ?_ ?_); done)) (by (simp only [eraseK, KeepE, KeepX, KeepL, Nat.reduceEqDiff, ↓reduceIte, and_true]; (repeat' first | exact trivial | exact keep_int _ _ _ _ | exact keep_bool _ _ _ | exact keep_box _ _ _ _ | exact keep_KD _ _ _ | exact keep_LT (lt_Int64S _ _) (by omega) | exact keep_LT (lt_RuleS _ _) (by omega) | exact keep_LT (lt_PolyS _ _) (by omega) | refine And.intro ?_ ?_); done)) ?_; simp only [go_sem])
    | (refine sw_markS1 hN (i := N + 2) (by omega) markInt64S_mk rfl (lt_Int64S [N + 2] aSet) rfl (by omega) (by (have : cntSystem aSys ≤ 1048576 := (by first|(simp only [cntInt64S]; omega)|grind [szd]); have := mcle_System aSys; have : cntInt64S aSet ≤ 1048576 := (by first|(simp only [cntInt64S]; omega)|grind [szd]); have := mcle_Int64S aSet; have : cntPolyS aPs ≤ 1048576 := (by first|(simp only [cntInt64S]; omega)|grind [szd]); have := mcle_PolyS aPs; omega)) (by simp) ⟨rfl, rfl, rfl⟩ (by simp) (by (simp only [eraseK, KeepE, KeepX, KeepL, Nat.reduceEqDiff, ↓reduceIte, and_true]; (repeat' first | exact trivial | exact keep_int _ _ _ _ | exact keep_bool _ _ _ | exact keep_box _ _ _ _ | exact keep_KD _ _ _ | exact keep_LT (lt_Int64S _ _) (by omega) | exact keep_LT (lt_RuleS _ _) (by omega) | exact keep_LT (lt_PolyS _ _) (by omega) | refine And.intro ?_ ?_); done)) (by (simp only [eraseK, KeepE, KeepX, KeepL, Nat.reduceEqDiff, ↓reduceIte, and_true]; (repeat' first | exact trivial | exact keep_int _ _ _ _ | exact keep_bool _ _ _ | exact keep_box _ _ _ _ | exact keep_KD _ _ _ | exact keep_LT (lt_Int64S _ _) (by omega) | exact keep_LT (lt_RuleS _ _) (by omega) | exact keep_LT (lt_PolyS _ _) (by omega) | refine And.intro ?_ ?_); done)) (by (simp only [eraseK, KeepE, KeepX, KeepL, Nat.reduceEqDiff, ↓reduceIte, and_true]; (repeat' first | exact trivial | exact keep_int _ _ _ _ | exact keep_bool _ _ _ | exact keep_box _ _ _ _ | exact keep_KD _ _ _ | exact keep_LT (lt_Int64S _ _) (by omega) | exact keep_LT (lt_RuleS _ _) (by omega) | exact keep_LT (lt_PolyS _ _) (by omega) | refine And.intro ?_ ?_); done)) ?_; simp only [go_sem])
    | (refine sw_markS1 hN (i := N + 3) (by omega) markPolyS_mk rfl (lt_PolyS [N + 3] aPs) rfl (by omega) (by (have : cntSystem aSys ≤ 1048576 := (by first|(simp only [cntInt64S]; omega)|grind [szd]); have := mcle_System aSys; have : cntInt64S aSet ≤ 1048576 := (by first|(simp only [cntInt64S]; omega)|grind [szd]); have := mcle_Int64S aSet; have : cntPolyS aPs ≤ 1048576 := (by first|(simp only [cntInt64S]; omega)|grind [szd]); have := mcle_PolyS aPs; omega)) (by simp) ⟨rfl, rfl, rfl⟩ (by simp) (by (simp only [eraseK, KeepE, KeepX, KeepL, Nat.reduceEqDiff, ↓reduceIte, and_true]; (repeat' first | exact trivial | exact keep_int _ _ _ _ | exact keep_bool _ _ _ | exact keep_box _ _ _ _ | exact keep_KD _ _ _ | exact keep_LT (lt_Int64S _ _) (by omega) | exact keep_LT (lt_RuleS _ _) (by omega) | exact keep_LT (lt_PolyS _ _) (by omega) | refine And.intro ?_ ?_); done)) (by (simp only [eraseK, KeepE, KeepX, KeepL, Nat.reduceEqDiff, ↓reduceIte, and_true]; (repeat' first | exact trivial | exact keep_int _ _ _ _ | exact keep_bool _ _ _ | exact keep_box _ _ _ _ | exact keep_KD _ _ _ | exact keep_LT (lt_Int64S _ _) (by omega) | exact keep_LT (lt_RuleS _ _) (by omega) | exact keep_LT (lt_PolyS _ _) (by omega) | refine And.intro ?_ ?_); done)) (by (simp only [eraseK, KeepE, KeepX, KeepL, Nat.reduceEqDiff, ↓reduceIte, and_true]; (repeat' first | exact trivial | exact keep_int _ _ _ _ | exact keep_bool _ _ _ | exact keep_box _ _ _ _ | exact keep_KD _ _ _ | exact keep_LT (lt_Int64S _ _) (by omega) | exact keep_LT (lt_RuleS _ _) (by omega) | exact keep_LT (lt_PolyS _ _) (by omega) | refine And.intro ?_ ?_); done)) ?_; simp only [go_sem])
    | (refine sw_markS2 hN (i := N + 4) (by omega) markInt64S_mk rfl (lt_Int64S [N + 4] ((weighR aSys aSet aPs).1)) rfl (by omega) (by (have : cntSystem aSys ≤ 1048576 := (by first|(simp only [cntInt64S]; omega)|grind [szd]); have := mcle_System aSys; have : cntInt64S aSet ≤ 1048576 := (by first|(simp only [cntInt64S]; omega)|grind [szd]); have := mcle_Int64S aSet; have : cntPolyS aPs ≤ 1048576 := (by first|(simp only [cntInt64S]; omega)|grind [szd]); have := mcle_PolyS aPs; have := weighR_mc aSys aSet aPs; omega)) (by simp) ⟨rfl, rfl, rfl⟩ (by simp) (by simp) (by (simp only [eraseK, KeepE, KeepX, KeepL, Nat.reduceEqDiff, ↓reduceIte, and_true]; (repeat' first | exact trivial | exact keep_int _ _ _ _ | exact keep_bool _ _ _ | exact keep_box _ _ _ _ | exact keep_KD _ _ _ | exact keep_LT (lt_Int64S _ _) (by omega) | exact keep_LT (lt_RuleS _ _) (by omega) | exact keep_LT (lt_PolyS _ _) (by omega) | refine And.intro ?_ ?_); done)) (by (simp only [eraseK, KeepE, KeepX, KeepL, Nat.reduceEqDiff, ↓reduceIte, and_true]; (repeat' first | exact trivial | exact keep_int _ _ _ _ | exact keep_bool _ _ _ | exact keep_box _ _ _ _ | exact keep_KD _ _ _ | exact keep_LT (lt_Int64S _ _) (by omega) | exact keep_LT (lt_RuleS _ _) (by omega) | exact keep_LT (lt_PolyS _ _) (by omega) | refine And.intro ?_ ?_); done)) (by (simp only [eraseK, KeepE, KeepX, KeepL, Nat.reduceEqDiff, ↓reduceIte, and_true]; (repeat' first | exact trivial | exact keep_int _ _ _ _ | exact keep_bool _ _ _ | exact keep_box _ _ _ _ | exact keep_KD _ _ _ | exact keep_LT (lt_Int64S _ _) (by omega) | exact keep_LT (lt_RuleS _ _) (by omega) | exact keep_LT (lt_PolyS _ _) (by omega) | refine And.intro ?_ ?_); done)) ?_; simp only [go_sem])
    | exact Bool.noConfusion h
    | refine sw_seq ?_
    | refine sw_block ?_
    | refine sw_skip ?_
    | refine sw_inBlock ?_
    | refine sw_go 0 kp3 fun K hK => ?_
    | refine fun (K : List Oper → LS → Prop) (hK : KOk S 0 _ _ _ K) => ?_
    | refine sw_goD kp3 (by kernel_rfl) fun K hK => ?_
    | ((first | refine runL_go ?_ | refine runQ_go ?_); simp (disch := (refine Om.mk ?_; omega)) only [go_sem])
    | (refine hK.nil ?_; clear hK K; simp only [go_sem])
    | (refine runG_fork rfl rfl rfl rfl rfl (fun h => ?_) (fun h => ?_) <;> (try simp (disch := (refine Om.mk ?_; omega)) only [go_sem] at h))
    | (refine runQG_fork rfl rfl rfl rfl rfl (fun h => ?_) (fun h => ?_) <;> (try simp (disch := (refine Om.mk ?_; omega)) only [go_sem] at h))
    | (refine hK.skip rfl (by simp only [dstOk, Nat.reduceLT]) ?_)
    | (refine sw_cond rfl (fun h => ?_) (fun h => ?_) <;> (try simp (disch := (refine Om.mk ?_; omega)) only [go_sem] at h))
    | (refine sw_exit rfl ?_)
    | (refine sw_loopEnd ?_)
    | ((first | refine sw_ret (ret0 ?_) | refine sw_ret ?_); simp (disch := (refine Om.mk ?_; omega)) only [go_sem, Tryz.results3])
    | refine hK.call rfl rfl rfl (szSystem_fc _ _ (by repeat' (first|apply szd_rng|(constructor <;> omega)))) ⟨(by intro p hp; cases hp), rfl, rfl, (by simp only [dstOk, Nat.reduceLT])⟩ ?_
    | refine hK.call rfl rfl rfl (szPolyS_fc _ _ _ (by repeat' (first|apply szd_rng|(constructor <;> omega)))) ⟨(by intro p hp; cases hp), rfl, rfl, (by simp only [dstOk, Nat.reduceLT])⟩ ?_
    | (refine hK.call rfl rfl rfl (FC.args (toSystemL_fc [N + 1] (by simp) aSys (by first|(simp only [cntInt64S]; omega)|grind [szd])) ?le) ⟨(by intro p hp; cases hp), rfl, rfl, (by simp only [dstOk, Nat.reduceLT])⟩ ?_; case le => (simp only [go_sem]; (repeat' first | exact trivial | exact D.le.refl _ | exact KD_le rfl rfl | exact le_Int64SL _ _ | exact le_SigL _ _ | exact le_RuleL _ _ | exact le_RuleSL _ _ | exact le_SystemL _ _ | exact le_PolyL _ _ | exact le_PolySL _ _ | exact D.le.any | refine And.intro ?_ ?_); done))
    | (refine hK.call rfl rfl rfl (FC.args (eqSystem_fc aSys aSys) ?le) ⟨(by intro p hp; cases hp), rfl, rfl, (by simp only [dstOk, Nat.reduceLT])⟩ ?_; case le => (simp only [go_sem]; (repeat' first | exact trivial | exact D.le.refl _ | exact KD_le rfl rfl | exact le_Int64SL _ _ | exact le_SigL _ _ | exact le_RuleL _ _ | exact le_RuleSL _ _ | exact le_SystemL _ _ | exact le_PolyL _ _ | exact le_PolySL _ _ | exact D.le.any | refine And.intro ?_ ?_); done))
    | (refine hK.call rfl rfl rfl (FC.args (toInt64SL_fc [N + 2] (by simp) .any aSet (by first|(simp only [cntInt64S]; omega)|grind [szd])) ?le) ⟨(by intro p hp; cases hp), rfl, rfl, (by simp only [dstOk, Nat.reduceLT])⟩ ?_; case le => (simp only [go_sem]; (repeat' first | exact trivial | exact D.le.refl _ | exact KD_le rfl rfl | exact le_Int64SL _ _ | exact le_SigL _ _ | exact le_RuleL _ _ | exact le_RuleSL _ _ | exact le_SystemL _ _ | exact le_PolyL _ _ | exact le_PolySL _ _ | exact D.le.any | refine And.intro ?_ ?_); done))
    | (refine hK.call rfl rfl rfl (FC.args (eqInt64S_fc .any .any aSet aSet) ?le) ⟨(by intro p hp; cases hp), rfl, rfl, (by simp only [dstOk, Nat.reduceLT])⟩ ?_; case le => (simp only [go_sem]; (repeat' first | exact trivial | exact D.le.refl _ | exact KD_le rfl rfl | exact le_Int64SL _ _ | exact le_SigL _ _ | exact le_RuleL _ _ | exact le_RuleSL _ _ | exact le_SystemL _ _ | exact le_PolyL _ _ | exact le_PolySL _ _ | exact D.le.any | refine And.intro ?_ ?_); done))
    | (refine hK.call rfl rfl rfl (FC.args (toPolySL_fc [N + 3] (by simp) .any aPs (by first|(simp only [cntInt64S]; omega)|grind [szd])) ?le) ⟨(by intro p hp; cases hp), rfl, rfl, (by simp only [dstOk, Nat.reduceLT])⟩ ?_; case le => (simp only [go_sem]; (repeat' first | exact trivial | exact D.le.refl _ | exact KD_le rfl rfl | exact le_Int64SL _ _ | exact le_SigL _ _ | exact le_RuleL _ _ | exact le_RuleSL _ _ | exact le_SystemL _ _ | exact le_PolyL _ _ | exact le_PolySL _ _ | exact D.le.any | refine And.intro ?_ ?_); done))
    | (refine hK.call rfl rfl rfl (FC.args (eqPolyS_fc .any .any aPs aPs) ?le) ⟨(by intro p hp; cases hp), rfl, rfl, (by simp only [dstOk, Nat.reduceLT])⟩ ?_; case le => (simp only [go_sem]; (repeat' first | exact trivial | exact D.le.refl _ | exact KD_le rfl rfl | exact le_Int64SL _ _ | exact le_SigL _ _ | exact le_RuleL _ _ | exact le_RuleSL _ _ | exact le_SystemL _ _ | exact le_PolyL _ _ | exact le_PolySL _ _ | exact D.le.any | refine And.intro ?_ ?_); done))
    | refine hK.call rfl rfl rfl (held_fc heldInt64S_mk (by omega) (by (have : cntSystem aSys ≤ 1048576 := (by first|(simp only [cntInt64S]; omega)|grind [szd]); have := mcle_System aSys; have : cntInt64S aSet ≤ 1048576 := (by first|(simp only [cntInt64S]; omega)|grind [szd]); have := mcle_Int64S aSet; have : cntPolyS aPs ≤ 1048576 := (by first|(simp only [cntInt64S]; omega)|grind [szd]); have := mcle_PolyS aPs; have := weighR_mc aSys aSet aPs; omega))) ⟨(by intro p hp; cases hp), rfl, rfl, (by simp only [dstOk, Nat.reduceLT])⟩ ?_
    | (refine hK.call rfl rfl rfl (FC.args (eqInt64S_fc .any .any ((weighR aSys aSet aPs).1) ((weighR aSys aSet aPs).1)) ?le) ⟨(by intro p hp; cases hp), rfl, rfl, (by simp only [dstOk, Nat.reduceLT])⟩ ?_; case le => (simp only [go_sem]; (repeat' first | exact trivial | exact D.le.refl _ | exact KD_le rfl rfl | exact le_Int64SL _ _ | exact le_SigL _ _ | exact le_RuleL _ _ | exact le_RuleSL _ _ | exact le_SystemL _ _ | exact le_PolyL _ _ | exact le_PolySL _ _ | exact D.le.any | refine And.intro ?_ ?_); done))
    | (refine hK.call rfl rfl rfl (FC.args (implWeighedBy_fc [N + 4] (by simp) aSys aSet aPs) ?le) ⟨(by intro p hp; cases hp), rfl, rfl, (by simp only [dstOk, Nat.reduceLT])⟩ ?_; case le => (simp only [go_sem]; (repeat' first | exact trivial | exact D.le.refl _ | exact KD_le rfl rfl | exact le_Int64SL _ _ | exact le_SigL _ _ | exact le_RuleL _ _ | exact le_RuleSL _ _ | exact le_SystemL _ _ | exact le_PolyL _ _ | exact le_PolySL _ _ | exact D.le.any | refine And.intro ?_ ?_); done))
    | refine hK.call rfl rfl rfl (toSystem_fc _ (by first|(simp only [cntInt64S]; omega)|grind [szd])) ⟨(by intro p hp; cases hp), rfl, rfl, (by simp only [dstOk, Nat.reduceLT])⟩ ?_
    | refine hK.call rfl rfl rfl (toInt64S_fc _ _ (by first|(simp only [cntInt64S]; omega)|grind [szd])) ⟨(by intro p hp; cases hp), rfl, rfl, (by simp only [dstOk, Nat.reduceLT])⟩ ?_
    | refine hK.call rfl rfl rfl (toPolyS_fc _ _ (by first|(simp only [cntInt64S]; omega)|grind [szd])) ⟨(by intro p hp; cases hp), rfl, rfl, (by simp only [dstOk, Nat.reduceLT])⟩ ?_
    | refine hK.call rfl rfl rfl (specWeighedBy_fc aSys aSet aPs) ⟨(by intro p hp; cases hp), rfl, rfl, (by simp only [dstOk, Nat.reduceLT])⟩ ?_
    | (refine hK.fork rfl rfl rfl (fun h => ?_) (fun h => ?_) <;> (try simp (disch := (refine Om.mk ?_; omega)) only [go_sem] at h))
    | (with_reducible refine And.intro (by first | omega | (simp only [List.length_append, List.length_take, List.length_drop, List.length_cons, List.length_nil, List.length_map]; omega)) ?_)
    | ((with_reducible refine And.intro ?_ ?_); · first | (intro x hx; subst hx; rfl) | exact upR_mem fun _ _ => rfl | exact mapR_mem fun _ _ => rfl | (intro x; refine And.intro ?_ ?_ <;> (intros; subst_vars; rfl)))
    | fail
  all_goals first | omega | exact h trivial | exact absurd rfl h | exact absurd Iff.rfl h | (simp at h; done)
end
theorem own : ownKnob Tryz.prog.godebug = none := by kernel_rfl
theorem laidOut : laidOutB Tryz.prog = true := by kernel_rfl
theorem wc_Int64S {cs : List D} (h : WC S 22 cs) : ∃ xs : List Int, cs = [.sl .any (xs.map (.int .i64))] ∧ RngInt64S xs := wc_ints rfl rfl h
theorem wc_Sig {cs : List D} (h : WC S 24 cs) : ∃ x : List Int, cs = [.sl .any (x.map (.int .i64))] ∧ RngSig x := by
  obtain ⟨css, rfl, hl, hc⟩ := wc_st (fs := [(0, 22)]) rfl h
  match css, hl with
  | [c0], _ =>
    obtain ⟨x0, rfl, h0⟩ := wc_Int64S (hc 0 _ c0 rfl rfl)
    exact ⟨x0, rfl, h0⟩
theorem wc_Rule {cs : List D} (h : WC S 111 cs) : ∃ x : RuleT, cs = [.sl .any (x.l.map (.int .i64)), .sl .any (x.r.map (.int .i64))] ∧ RngRule x := by
  obtain ⟨css, rfl, hl, hc⟩ := wc_st (fs := [(0, 22), (1, 22)]) rfl h
  match css, hl with
  | [c0, c1], _ =>
    obtain ⟨x0, rfl, h0⟩ := wc_Int64S (hc 0 _ c0 rfl rfl)
    obtain ⟨x1, rfl, h1⟩ := wc_Int64S (hc 1 _ c1 rfl rfl)
    exact ⟨⟨x0, x1⟩, rfl, ⟨h0, h1⟩⟩
theorem wc_RuleS {cs : List D} (h : WC S 25 cs) : ∃ xs : List RuleT, cs = [.sl .any (xs.map RuleD)] ∧ RngRuleS xs := by
  refine wc_list rfl tab111 h RuleD RngRule fun ds _ hw => ?_
  obtain ⟨x, rfl, hx⟩ := wc_Rule hw
  exact ⟨x, rfl, hx⟩
theorem wc_System {cs : List D} (h : WC S 27 cs) : ∃ x : SystemT, cs = [.sl .any (x.sig.map (.int .i64)), .sl .any (x.rules.map RuleD)] ∧ RngSystem x := by
  obtain ⟨css, rfl, hl, hc⟩ := wc_st (fs := [(0, 24), (1, 25)]) rfl h
  match css, hl with
  | [c0, c1], _ =>
    obtain ⟨x0, rfl, h0⟩ := wc_Sig (hc 0 _ c0 rfl rfl)
    obtain ⟨x1, rfl, h1⟩ := wc_RuleS (hc 1 _ c1 rfl rfl)
    exact ⟨⟨x0, x1⟩, rfl, ⟨h0, h1⟩⟩
theorem wc_Poly {cs : List D} (h : WC S 67 cs) : ∃ x : PolyT, cs = [.int .i64 x.const, .sl .any (x.coef.map (.int .i64))] ∧ RngPoly x := by
  obtain ⟨css, rfl, hl, hc⟩ := wc_st (fs := [(0, 2), (1, 22)]) rfl h
  match css, hl with
  | [c0, c1], _ =>
    obtain ⟨x0, rfl, h0⟩ := wc_int rfl (hc 0 _ c0 rfl rfl)
    obtain ⟨x1, rfl, h1⟩ := wc_Int64S (hc 1 _ c1 rfl rfl)
    exact ⟨⟨x0, x1⟩, rfl, ⟨in64_wf h0, h1⟩⟩
theorem wc_PolyS {cs : List D} (h : WC S 28 cs) : ∃ xs : List PolyT, cs = [.sl .any (xs.map PolyD)] ∧ RngPolyS xs := by
  refine wc_list rfl tab67 h PolyD RngPoly fun ds _ hw => ?_
  obtain ⟨x, rfl, hx⟩ := wc_Poly hw
  exact ⟨x, rfl, hx⟩
set_option maxRecDepth 100000 in
theorem fnExactWeighedBy_lifted (os : Os) (started : os.Started) (H : Type) (enc : TypeId × Value → H) :
    ReturnsInHanded {} Tryz.checked os 3 .any (Rows.fnExactWeighedBySpec.pre6 enc Tryz.prog Tryz.f3 Rows.fnExactWeighedByRow.domain false) (Rows.fnExactWeighedBySpec.post enc Tryz.prog Tryz.f3 false true false false) := by
  refine returnsInHanded_of_change (C := Tryz.checked) own started (by kernel_rfl) Tryz.func3
    (ChangeSpec.witness6 (enc := enc) (C := Tryz.checked) false ⟨#[], #[.agg #[.slice none 0 0, .slice none 0 0], .slice none 0 0, .slice none 0 0], []⟩ 12 (by kernel_rfl) (by kernel_rfl) (by kernel_rfl) (by kernel_rfl)) ?_
  intro W base args ds gs before hval hW _ _
  refine law_contract S (fn := Tryz.f3) (ts := [27, 22, 28]) (tb := 4) (m := 20) laidOut (by kernel_rfl) (of_decide_eq_true (by kernel_rfl)) (of_decide_eq_true (by kernel_rfl)) (by kernel_rfl) (by kernel_rfl) rfl (fun ds hd => ?_) (fun al hl h => ?_) hval hW
  · match ds, hd with
    | [_, _, _], _ => rfl
  · match al, hl with
    | [a0, a1, a2], _ =>
      obtain ⟨i0, c0, e0, _, w0, rfl⟩ := h 0 _ a0 rfl rfl
      cases tab27.symm.trans e0
      obtain ⟨i1, c1, e1, _, w1, rfl⟩ := h 1 _ a1 rfl rfl
      cases tab22.symm.trans e1
      obtain ⟨i2, c2, e2, _, w2, rfl⟩ := h 2 _ a2 rfl rfl
      cases tab28.symm.trans e2
      obtain ⟨x0, rfl, r0⟩ := wc_System w0
      obtain ⟨x1, rfl, r1⟩ := wc_Int64S w1
      obtain ⟨x2, rfl, r2⟩ := wc_PolyS w2
      exact fnExactWeighedBy_fc x0 x1 x2 r0 r1 r2
theorem and_t {a b : Bool} (ha : a = true) (hb : b = true) : (a && b) = true := by rw [ha, hb]; rfl
set_option maxRecDepth 100000 in
theorem jf_heard : Tryz.pinned.checked.prog.stopsHeard = true := by kernel_rfl
set_option maxRecDepth 100000 in
theorem jf_enter : Tryz.pinned.checked.prog.mayEnter = true := by kernel_rfl
set_option maxRecDepth 100000 in
theorem jf_lift : (Rows.fnExactWeighedByRow.lifted == Tryz.pinned.checked.prog.liftsFinal) = true := by kernel_rfl
set_option maxRecDepth 100000 in
theorem jf_make : (Tryz.pinned.checked.prog.make == some Rows.fnExactWeighedByRow.make) = true := by kernel_rfl
set_option maxRecDepth 100000 in
theorem jf_all : joinedFacts Tryz.pinned.checked.prog 3 Tryz.f3 Rows.fnExactWeighedBySpec Rows.fnExactWeighedByRow = true := by
  unfold joinedFacts
  exact and_t (and_t (and_t (and_t (and_t (and_t (and_t (and_t (by kernel_rfl) jf_heard) jf_enter) jf_lift) jf_make) (by kernel_rfl)) (by kernel_rfl)) (by kernel_rfl)) (by kernel_rfl)
set_option maxRecDepth 100000 in
theorem fnExactWeighedBy_holds : Rows.FnExactWeighedBySaid :=
  OpenClaim.holds_of_wide 3 Tryz.f3 rfl rfl rfl rfl rfl rfl rfl ⟨rfl, rfl, rfl, rfl, rfl⟩ rfl rfl rfl rfl rfl (by kernel_rfl) Tryz.func3 jf_all
    (of_decide_eq_true (by kernel_rfl)) (by unfold Func.isWrapper; first | (rw [if_pos (by decide +kernel)]; kernel_rfl) | (rw [if_neg (by decide +kernel)]; exact ⟨rfl, rfl⟩))
    (fun os started H enc _ => fnExactWeighedBy_lifted os started H enc)
end Go.Proofs.YtpfeecgbiikpaaaGreat
