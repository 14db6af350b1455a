/-
  FnExactUnravelled returns true, whatever its arguments: its contract, and its row (no condition).
-/
import Derived.Test.YtgbcnhbmfjkhmaaRows
import Derived.Test.YtgbcnhbmfjkhmaaHFnExactUnravelled
import Derived.Test.YtgbcnhbmfjkhmaaA27x
import Derived.Test.YtgbcnhbmfjkhmaaLFnExactUnravelled
import Derived.Test.YtgbcnhbmfjkhmaaLgK7
import Derived.Test.YtgbcnhbmfjkhmaaLgK6
namespace Go.Proofs.Ytgbcnhbmfjkhmaa
open Go Go.Lg Go.RowKit Go.ChangeShapes Go.WideShapes Go.ChangeAt
set_option linter.unusedVariables false
set_option linter.unusedSimpArgs false
set_option maxHeartbeats 4000000
set_option maxRecDepth 100000
def RngInt64 (x : Int) : Prop := In64 x
def RngInt64S (xs : List Int) : Prop := ∀ x ∈ xs, RngInt64 x
def RngSig (x : List Int) : Prop := RngInt64S x
def RngEq (x : EqT) : Prop := RngInt64S x.l ∧ RngInt64S x.r
def RngEqS (xs : List EqT) : Prop := ∀ x ∈ xs, RngEq x
def RngCRule (x : CRuleT) : Prop := RngInt64S x.l ∧ RngInt64S x.r ∧ RngEqS x.conds
def RngCRuleS (xs : List CRuleT) : Prop := ∀ x ∈ xs, RngCRule x
def RngCSystem (x : CSystemT) : Prop := RngSig x.sig ∧ RngCRuleS x.rules
section
attribute [local irreducible] SW runL runQ runG runQG FC Ret1
def kp8 : List (Nat × List Nat) := [(0, [1]), (1, [1, 3]), (2, [1, 3]), (3, [1, 18]), (4, [2]), (5, [1, 4, 5]), (6, [1, 4, 5, 6]), (7, [1, 4, 5, 6, 7, 8]), (8, [1, 4, 5, 6, 7, 8, 40]), (9, [2]), (10, [1, 4, 5, 6, 7, 8, 45]), (11, [2]), (12, [1, 4, 5, 6, 7, 8, 9]), (13, [1, 4, 5, 7, 8, 9]), (14, [1, 4, 5, 7, 61]), (15, [2]), (16, [1, 4, 5, 7, 10]), (17, [1, 4, 5, 7, 10]), (18, [1, 4, 5, 7, 10, 11]), (19, [1, 4, 5, 7, 10, 11]), (20, [1, 4, 5, 7, 10, 11, 69]), (21, [2]), (22, [1, 4, 5, 7, 10, 72]), (23, [2]), (24, [4, 5, 7, 10, 12, 13]), (25, [7, 10, 87]), (26, [2]), (27, [7, 10, 11]), (28, [10, 11]), (29, [10, 11, 92]), (30, [2]), (31, [95]), (32, [2]), (33, [2])]
attribute [go_sem] kp8
theorem fnExactUnravelled_fc (aCs : CSystemT) (haCs : RngCSystem aCs) : FC S 8 [] [] [] [CSystemD aCs] (.bool true) [] [] := by
  refine fc_bodyT Try.func8 rfl (by kernel_rfl) (by simp [Try.f8]) rfl fun B hB => ?_
  simp only [Try.ntmps8, enumD, List.map_nil, List.map_cons, List.length_map, Nat.zero_add, Nat.reduceAdd]
  refine sw_bnd_agg 0 0 rfl rfl fun hb0_0 => ?_
  simp only [D.bnd, List.length_map] at hb0_0
  refine sw_bnd_agg 0 1 rfl rfl fun hb0_1 => ?_
  simp only [D.bnd, List.length_map] at hb0_1
  repeat' first
    | (refine sw_rebaseAt 6 hB rfl fun B1 N hN => ?_; simp only [go_sem, Nat.reduceAdd, Nat.reduceMul, Nat.reduceLT, Nat.reduceLeDiff, Nat.reduceEqDiff, Nat.reduceBEq, Nat.reduceSub, ↓reduceIte, reduceCtorEq, LS.rebase, mapA, kdc])
    | (refine sw_markA1 hN (i := N + 1) (by omega) markCSystem_mk rfl rfl (ta_CSystem (N + 1) _ aCs) rfl rfl rfl rfl (by omega) (by (have : cntCSystem aCs ≤ 1048576 := (by first|(simp only [cntInt64S]; omega)|grind [szd]); have := mcle_CSystem aCs; omega)) (by simp) ⟨rfl, rfl, rfl⟩ (by simp) (by (simp only [eraseK, KeepE, KeepX, KeepL, Nat.reduceEqDiff, ↓reduceIte, and_true]; (repeat' first | exact trivial | exact keep_int _ _ _ _ | exact keep_bool _ _ _ | exact keep_box _ _ _ _ | exact keep_KD _ _ _ | exact keep_LT (lt_Int64S _ _) (by omega) | exact keep_LT (lt_RuleS _ _) (by omega) | exact keep_LT (lt_EqS _ _) (by omega) | exact keep_LT (lt_CRuleS _ _) (by omega) | refine And.intro ?_ ?_); done)) (by (simp only [eraseK, KeepE, KeepX, KeepL, Nat.reduceEqDiff, ↓reduceIte, and_true]; (repeat' first | exact trivial | exact keep_int _ _ _ _ | exact keep_bool _ _ _ | exact keep_box _ _ _ _ | exact keep_KD _ _ _ | exact keep_LT (lt_Int64S _ _) (by omega) | exact keep_LT (lt_RuleS _ _) (by omega) | exact keep_LT (lt_EqS _ _) (by omega) | exact keep_LT (lt_CRuleS _ _) (by omega) | refine And.intro ?_ ?_); done)) (by (simp only [eraseK, KeepE, KeepX, KeepL, Nat.reduceEqDiff, ↓reduceIte, and_true]; (repeat' first | exact trivial | exact keep_int _ _ _ _ | exact keep_bool _ _ _ | exact keep_box _ _ _ _ | exact keep_KD _ _ _ | exact keep_LT (lt_Int64S _ _) (by omega) | exact keep_LT (lt_RuleS _ _) (by omega) | exact keep_LT (lt_EqS _ _) (by omega) | exact keep_LT (lt_CRuleS _ _) (by omega) | refine And.intro ?_ ?_); done)) ?_; simp only [go_sem, Nat.reduceAdd, Nat.reduceMul, Nat.reduceLT, Nat.reduceLeDiff, Nat.reduceEqDiff, Nat.reduceBEq, Nat.reduceSub, ↓reduceIte, reduceCtorEq])
    | (refine sw_markA2 hN (i := N + 2) (by omega) markSystem_mk rfl rfl (ta_System (N + 2) _ (unR aCs)) rfl rfl rfl rfl (by omega) (by (have : cntCSystem aCs ≤ 1048576 := (by first|(simp only [cntInt64S]; omega)|grind [szd]); have := mcle_CSystem aCs; have := unR_mc aCs; omega)) (by simp) ⟨rfl, rfl, rfl⟩ (by simp) (by (simp only [eraseK, KeepE, KeepX, KeepL, Nat.reduceEqDiff, ↓reduceIte, and_true]; (repeat' first | exact trivial | exact keep_int _ _ _ _ | exact keep_bool _ _ _ | exact keep_box _ _ _ _ | exact keep_KD _ _ _ | exact keep_LT (lt_Int64S _ _) (by omega) | exact keep_LT (lt_RuleS _ _) (by omega) | exact keep_LT (lt_EqS _ _) (by omega) | exact keep_LT (lt_CRuleS _ _) (by omega) | refine And.intro ?_ ?_); done)) (by (simp only [eraseK, KeepE, KeepX, KeepL, Nat.reduceEqDiff, ↓reduceIte, and_true]; (repeat' first | exact trivial | exact keep_int _ _ _ _ | exact keep_bool _ _ _ | exact keep_box _ _ _ _ | exact keep_KD _ _ _ | exact keep_LT (lt_Int64S _ _) (by omega) | exact keep_LT (lt_RuleS _ _) (by omega) | exact keep_LT (lt_EqS _ _) (by omega) | exact keep_LT (lt_CRuleS _ _) (by omega) | refine And.intro ?_ ?_); done)) (by (simp only [eraseK, KeepE, KeepX, KeepL, Nat.reduceEqDiff, ↓reduceIte, and_true]; (repeat' first | exact trivial | exact keep_int _ _ _ _ | exact keep_bool _ _ _ | exact keep_box _ _ _ _ | exact keep_KD _ _ _ | exact keep_LT (lt_Int64S _ _) (by omega) | exact keep_LT (lt_RuleS _ _) (by omega) | exact keep_LT (lt_EqS _ _) (by omega) | exact keep_LT (lt_CRuleS _ _) (by omega) | refine And.intro ?_ ?_); done)) ?_; simp only [go_sem, Nat.reduceAdd, Nat.reduceMul, Nat.reduceLT, Nat.reduceLeDiff, Nat.reduceEqDiff, Nat.reduceBEq, Nat.reduceSub, ↓reduceIte, reduceCtorEq])
    | exact Bool.noConfusion h
    | refine sw_seq ?_
    | refine sw_block ?_
    | refine sw_skip ?_
    | refine sw_inBlock ?_
    | refine sw_go 0 kp8 fun K hK => ?_
    | refine fun (K : List Oper → LS → Prop) (hK : KOk S 0 _ _ _ K) => ?_
    | refine sw_goD kp8 (by kernel_rfl) fun K hK => ?_
    | ((first | refine runL_go ?_ | refine runQ_go ?_); simp (disch := (refine Om.mk ?_; omega)) only [go_sem, Nat.reduceAdd, Nat.reduceMul, Nat.reduceLT, Nat.reduceLeDiff, Nat.reduceEqDiff, Nat.reduceBEq, Nat.reduceSub, ↓reduceIte, reduceCtorEq])
    | (refine hK.nil ?_; clear hK K; simp only [go_sem, Nat.reduceAdd, Nat.reduceMul, Nat.reduceLT, Nat.reduceLeDiff, Nat.reduceEqDiff, Nat.reduceBEq, Nat.reduceSub, ↓reduceIte, reduceCtorEq])
    | (refine runG_fork rfl rfl rfl rfl rfl (fun h => ?_) (fun h => ?_) <;> (try simp (disch := (refine Om.mk ?_; omega)) only [go_sem, Nat.reduceAdd, Nat.reduceMul, Nat.reduceLT, Nat.reduceLeDiff, Nat.reduceEqDiff, Nat.reduceBEq, Nat.reduceSub, ↓reduceIte, reduceCtorEq] at h))
    | (refine runQG_fork rfl rfl rfl rfl rfl (fun h => ?_) (fun h => ?_) <;> (try simp (disch := (refine Om.mk ?_; omega)) only [go_sem, Nat.reduceAdd, Nat.reduceMul, Nat.reduceLT, Nat.reduceLeDiff, Nat.reduceEqDiff, Nat.reduceBEq, Nat.reduceSub, ↓reduceIte, reduceCtorEq] at h))
    | (refine hK.skip rfl (by simp only [dstOk, Nat.reduceLT]) ?_)
    | (refine sw_cond rfl (fun h => ?_) (fun h => ?_) <;> (try simp (disch := (refine Om.mk ?_; omega)) only [go_sem, Nat.reduceAdd, Nat.reduceMul, Nat.reduceLT, Nat.reduceLeDiff, Nat.reduceEqDiff, Nat.reduceBEq, Nat.reduceSub, ↓reduceIte, reduceCtorEq] at h))
    | (refine sw_exit rfl ?_)
    | (refine sw_loopEnd ?_)
    | ((first | refine sw_ret (ret0 ?_) | refine sw_ret ?_); simp (disch := (refine Om.mk ?_; omega)) only [go_sem, Nat.reduceAdd, Nat.reduceMul, Nat.reduceLT, Nat.reduceLeDiff, Nat.reduceEqDiff, Nat.reduceBEq, Nat.reduceSub, ↓reduceIte, reduceCtorEq, Try.results8])
    | refine hK.call rfl rfl rfl (szCSystem_fc _ _ (by repeat' (first|apply szd_rng|(constructor <;> omega)))) ⟨(by intro p hp; cases hp), rfl, rfl, (by simp only [dstOk, Nat.reduceLT])⟩ ?_
    | (refine hK.call rfl rfl rfl (FC.args (toCSystemL_fc [N + 1] (by simp) aCs (by first|(simp only [cntInt64S]; omega)|grind [szd])) ?le) ⟨(by intro p hp; cases hp), rfl, rfl, (by simp only [dstOk, Nat.reduceLT])⟩ ?_; case le => (simp only [go_sem, Nat.reduceAdd, Nat.reduceMul, Nat.reduceLT, Nat.reduceLeDiff, Nat.reduceEqDiff, Nat.reduceBEq, Nat.reduceSub, ↓reduceIte, reduceCtorEq]; (repeat' first | exact trivial | exact D.le.refl _ | exact KD_le rfl rfl | exact le_Int64SL _ _ | exact le_SigL _ _ | exact le_RuleL _ _ | exact le_RuleSL _ _ | exact le_SystemL _ _ | exact le_EqL _ _ | exact le_EqSL _ _ | exact le_CRuleL _ _ | exact le_CRuleSL _ _ | exact le_CSystemL _ _ | exact D.le.any | refine And.intro ?_ ?_); done))
    | (refine hK.call rfl rfl rfl (FC.args (eqCSystem_fc aCs aCs) ?le) ⟨(by intro p hp; cases hp), rfl, rfl, (by simp only [dstOk, Nat.reduceLT])⟩ ?_; case le => (simp only [go_sem, Nat.reduceAdd, Nat.reduceMul, Nat.reduceLT, Nat.reduceLeDiff, Nat.reduceEqDiff, Nat.reduceBEq, Nat.reduceSub, ↓reduceIte, reduceCtorEq]; (repeat' first | exact trivial | exact D.le.refl _ | exact KD_le rfl rfl | exact le_Int64SL _ _ | exact le_SigL _ _ | exact le_RuleL _ _ | exact le_RuleSL _ _ | exact le_SystemL _ _ | exact le_EqL _ _ | exact le_EqSL _ _ | exact le_CRuleL _ _ | exact le_CRuleSL _ _ | exact le_CSystemL _ _ | exact D.le.any | refine And.intro ?_ ?_); done))
    | refine hK.call rfl rfl rfl (heldA_fc heldSystem_mk (hf_System 1 (unR aCs)) (by omega) (by (have : cntCSystem aCs ≤ 1048576 := (by first|(simp only [cntInt64S]; omega)|grind [szd]); have := mcle_CSystem aCs; have := unR_mc aCs; omega))) ⟨(by intro p hp; cases hp), rfl, rfl, (by simp only [dstOk, Nat.reduceLT])⟩ ?_
    | (refine hK.call rfl rfl rfl (FC.args (eqSystem_fc (unR aCs) (unR aCs)) ?le) ⟨(by intro p hp; cases hp), rfl, rfl, (by simp only [dstOk, Nat.reduceLT])⟩ ?_; case le => (simp only [go_sem, Nat.reduceAdd, Nat.reduceMul, Nat.reduceLT, Nat.reduceLeDiff, Nat.reduceEqDiff, Nat.reduceBEq, Nat.reduceSub, ↓reduceIte, reduceCtorEq]; (repeat' first | exact trivial | exact D.le.refl _ | exact KD_le rfl rfl | exact le_Int64SL _ _ | exact le_SigL _ _ | exact le_RuleL _ _ | exact le_RuleSL _ _ | exact le_SystemL _ _ | exact le_EqL _ _ | exact le_EqSL _ _ | exact le_CRuleL _ _ | exact le_CRuleSL _ _ | exact le_CSystemL _ _ | exact D.le.any | refine And.intro ?_ ?_); done))
    | (refine hK.call rfl rfl rfl (FC.args (implUnravelled_fc [N + 2] (by simp) aCs) ?le) ⟨(by intro p hp; cases hp), rfl, rfl, (by simp only [dstOk, Nat.reduceLT])⟩ ?_; case le => (simp only [go_sem, Nat.reduceAdd, Nat.reduceMul, Nat.reduceLT, Nat.reduceLeDiff, Nat.reduceEqDiff, Nat.reduceBEq, Nat.reduceSub, ↓reduceIte, reduceCtorEq]; (repeat' first | exact trivial | exact D.le.refl _ | exact KD_le rfl rfl | exact le_Int64SL _ _ | exact le_SigL _ _ | exact le_RuleL _ _ | exact le_RuleSL _ _ | exact le_SystemL _ _ | exact le_EqL _ _ | exact le_EqSL _ _ | exact le_CRuleL _ _ | exact le_CRuleSL _ _ | exact le_CSystemL _ _ | exact D.le.any | refine And.intro ?_ ?_); done))
    | refine hK.call rfl rfl rfl (toCSystem_fc _ (by first|(simp only [cntInt64S]; omega)|grind [szd])) ⟨(by intro p hp; cases hp), rfl, rfl, (by simp only [dstOk, Nat.reduceLT])⟩ ?_
    | refine hK.call rfl rfl rfl (specUnravelled_fc aCs) ⟨(by intro p hp; cases hp), rfl, rfl, (by simp only [dstOk, Nat.reduceLT])⟩ ?_
    | (refine hK.fork rfl rfl rfl (fun h => ?_) (fun h => ?_) <;> (try simp (disch := (refine Om.mk ?_; omega)) only [go_sem, Nat.reduceAdd, Nat.reduceMul, Nat.reduceLT, Nat.reduceLeDiff, Nat.reduceEqDiff, Nat.reduceBEq, Nat.reduceSub, ↓reduceIte, reduceCtorEq] at h))
    | (with_reducible refine And.intro (by first | omega | (simp only [List.length_append, List.length_take, List.length_drop, List.length_cons, List.length_nil]; omega)) ?_)
    | ((with_reducible refine And.intro ?_ ?_); · first | (intro x hx; subst hx; rfl) | exact upR_mem fun _ _ => rfl | exact mapR_mem fun _ _ => rfl | (intro x; refine And.intro ?_ ?_ <;> (intros; subst_vars; rfl)))
    | fail
  all_goals first | omega | exact h trivial | exact absurd rfl h | exact absurd Iff.rfl h | (simp at h; done)
end
theorem own : ownKnob Try.prog.godebug = none := by kernel_rfl
theorem laidOut : laidOutB Try.prog = true := by kernel_rfl
theorem wc_Int64S {cs : List D} (h : WC S 22 cs) : ∃ xs : List Int, cs = [.sl .any (xs.map (.int .i64))] ∧ RngInt64S xs := wc_ints rfl rfl h
theorem wc_Sig {cs : List D} (h : WC S 24 cs) : ∃ x : List Int, cs = [.sl .any (x.map (.int .i64))] ∧ RngSig x := by
  obtain ⟨css, rfl, hl, hc⟩ := wc_st (fs := [(0, 22)]) rfl h
  match css, hl with
  | [c0], _ =>
    obtain ⟨x0, rfl, h0⟩ := wc_Int64S (hc 0 _ c0 rfl rfl)
    exact ⟨x0, rfl, h0⟩
theorem wc_Eq {cs : List D} (h : WC S 73 cs) : ∃ x : EqT, cs = [.sl .any (x.l.map (.int .i64)), .sl .any (x.r.map (.int .i64))] ∧ RngEq x := by
  obtain ⟨css, rfl, hl, hc⟩ := wc_st (fs := [(0, 22), (1, 22)]) rfl h
  match css, hl with
  | [c0, c1], _ =>
    obtain ⟨x0, rfl, h0⟩ := wc_Int64S (hc 0 _ c0 rfl rfl)
    obtain ⟨x1, rfl, h1⟩ := wc_Int64S (hc 1 _ c1 rfl rfl)
    exact ⟨⟨x0, x1⟩, rfl, ⟨h0, h1⟩⟩
theorem wc_EqS {cs : List D} (h : WC S 51 cs) : ∃ xs : List EqT, cs = [.sl .any (xs.map EqD)] ∧ RngEqS xs := by
  refine wc_list rfl tab73 h EqD RngEq fun ds _ hw => ?_
  obtain ⟨x, rfl, hx⟩ := wc_Eq hw
  exact ⟨x, rfl, hx⟩
theorem wc_CRule {cs : List D} (h : WC S 238 cs) : ∃ x : CRuleT, cs = [.sl .any (x.l.map (.int .i64)), .sl .any (x.r.map (.int .i64)), .sl .any (x.conds.map EqD)] ∧ RngCRule x := by
  obtain ⟨css, rfl, hl, hc⟩ := wc_st (fs := [(0, 22), (1, 22), (2, 51)]) rfl h
  match css, hl with
  | [c0, c1, c2], _ =>
    obtain ⟨x0, rfl, h0⟩ := wc_Int64S (hc 0 _ c0 rfl rfl)
    obtain ⟨x1, rfl, h1⟩ := wc_Int64S (hc 1 _ c1 rfl rfl)
    obtain ⟨x2, rfl, h2⟩ := wc_EqS (hc 2 _ c2 rfl rfl)
    exact ⟨⟨x0, x1, x2⟩, rfl, ⟨h0, h1, h2⟩⟩
theorem wc_CRuleS {cs : List D} (h : WC S 86 cs) : ∃ xs : List CRuleT, cs = [.sl .any (xs.map CRuleD)] ∧ RngCRuleS xs := by
  refine wc_list rfl tab238 h CRuleD RngCRule fun ds _ hw => ?_
  obtain ⟨x, rfl, hx⟩ := wc_CRule hw
  exact ⟨x, rfl, hx⟩
theorem wc_CSystem {cs : List D} (h : WC S 88 cs) : ∃ x : CSystemT, cs = [.sl .any (x.sig.map (.int .i64)), .sl .any (x.rules.map CRuleD)] ∧ RngCSystem x := by
  obtain ⟨css, rfl, hl, hc⟩ := wc_st (fs := [(0, 24), (1, 86)]) rfl h
  match css, hl with
  | [c0, c1], _ =>
    obtain ⟨x0, rfl, h0⟩ := wc_Sig (hc 0 _ c0 rfl rfl)
    obtain ⟨x1, rfl, h1⟩ := wc_CRuleS (hc 1 _ c1 rfl rfl)
    exact ⟨⟨x0, x1⟩, rfl, ⟨h0, h1⟩⟩
set_option maxRecDepth 100000 in
theorem fnExactUnravelled_lifted (os : Os) (started : os.Started) (H : Type) (enc : TypeId × Value → H) :
    ReturnsInHanded {} Try.checked os 8 .any (Rows.fnExactUnravelledSpec.pre6 enc Try.prog Try.f8 Rows.fnExactUnravelledRow.domain false) (Rows.fnExactUnravelledSpec.post enc Try.prog Try.f8 false true false false) := by
  refine returnsInHanded_of_change (C := Try.checked) own started (by kernel_rfl) Try.func8
    (ChangeSpec.witness6 (enc := enc) (C := Try.checked) false ⟨#[], #[.agg #[.slice none 0 0, .slice none 0 0]], []⟩ 12 (by kernel_rfl) (by kernel_rfl) (by kernel_rfl) (by kernel_rfl)) ?_
  intro W base args ds gs before hval hW _ _
  refine law_contract S (fn := Try.f8) (ts := [88]) (tb := 4) (m := 20) laidOut (by kernel_rfl) (of_decide_eq_true (by kernel_rfl)) (of_decide_eq_true (by kernel_rfl)) (by kernel_rfl) (by kernel_rfl) rfl (fun ds hd => ?_) (fun al hl h => ?_) hval hW
  · match ds, hd with
    | [_], _ => rfl
  · match al, hl with
    | [a0], _ =>
      obtain ⟨i0, c0, e0, _, w0, rfl⟩ := h 0 _ a0 rfl rfl
      cases tab88.symm.trans e0
      obtain ⟨x0, rfl, r0⟩ := wc_CSystem w0
      exact fnExactUnravelled_fc x0 r0
theorem and_t {a b : Bool} (ha : a = true) (hb : b = true) : (a && b) = true := by rw [ha, hb]; rfl
set_option maxRecDepth 100000 in
theorem jf_heard : Try.pinned.checked.prog.stopsHeard = true := by kernel_rfl
set_option maxRecDepth 100000 in
theorem jf_enter : Try.pinned.checked.prog.mayEnter = true := by kernel_rfl
set_option maxRecDepth 100000 in
theorem jf_lift : (Rows.fnExactUnravelledRow.lifted == Try.pinned.checked.prog.liftsFinal) = true := by kernel_rfl
set_option maxRecDepth 100000 in
theorem jf_make : (Try.pinned.checked.prog.make == some Rows.fnExactUnravelledRow.make) = true := by kernel_rfl
set_option maxRecDepth 100000 in
theorem jf_all : joinedFacts Try.pinned.checked.prog 8 Try.f8 Rows.fnExactUnravelledSpec Rows.fnExactUnravelledRow = true := by
  unfold joinedFacts
  exact and_t (and_t (and_t (and_t (and_t (and_t (and_t (and_t (by kernel_rfl) jf_heard) jf_enter) jf_lift) jf_make) (by kernel_rfl)) (by kernel_rfl)) (by kernel_rfl)) (by kernel_rfl)
set_option maxRecDepth 100000 in
theorem fnExactUnravelled_holds : Rows.FnExactUnravelledSaid :=
  OpenClaim.holds_of_wide 8 Try.f8 rfl rfl rfl rfl rfl rfl rfl ⟨rfl, rfl, rfl, rfl, rfl⟩ rfl rfl rfl rfl rfl (by kernel_rfl) Try.func8 jf_all
    (of_decide_eq_true (by kernel_rfl)) (by unfold Func.isWrapper; first | (rw [if_pos (by decide +kernel)]; kernel_rfl) | (rw [if_neg (by decide +kernel)]; exact ⟨rfl, rfl⟩))
    (fun os started H enc _ => fnExactUnravelled_lifted os started H enc)
end Go.Proofs.Ytgbcnhbmfjkhmaa
