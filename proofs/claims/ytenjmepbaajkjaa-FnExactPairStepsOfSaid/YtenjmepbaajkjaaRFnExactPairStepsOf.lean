/-
  FnExactPairStepsOf returns true, whatever its arguments: its contract, and its row (no condition).
-/
import Derived.Test.YtenjmepbaajkjaaRows
import Derived.Test.YtenjmepbaajkjaaHFnExactPairStepsOf
import Derived.Test.YtenjmepbaajkjaaA29p
import Derived.Test.YtenjmepbaajkjaaLFnExactPairStepsOf
import Derived.Test.YtenjmepbaajkjaaLgK7
import Derived.Test.YtenjmepbaajkjaaLgK6
namespace Go.Proofs.Ytenjmepbaajkjaa
open Go Go.Lg Go.RowKit Go.ChangeShapes Go.WideShapes Go.ChangeAt
set_option linter.unusedVariables false
set_option linter.unusedSimpArgs false
set_option maxHeartbeats 4000000
set_option maxRecDepth 100000
def RngInt64 (x : Int) : Prop := In64 x
def RngInt64S (xs : List Int) : Prop := ∀ x ∈ xs, RngInt64 x
section
attribute [local irreducible] SW runL runQ runG runQG FC Ret1
def kp7 : List (Nat × List Nat) := [(0, [0]), (1, [0, 15]), (2, [2]), (3, [0, 3, 4]), (4, [0, 3, 4, 5]), (5, [0, 3, 4, 5, 6, 7]), (6, [0, 3, 4, 5, 6, 7, 37]), (7, [2]), (8, [0, 3, 4, 5, 6, 7, 42]), (9, [2]), (10, [0, 3, 4, 5, 6, 7, 8]), (11, [0, 3, 4, 6, 7, 8]), (12, [0, 3, 4, 6, 58]), (13, [2]), (14, [0, 3, 4, 6, 9]), (15, [0, 3, 4, 6, 9]), (16, [0, 3, 4, 6, 9, 10]), (17, [0, 3, 4, 6, 9, 10]), (18, [0, 3, 4, 6, 9, 10, 66]), (19, [2]), (20, [0, 3, 4, 6, 9, 69]), (21, [2]), (22, [3, 4, 6, 9, 11, 12]), (23, [6, 9, 84]), (24, [2]), (25, [6, 9, 10]), (26, [9, 10]), (27, [9, 10, 89]), (28, [2]), (29, [92]), (30, [2]), (31, [2])]
attribute [go_sem] kp7
theorem fnExactPairStepsOf_fc (aNums : List Int) (haNums : RngInt64S aNums) : FC S 7 [] [] [] [.sl .any (aNums.map (.int .i64))] (.bool true) [] [] := by
  refine fc_bodyT Try.func7 rfl (by kernel_rfl) (by simp [Try.f7]) rfl fun B hB => ?_
  simp only [Try.ntmps7, enumD, List.map_nil, List.map_cons, List.length_map, Nat.zero_add, Nat.reduceAdd]
  refine sw_bnd 0 rfl fun hb0 => ?_
  simp only [D.bnd, List.length_map] at hb0
  repeat' first
    | (refine sw_rebaseAt 4 hB rfl fun B1 N hN => ?_; simp only [go_sem, Nat.reduceAdd, Nat.reduceMul, Nat.reduceLT, Nat.reduceLeDiff, Nat.reduceEqDiff, Nat.reduceBEq, Nat.reduceSub, ↓reduceIte, reduceCtorEq, LS.rebase, mapA, kdc])
    | (refine sw_markS1 hN (i := N + 1) (by omega) markInt64S_mk rfl (lt_Int64S [N + 1] aNums) rfl (by omega) (by (have : cntInt64S aNums ≤ 1048576 := (by first|(simp only [cntInt64S]; omega)|grind [szd]); have := mcle_Int64S aNums; omega)) (by simp) ⟨rfl, rfl, rfl⟩ (by simp) (by (simp only [eraseK, KeepE, KeepX, KeepL, Nat.reduceEqDiff, ↓reduceIte, and_true]; repeat' first | exact trivial | exact keep_int _ _ _ _ | exact keep_bool _ _ _ | exact keep_box _ _ _ _ | exact keep_KD _ _ _ | exact keep_LT (lt_Int64S _ _) (by omega) | exact keep_LT (lt_PolyS _ _) (by omega) | exact keep_LT (lt_PairStepS _ _) (by omega) | refine And.intro ?_ ?_)) (by (simp only [eraseK, KeepE, KeepX, KeepL, Nat.reduceEqDiff, ↓reduceIte, and_true]; repeat' first | exact trivial | exact keep_int _ _ _ _ | exact keep_bool _ _ _ | exact keep_box _ _ _ _ | exact keep_KD _ _ _ | exact keep_LT (lt_Int64S _ _) (by omega) | exact keep_LT (lt_PolyS _ _) (by omega) | exact keep_LT (lt_PairStepS _ _) (by omega) | refine And.intro ?_ ?_)) (by (simp only [eraseK, KeepE, KeepX, KeepL, Nat.reduceEqDiff, ↓reduceIte, and_true]; repeat' first | exact trivial | exact keep_int _ _ _ _ | exact keep_bool _ _ _ | exact keep_box _ _ _ _ | exact keep_KD _ _ _ | exact keep_LT (lt_Int64S _ _) (by omega) | exact keep_LT (lt_PolyS _ _) (by omega) | exact keep_LT (lt_PairStepS _ _) (by omega) | refine And.intro ?_ ?_)) ?_; simp only [go_sem, Nat.reduceAdd, Nat.reduceMul, Nat.reduceLT, Nat.reduceLeDiff, Nat.reduceEqDiff, Nat.reduceBEq, Nat.reduceSub, ↓reduceIte, reduceCtorEq])
    | (refine sw_markS2 hN (i := N + 2) (by omega) markPairStepS_mk rfl (lt_PairStepS [N + 2] (pairR aNums)) rfl (by omega) (by (have : cntInt64S aNums ≤ 1048576 := (by first|(simp only [cntInt64S]; omega)|grind [szd]); have := mcle_Int64S aNums; have := pairR_mc aNums; omega)) (by simp) ⟨rfl, rfl, rfl⟩ (by simp) (by simp) (by (simp only [eraseK, KeepE, KeepX, KeepL, Nat.reduceEqDiff, ↓reduceIte, and_true]; repeat' first | exact trivial | exact keep_int _ _ _ _ | exact keep_bool _ _ _ | exact keep_box _ _ _ _ | exact keep_KD _ _ _ | exact keep_LT (lt_Int64S _ _) (by omega) | exact keep_LT (lt_PolyS _ _) (by omega) | exact keep_LT (lt_PairStepS _ _) (by omega) | refine And.intro ?_ ?_)) (by (simp only [eraseK, KeepE, KeepX, KeepL, Nat.reduceEqDiff, ↓reduceIte, and_true]; repeat' first | exact trivial | exact keep_int _ _ _ _ | exact keep_bool _ _ _ | exact keep_box _ _ _ _ | exact keep_KD _ _ _ | exact keep_LT (lt_Int64S _ _) (by omega) | exact keep_LT (lt_PolyS _ _) (by omega) | exact keep_LT (lt_PairStepS _ _) (by omega) | refine And.intro ?_ ?_)) (by (simp only [eraseK, KeepE, KeepX, KeepL, Nat.reduceEqDiff, ↓reduceIte, and_true]; repeat' first | exact trivial | exact keep_int _ _ _ _ | exact keep_bool _ _ _ | exact keep_box _ _ _ _ | exact keep_KD _ _ _ | exact keep_LT (lt_Int64S _ _) (by omega) | exact keep_LT (lt_PolyS _ _) (by omega) | exact keep_LT (lt_PairStepS _ _) (by omega) | refine And.intro ?_ ?_)) ?_; simp only [go_sem, Nat.reduceAdd, Nat.reduceMul, Nat.reduceLT, Nat.reduceLeDiff, Nat.reduceEqDiff, Nat.reduceBEq, Nat.reduceSub, ↓reduceIte, reduceCtorEq])
    | exact Bool.noConfusion h
    | refine sw_seq ?_
    | refine sw_block ?_
    | refine sw_skip ?_
    | refine sw_inBlock ?_
    | refine sw_go 0 kp7 fun K hK => ?_
    | refine fun (K : List Oper → LS → Prop) (hK : KOk S 0 _ _ _ K) => ?_
    | refine sw_goD kp7 (by kernel_rfl) fun K hK => ?_
    | ((first | refine runL_go ?_ | refine runQ_go ?_); simp (disch := (refine Om.mk ?_; omega)) only [go_sem, Nat.reduceAdd, Nat.reduceMul, Nat.reduceLT, Nat.reduceLeDiff, Nat.reduceEqDiff, Nat.reduceBEq, Nat.reduceSub, ↓reduceIte, reduceCtorEq])
    | (refine hK.nil ?_; clear hK K; simp only [go_sem, Nat.reduceAdd, Nat.reduceMul, Nat.reduceLT, Nat.reduceLeDiff, Nat.reduceEqDiff, Nat.reduceBEq, Nat.reduceSub, ↓reduceIte, reduceCtorEq])
    | (refine runG_fork rfl rfl rfl rfl rfl (fun h => ?_) (fun h => ?_) <;> (try simp (disch := (refine Om.mk ?_; omega)) only [go_sem, Nat.reduceAdd, Nat.reduceMul, Nat.reduceLT, Nat.reduceLeDiff, Nat.reduceEqDiff, Nat.reduceBEq, Nat.reduceSub, ↓reduceIte, reduceCtorEq] at h))
    | (refine runQG_fork rfl rfl rfl rfl rfl (fun h => ?_) (fun h => ?_) <;> (try simp (disch := (refine Om.mk ?_; omega)) only [go_sem, Nat.reduceAdd, Nat.reduceMul, Nat.reduceLT, Nat.reduceLeDiff, Nat.reduceEqDiff, Nat.reduceBEq, Nat.reduceSub, ↓reduceIte, reduceCtorEq] at h))
    | (refine hK.skip rfl (by simp only [dstOk, Nat.reduceLT]) ?_)
    | (refine sw_cond rfl (fun h => ?_) (fun h => ?_) <;> (try simp (disch := (refine Om.mk ?_; omega)) only [go_sem, Nat.reduceAdd, Nat.reduceMul, Nat.reduceLT, Nat.reduceLeDiff, Nat.reduceEqDiff, Nat.reduceBEq, Nat.reduceSub, ↓reduceIte, reduceCtorEq] at h))
    | (refine sw_exit rfl ?_)
    | (refine sw_loopEnd ?_)
    | ((first | refine sw_ret (ret0 ?_) | refine sw_ret ?_); simp (disch := (refine Om.mk ?_; omega)) only [go_sem, Nat.reduceAdd, Nat.reduceMul, Nat.reduceLT, Nat.reduceLeDiff, Nat.reduceEqDiff, Nat.reduceBEq, Nat.reduceSub, ↓reduceIte, reduceCtorEq, Try.results7])
    | refine hK.call rfl rfl rfl (FC.args (toInt64SL_fc [N + 1] (by simp) .any aNums (by first|(simp only [cntInt64S]; omega)|grind [szd])) (by (simp only [go_sem, Nat.reduceAdd, Nat.reduceMul, Nat.reduceLT, Nat.reduceLeDiff, Nat.reduceEqDiff, Nat.reduceBEq, Nat.reduceSub, ↓reduceIte, reduceCtorEq]; repeat' first | exact trivial | exact D.le.refl _ | exact KD_le rfl rfl | exact le_Int64SL _ _ | exact le_PolyL _ _ | exact le_PolySL _ _ | exact le_PairStepL _ _ | exact le_PairStepSL _ _ | exact D.le.any | refine And.intro ?_ ?_))) ⟨(by intro p hp; cases hp), rfl, rfl, (by simp only [dstOk, Nat.reduceLT])⟩ ?_
    | refine hK.call rfl rfl rfl (FC.args (eqInt64S_fc .any .any aNums aNums) (by (simp only [go_sem, Nat.reduceAdd, Nat.reduceMul, Nat.reduceLT, Nat.reduceLeDiff, Nat.reduceEqDiff, Nat.reduceBEq, Nat.reduceSub, ↓reduceIte, reduceCtorEq]; repeat' first | exact trivial | exact D.le.refl _ | exact KD_le rfl rfl | exact le_Int64SL _ _ | exact le_PolyL _ _ | exact le_PolySL _ _ | exact le_PairStepL _ _ | exact le_PairStepSL _ _ | exact D.le.any | refine And.intro ?_ ?_))) ⟨(by intro p hp; cases hp), rfl, rfl, (by simp only [dstOk, Nat.reduceLT])⟩ ?_
    | refine hK.call rfl rfl rfl (held_fc heldPairStepS_mk (by omega) (by (have : cntInt64S aNums ≤ 1048576 := (by first|(simp only [cntInt64S]; omega)|grind [szd]); have := mcle_Int64S aNums; have := pairR_mc aNums; omega))) ⟨(by intro p hp; cases hp), rfl, rfl, (by simp only [dstOk, Nat.reduceLT])⟩ ?_
    | refine hK.call rfl rfl rfl (FC.args (eqPairStepS_fc .any .any (pairR aNums) (pairR aNums)) (by (simp only [go_sem, Nat.reduceAdd, Nat.reduceMul, Nat.reduceLT, Nat.reduceLeDiff, Nat.reduceEqDiff, Nat.reduceBEq, Nat.reduceSub, ↓reduceIte, reduceCtorEq]; repeat' first | exact trivial | exact D.le.refl _ | exact KD_le rfl rfl | exact le_Int64SL _ _ | exact le_PolyL _ _ | exact le_PolySL _ _ | exact le_PairStepL _ _ | exact le_PairStepSL _ _ | exact D.le.any | refine And.intro ?_ ?_))) ⟨(by intro p hp; cases hp), rfl, rfl, (by simp only [dstOk, Nat.reduceLT])⟩ ?_
    | refine hK.call rfl rfl rfl (FC.args (implPairStepsOf_fc [N + 2] (by simp) _ aNums) (by (simp only [go_sem, Nat.reduceAdd, Nat.reduceMul, Nat.reduceLT, Nat.reduceLeDiff, Nat.reduceEqDiff, Nat.reduceBEq, Nat.reduceSub, ↓reduceIte, reduceCtorEq]; repeat' first | exact trivial | exact D.le.refl _ | exact KD_le rfl rfl | exact le_Int64SL _ _ | exact le_PolyL _ _ | exact le_PolySL _ _ | exact le_PairStepL _ _ | exact le_PairStepSL _ _ | exact D.le.any | refine And.intro ?_ ?_))) ⟨(by intro p hp; cases hp), rfl, rfl, (by simp only [dstOk, Nat.reduceLT])⟩ ?_
    | refine hK.call rfl rfl rfl (toInt64S_fc _ _ (by first|(simp only [cntInt64S]; omega)|grind [szd])) ⟨(by intro p hp; cases hp), rfl, rfl, (by simp only [dstOk, Nat.reduceLT])⟩ ?_
    | refine hK.call rfl rfl rfl (specPairStepsOf_fc _ aNums) ⟨(by intro p hp; cases hp), rfl, rfl, (by simp only [dstOk, Nat.reduceLT])⟩ ?_
    | (refine hK.fork rfl rfl rfl (fun h => ?_) (fun h => ?_) <;> (try simp (disch := (refine Om.mk ?_; omega)) only [go_sem, Nat.reduceAdd, Nat.reduceMul, Nat.reduceLT, Nat.reduceLeDiff, Nat.reduceEqDiff, Nat.reduceBEq, Nat.reduceSub, ↓reduceIte, reduceCtorEq] at h))
    | (with_reducible refine And.intro (by first | omega | (simp only [List.length_append, List.length_take, List.length_drop, List.length_cons, List.length_nil]; omega)) ?_)
    | ((with_reducible refine And.intro ?_ ?_); · first | (intro x hx; subst hx; rfl) | exact upR_mem fun _ _ => rfl | exact mapR_mem fun _ _ => rfl | (intro x; refine And.intro ?_ ?_ <;> (intros; subst_vars; rfl)))
    | fail
  all_goals first | omega | exact h trivial | exact absurd rfl h | exact absurd Iff.rfl h | (simp at h; done)
end
theorem own : ownKnob Try.prog.godebug = none := by kernel_rfl
theorem laidOut : laidOutB Try.prog = true := by kernel_rfl
theorem wc_Int64S {cs : List D} (h : WC S 22 cs) : ∃ xs : List Int, cs = [.sl .any (xs.map (.int .i64))] ∧ RngInt64S xs := wc_ints rfl rfl h
set_option maxRecDepth 100000 in
theorem fnExactPairStepsOf_lifted (os : Os) (started : os.Started) (H : Type) (enc : TypeId × Value → H) :
    ReturnsInHanded {} Try.checked os 7 .any (Rows.fnExactPairStepsOfSpec.pre6 enc Try.prog Try.f7 Rows.fnExactPairStepsOfRow.domain false) (Rows.fnExactPairStepsOfSpec.post enc Try.prog Try.f7 false true false false) := by
  refine returnsInHanded_of_change (C := Try.checked) own started (by kernel_rfl) Try.func7
    (ChangeSpec.witness6 (enc := enc) (C := Try.checked) false ⟨#[], #[.slice none 0 0], []⟩ 12 (by kernel_rfl) (by kernel_rfl) (by kernel_rfl) (by kernel_rfl)) ?_
  intro W base args ds gs before hval hW _ _
  refine law_contract S (fn := Try.f7) (ts := [22]) (tb := 4) (m := 20) laidOut (by kernel_rfl) (of_decide_eq_true (by kernel_rfl)) (of_decide_eq_true (by kernel_rfl)) (by kernel_rfl) (by kernel_rfl) rfl (fun ds hd => ?_) (fun al hl h => ?_) hval hW
  · match ds, hd with
    | [_], _ => rfl
  · match al, hl with
    | [a0], _ =>
      obtain ⟨i0, c0, e0, _, w0, rfl⟩ := h 0 _ a0 rfl rfl
      cases tab22.symm.trans e0
      obtain ⟨x0, rfl, r0⟩ := wc_Int64S w0
      exact fnExactPairStepsOf_fc x0 r0
theorem and_t {a b : Bool} (ha : a = true) (hb : b = true) : (a && b) = true := by rw [ha, hb]; rfl
set_option maxRecDepth 100000 in
theorem jf_heard : Try.pinned.checked.prog.stopsHeard = true := by kernel_rfl
set_option maxRecDepth 100000 in
theorem jf_enter : Try.pinned.checked.prog.mayEnter = true := by kernel_rfl
set_option maxRecDepth 100000 in
theorem jf_lift : (Rows.fnExactPairStepsOfRow.lifted == Try.pinned.checked.prog.liftsFinal) = true := by kernel_rfl
set_option maxRecDepth 100000 in
theorem jf_make : (Try.pinned.checked.prog.make == some Rows.fnExactPairStepsOfRow.make) = true := by kernel_rfl
set_option maxRecDepth 100000 in
theorem jf_all : joinedFacts Try.pinned.checked.prog 7 Try.f7 Rows.fnExactPairStepsOfSpec Rows.fnExactPairStepsOfRow = true := by
  unfold joinedFacts
  exact and_t (and_t (and_t (and_t (and_t (and_t (and_t (and_t (by kernel_rfl) jf_heard) jf_enter) jf_lift) jf_make) (by kernel_rfl)) (by kernel_rfl)) (by kernel_rfl)) (by kernel_rfl)
set_option maxRecDepth 100000 in
theorem fnExactPairStepsOf_holds : Rows.FnExactPairStepsOfSaid :=
  OpenClaim.holds_of_wide 7 Try.f7 rfl rfl rfl rfl rfl rfl rfl ⟨rfl, rfl, rfl, rfl, rfl⟩ rfl rfl rfl rfl rfl (by kernel_rfl) Try.func7 jf_all
    (of_decide_eq_true (by kernel_rfl)) (by unfold Func.isWrapper; first | (rw [if_pos (by decide +kernel)]; kernel_rfl) | (rw [if_neg (by decide +kernel)]; exact ⟨rfl, rfl⟩))
    (fun os started H enc _ => fnExactPairStepsOf_lifted os started H enc)
end Go.Proofs.Ytenjmepbaajkjaa
