/-
  FnExactGeneralisedAll returns true, whatever its arguments: its contract, and its row (no condition).
-/
import Derived.Test.YtgbcnhbmfjkhmaaRows
import Derived.Test.YtgbcnhbmfjkhmaaHFnExactGeneralisedAll
import Derived.Test.YtgbcnhbmfjkhmaaA05o
import Derived.Test.YtgbcnhbmfjkhmaaLFnExactGeneralisedAll
import Derived.Test.YtgbcnhbmfjkhmaaLgK7
import Derived.Test.YtgbcnhbmfjkhmaaLgK6
namespace Go.Proofs.Ytgbcnhbmfjkhmaa
open Go Go.Lg Go.RowKit Go.ChangeShapes Go.WideShapes Go.ChangeAt
set_option linter.unusedVariables false
set_option linter.unusedSimpArgs false
set_option maxHeartbeats 4000000
set_option maxRecDepth 100000
def RngInt64 (x : Int) : Prop := In64 x
def RngInt64S (xs : List Int) : Prop := ∀ x ∈ xs, RngInt64 x
def RngSig (x : List Int) : Prop := RngInt64S x
def RngInt64SS (xs : List (List Int)) : Prop := ∀ x ∈ xs, RngInt64S x
section
attribute [local irreducible] SW runL runQ runG runQG FC Ret1
def kp4 : List (Nat × List Nat) := [(0, [1, 2]), (1, [1, 2, 5]), (2, [1, 2, 5]), (3, [1, 2, 5, 18]), (4, [4]), (5, [1, 2, 5]), (6, [1, 2, 23]), (7, [4]), (8, [1, 2, 6]), (9, [1, 2, 6, 7]), (10, [1, 2, 6, 7, 8]), (11, [1, 2, 6, 7, 8, 9]), (12, [1, 2, 6, 7, 8, 9, 39]), (13, [4]), (14, [1, 2, 6, 7, 8, 9, 44]), (15, [4]), (16, [1, 2, 6, 7, 8, 9, 49]), (17, [4]), (18, [1, 2, 6, 7, 8, 9, 10]), (19, [1, 2, 6, 8, 9, 10]), (20, [1, 2, 6, 9, 10]), (21, [1, 2, 6, 9, 63]), (22, [4]), (23, [1, 2, 6, 9, 11]), (24, [1, 2, 6, 9, 11]), (25, [1, 2, 6, 9, 11, 12]), (26, [1, 2, 6, 9, 11, 12]), (27, [1, 2, 6, 9, 11, 12, 71]), (28, [4]), (29, [1, 2, 6, 9, 11, 74]), (30, [4]), (31, [6, 9, 11, 13]), (32, [9, 11, 83]), (33, [4]), (34, [9, 11, 12]), (35, [11, 12]), (36, [11, 12, 88]), (37, [4]), (38, [91]), (39, [4]), (40, [4])]
attribute [go_sem] kp4
theorem fnExactGeneralisedAll_fc (aSig : List Int) (aTs : List (List Int)) (haSig : RngSig aSig) (haTs : RngInt64SS aTs) : FC S 4 [] [] [] [SigD aSig, .sl .any (aTs.map IntsD)] (.bool true) [] [] := by
  refine fc_bodyT Try.func4 rfl (by kernel_rfl) (by simp [Try.f4]) rfl fun B hB => ?_
  simp only [Try.ntmps4, enumD, List.map_nil, List.map_cons, List.length_map, Nat.zero_add, Nat.reduceAdd]
  refine sw_bnd_agg 0 0 rfl rfl fun hb0_0 => ?_
  simp only [D.bnd, List.length_map] at hb0_0
  refine sw_bnd 1 rfl fun hb1 => ?_
  simp only [D.bnd, List.length_map] at hb1
  repeat' first
    | (refine sw_rebaseAt 9 hB rfl fun B1 N hN => ?_; simp only [go_sem, Nat.reduceAdd, Nat.reduceMul, Nat.reduceLT, Nat.reduceLeDiff, Nat.reduceEqDiff, Nat.reduceBEq, Nat.reduceSub, ↓reduceIte, reduceCtorEq, LS.rebase, mapA, kdc])
    | (refine sw_markA1 hN (i := N + 1) (by omega) markSig_mk rfl rfl (ta_Sig (N + 1) _ aSig) rfl rfl rfl rfl (by omega) (by (have : cntSig aSig ≤ 1048576 := (by first|(simp only [cntInt64S]; omega)|grind [szd]); have := mcle_Sig aSig; have : cntInt64SS aTs ≤ 1048576 := (by first|(simp only [cntInt64S]; omega)|grind [szd]); have := mcle_Int64SS aTs; omega)) (by simp) ⟨rfl, rfl, rfl⟩ (by simp) (by (simp only [eraseK, KeepE, KeepX, KeepL, Nat.reduceEqDiff, ↓reduceIte, and_true]; (repeat' first | exact trivial | exact keep_int _ _ _ _ | exact keep_bool _ _ _ | exact keep_box _ _ _ _ | exact keep_KD _ _ _ | exact keep_LT (lt_Int64S _ _) (by omega) | exact keep_LT (lt_Int64SS _ _) (by omega) | refine And.intro ?_ ?_); done)) (by (simp only [eraseK, KeepE, KeepX, KeepL, Nat.reduceEqDiff, ↓reduceIte, and_true]; (repeat' first | exact trivial | exact keep_int _ _ _ _ | exact keep_bool _ _ _ | exact keep_box _ _ _ _ | exact keep_KD _ _ _ | exact keep_LT (lt_Int64S _ _) (by omega) | exact keep_LT (lt_Int64SS _ _) (by omega) | refine And.intro ?_ ?_); done)) (by (simp only [eraseK, KeepE, KeepX, KeepL, Nat.reduceEqDiff, ↓reduceIte, and_true]; (repeat' first | exact trivial | exact keep_int _ _ _ _ | exact keep_bool _ _ _ | exact keep_box _ _ _ _ | exact keep_KD _ _ _ | exact keep_LT (lt_Int64S _ _) (by omega) | exact keep_LT (lt_Int64SS _ _) (by omega) | refine And.intro ?_ ?_); done)) ?_; simp only [go_sem, Nat.reduceAdd, Nat.reduceMul, Nat.reduceLT, Nat.reduceLeDiff, Nat.reduceEqDiff, Nat.reduceBEq, Nat.reduceSub, ↓reduceIte, reduceCtorEq])
    | (refine sw_markS1 hN (i := N + 2) (by omega) markInt64SS_mk rfl (lt_Int64SS [N + 2] aTs) rfl (by omega) (by (have : cntSig aSig ≤ 1048576 := (by first|(simp only [cntInt64S]; omega)|grind [szd]); have := mcle_Sig aSig; have : cntInt64SS aTs ≤ 1048576 := (by first|(simp only [cntInt64S]; omega)|grind [szd]); have := mcle_Int64SS aTs; omega)) (by simp) ⟨rfl, rfl, rfl⟩ (by simp) (by (simp only [eraseK, KeepE, KeepX, KeepL, Nat.reduceEqDiff, ↓reduceIte, and_true]; (repeat' first | exact trivial | exact keep_int _ _ _ _ | exact keep_bool _ _ _ | exact keep_box _ _ _ _ | exact keep_KD _ _ _ | exact keep_LT (lt_Int64S _ _) (by omega) | exact keep_LT (lt_Int64SS _ _) (by omega) | refine And.intro ?_ ?_); done)) (by (simp only [eraseK, KeepE, KeepX, KeepL, Nat.reduceEqDiff, ↓reduceIte, and_true]; (repeat' first | exact trivial | exact keep_int _ _ _ _ | exact keep_bool _ _ _ | exact keep_box _ _ _ _ | exact keep_KD _ _ _ | exact keep_LT (lt_Int64S _ _) (by omega) | exact keep_LT (lt_Int64SS _ _) (by omega) | refine And.intro ?_ ?_); done)) (by (simp only [eraseK, KeepE, KeepX, KeepL, Nat.reduceEqDiff, ↓reduceIte, and_true]; (repeat' first | exact trivial | exact keep_int _ _ _ _ | exact keep_bool _ _ _ | exact keep_box _ _ _ _ | exact keep_KD _ _ _ | exact keep_LT (lt_Int64S _ _) (by omega) | exact keep_LT (lt_Int64SS _ _) (by omega) | refine And.intro ?_ ?_); done)) ?_; simp only [go_sem, Nat.reduceAdd, Nat.reduceMul, Nat.reduceLT, Nat.reduceLeDiff, Nat.reduceEqDiff, Nat.reduceBEq, Nat.reduceSub, ↓reduceIte, reduceCtorEq])
    | (refine sw_markS2 hN (i := N + 3) (by omega) markInt64S_mk rfl (lt_Int64S [N + 3] (allM aSig aTs)) rfl (by omega) (by (have : cntSig aSig ≤ 1048576 := (by first|(simp only [cntInt64S]; omega)|grind [szd]); have := mcle_Sig aSig; have : cntInt64SS aTs ≤ 1048576 := (by first|(simp only [cntInt64S]; omega)|grind [szd]); have := mcle_Int64SS aTs; have := allM_mc aSig aTs; omega)) (by simp) ⟨rfl, rfl, rfl⟩ (by simp) (by simp) (by (simp only [eraseK, KeepE, KeepX, KeepL, Nat.reduceEqDiff, ↓reduceIte, and_true]; (repeat' first | exact trivial | exact keep_int _ _ _ _ | exact keep_bool _ _ _ | exact keep_box _ _ _ _ | exact keep_KD _ _ _ | exact keep_LT (lt_Int64S _ _) (by omega) | exact keep_LT (lt_Int64SS _ _) (by omega) | refine And.intro ?_ ?_); done)) (by (simp only [eraseK, KeepE, KeepX, KeepL, Nat.reduceEqDiff, ↓reduceIte, and_true]; (repeat' first | exact trivial | exact keep_int _ _ _ _ | exact keep_bool _ _ _ | exact keep_box _ _ _ _ | exact keep_KD _ _ _ | exact keep_LT (lt_Int64S _ _) (by omega) | exact keep_LT (lt_Int64SS _ _) (by omega) | refine And.intro ?_ ?_); done)) (by (simp only [eraseK, KeepE, KeepX, KeepL, Nat.reduceEqDiff, ↓reduceIte, and_true]; (repeat' first | exact trivial | exact keep_int _ _ _ _ | exact keep_bool _ _ _ | exact keep_box _ _ _ _ | exact keep_KD _ _ _ | exact keep_LT (lt_Int64S _ _) (by omega) | exact keep_LT (lt_Int64SS _ _) (by omega) | refine And.intro ?_ ?_); done)) ?_; simp only [go_sem, Nat.reduceAdd, Nat.reduceMul, Nat.reduceLT, Nat.reduceLeDiff, Nat.reduceEqDiff, Nat.reduceBEq, Nat.reduceSub, ↓reduceIte, reduceCtorEq])
    | exact Bool.noConfusion h
    | refine sw_seq ?_
    | refine sw_block ?_
    | refine sw_skip ?_
    | refine sw_inBlock ?_
    | refine sw_go 0 kp4 fun K hK => ?_
    | refine fun (K : List Oper → LS → Prop) (hK : KOk S 0 _ _ _ K) => ?_
    | refine sw_goD kp4 (by kernel_rfl) fun K hK => ?_
    | ((first | refine runL_go ?_ | refine runQ_go ?_); simp (disch := (refine Om.mk ?_; omega)) only [go_sem, Nat.reduceAdd, Nat.reduceMul, Nat.reduceLT, Nat.reduceLeDiff, Nat.reduceEqDiff, Nat.reduceBEq, Nat.reduceSub, ↓reduceIte, reduceCtorEq])
    | (refine hK.nil ?_; clear hK K; simp only [go_sem, Nat.reduceAdd, Nat.reduceMul, Nat.reduceLT, Nat.reduceLeDiff, Nat.reduceEqDiff, Nat.reduceBEq, Nat.reduceSub, ↓reduceIte, reduceCtorEq])
    | (refine runG_fork rfl rfl rfl rfl rfl (fun h => ?_) (fun h => ?_) <;> (try simp (disch := (refine Om.mk ?_; omega)) only [go_sem, Nat.reduceAdd, Nat.reduceMul, Nat.reduceLT, Nat.reduceLeDiff, Nat.reduceEqDiff, Nat.reduceBEq, Nat.reduceSub, ↓reduceIte, reduceCtorEq] at h))
    | (refine runQG_fork rfl rfl rfl rfl rfl (fun h => ?_) (fun h => ?_) <;> (try simp (disch := (refine Om.mk ?_; omega)) only [go_sem, Nat.reduceAdd, Nat.reduceMul, Nat.reduceLT, Nat.reduceLeDiff, Nat.reduceEqDiff, Nat.reduceBEq, Nat.reduceSub, ↓reduceIte, reduceCtorEq] at h))
    | (refine hK.skip rfl (by simp only [dstOk, Nat.reduceLT]) ?_)
    | (refine sw_cond rfl (fun h => ?_) (fun h => ?_) <;> (try simp (disch := (refine Om.mk ?_; omega)) only [go_sem, Nat.reduceAdd, Nat.reduceMul, Nat.reduceLT, Nat.reduceLeDiff, Nat.reduceEqDiff, Nat.reduceBEq, Nat.reduceSub, ↓reduceIte, reduceCtorEq] at h))
    | (refine sw_exit rfl ?_)
    | (refine sw_loopEnd ?_)
    | ((first | refine sw_ret (ret0 ?_) | refine sw_ret ?_); simp (disch := (refine Om.mk ?_; omega)) only [go_sem, Nat.reduceAdd, Nat.reduceMul, Nat.reduceLT, Nat.reduceLeDiff, Nat.reduceEqDiff, Nat.reduceBEq, Nat.reduceSub, ↓reduceIte, reduceCtorEq, Try.results4])
    | refine hK.call rfl rfl rfl (szSig_fc _ _ (by repeat' (first|apply szd_rng|(constructor <;> omega)))) ⟨(by intro p hp; cases hp), rfl, rfl, (by simp only [dstOk, Nat.reduceLT])⟩ ?_
    | refine hK.call rfl rfl rfl (szInt64SS_fc _ _ _ (by repeat' (first|apply szd_rng|(constructor <;> omega)))) ⟨(by intro p hp; cases hp), rfl, rfl, (by simp only [dstOk, Nat.reduceLT])⟩ ?_
    | (refine hK.call rfl rfl rfl (FC.args (toSigL_fc [N + 1] (by simp) aSig (by first|(simp only [cntInt64S]; omega)|grind [szd])) ?le) ⟨(by intro p hp; cases hp), rfl, rfl, (by simp only [dstOk, Nat.reduceLT])⟩ ?_; case le => (simp only [go_sem, Nat.reduceAdd, Nat.reduceMul, Nat.reduceLT, Nat.reduceLeDiff, Nat.reduceEqDiff, Nat.reduceBEq, Nat.reduceSub, ↓reduceIte, reduceCtorEq]; (repeat' first | exact trivial | exact D.le.refl _ | exact KD_le rfl rfl | exact le_Int64SL _ _ | exact le_SigL _ _ | exact le_Int64SSL _ _ | exact D.le.any | refine And.intro ?_ ?_); done))
    | (refine hK.call rfl rfl rfl (FC.args (eqSig_fc aSig aSig) ?le) ⟨(by intro p hp; cases hp), rfl, rfl, (by simp only [dstOk, Nat.reduceLT])⟩ ?_; case le => (simp only [go_sem, Nat.reduceAdd, Nat.reduceMul, Nat.reduceLT, Nat.reduceLeDiff, Nat.reduceEqDiff, Nat.reduceBEq, Nat.reduceSub, ↓reduceIte, reduceCtorEq]; (repeat' first | exact trivial | exact D.le.refl _ | exact KD_le rfl rfl | exact le_Int64SL _ _ | exact le_SigL _ _ | exact le_Int64SSL _ _ | exact D.le.any | refine And.intro ?_ ?_); done))
    | (refine hK.call rfl rfl rfl (FC.args (toInt64SSL_fc [N + 2] (by simp) .any aTs (by first|(simp only [cntInt64S]; omega)|grind [szd])) ?le) ⟨(by intro p hp; cases hp), rfl, rfl, (by simp only [dstOk, Nat.reduceLT])⟩ ?_; case le => (simp only [go_sem, Nat.reduceAdd, Nat.reduceMul, Nat.reduceLT, Nat.reduceLeDiff, Nat.reduceEqDiff, Nat.reduceBEq, Nat.reduceSub, ↓reduceIte, reduceCtorEq]; (repeat' first | exact trivial | exact D.le.refl _ | exact KD_le rfl rfl | exact le_Int64SL _ _ | exact le_SigL _ _ | exact le_Int64SSL _ _ | exact D.le.any | refine And.intro ?_ ?_); done))
    | (refine hK.call rfl rfl rfl (FC.args (eqInt64SS_fc .any .any aTs aTs) ?le) ⟨(by intro p hp; cases hp), rfl, rfl, (by simp only [dstOk, Nat.reduceLT])⟩ ?_; case le => (simp only [go_sem, Nat.reduceAdd, Nat.reduceMul, Nat.reduceLT, Nat.reduceLeDiff, Nat.reduceEqDiff, Nat.reduceBEq, Nat.reduceSub, ↓reduceIte, reduceCtorEq]; (repeat' first | exact trivial | exact D.le.refl _ | exact KD_le rfl rfl | exact le_Int64SL _ _ | exact le_SigL _ _ | exact le_Int64SSL _ _ | exact D.le.any | refine And.intro ?_ ?_); done))
    | refine hK.call rfl rfl rfl (held_fc heldInt64S_mk (by omega) (by (have : cntSig aSig ≤ 1048576 := (by first|(simp only [cntInt64S]; omega)|grind [szd]); have := mcle_Sig aSig; have : cntInt64SS aTs ≤ 1048576 := (by first|(simp only [cntInt64S]; omega)|grind [szd]); have := mcle_Int64SS aTs; have := allM_mc aSig aTs; omega))) ⟨(by intro p hp; cases hp), rfl, rfl, (by simp only [dstOk, Nat.reduceLT])⟩ ?_
    | (refine hK.call rfl rfl rfl (FC.args (eqInt64S_fc .any .any (allM aSig aTs) (allM aSig aTs)) ?le) ⟨(by intro p hp; cases hp), rfl, rfl, (by simp only [dstOk, Nat.reduceLT])⟩ ?_; case le => (simp only [go_sem, Nat.reduceAdd, Nat.reduceMul, Nat.reduceLT, Nat.reduceLeDiff, Nat.reduceEqDiff, Nat.reduceBEq, Nat.reduceSub, ↓reduceIte, reduceCtorEq]; (repeat' first | exact trivial | exact D.le.refl _ | exact KD_le rfl rfl | exact le_Int64SL _ _ | exact le_SigL _ _ | exact le_Int64SSL _ _ | exact D.le.any | refine And.intro ?_ ?_); done))
    | (refine hK.call rfl rfl rfl (FC.args (implGeneralisedAll_fc [N + 3] (by simp) aSig aTs) ?le) ⟨(by intro p hp; cases hp), rfl, rfl, (by simp only [dstOk, Nat.reduceLT])⟩ ?_; case le => (simp only [go_sem, Nat.reduceAdd, Nat.reduceMul, Nat.reduceLT, Nat.reduceLeDiff, Nat.reduceEqDiff, Nat.reduceBEq, Nat.reduceSub, ↓reduceIte, reduceCtorEq]; (repeat' first | exact trivial | exact D.le.refl _ | exact KD_le rfl rfl | exact le_Int64SL _ _ | exact le_SigL _ _ | exact le_Int64SSL _ _ | exact D.le.any | refine And.intro ?_ ?_); done))
    | refine hK.call rfl rfl rfl (toSig_fc _ (by first|(simp only [cntInt64S]; omega)|grind [szd])) ⟨(by intro p hp; cases hp), rfl, rfl, (by simp only [dstOk, Nat.reduceLT])⟩ ?_
    | refine hK.call rfl rfl rfl (toInt64SS_fc _ _ (by first|(simp only [cntInt64S]; omega)|grind [szd])) ⟨(by intro p hp; cases hp), rfl, rfl, (by simp only [dstOk, Nat.reduceLT])⟩ ?_
    | refine hK.call rfl rfl rfl (specGeneralisedAll_fc aSig aTs) ⟨(by intro p hp; cases hp), rfl, rfl, (by simp only [dstOk, Nat.reduceLT])⟩ ?_
    | (refine hK.fork rfl rfl rfl (fun h => ?_) (fun h => ?_) <;> (try simp (disch := (refine Om.mk ?_; omega)) only [go_sem, Nat.reduceAdd, Nat.reduceMul, Nat.reduceLT, Nat.reduceLeDiff, Nat.reduceEqDiff, Nat.reduceBEq, Nat.reduceSub, ↓reduceIte, reduceCtorEq] at h))
    | (with_reducible refine And.intro (by first | omega | (simp only [List.length_append, List.length_take, List.length_drop, List.length_cons, List.length_nil]; omega)) ?_)
    | ((with_reducible refine And.intro ?_ ?_); · first | (intro x hx; subst hx; rfl) | exact upR_mem fun _ _ => rfl | exact mapR_mem fun _ _ => rfl | (intro x; refine And.intro ?_ ?_ <;> (intros; subst_vars; rfl)))
    | fail
  all_goals first | omega | exact h trivial | exact absurd rfl h | exact absurd Iff.rfl h | (simp at h; done)
end
theorem own : ownKnob Try.prog.godebug = none := by kernel_rfl
theorem laidOut : laidOutB Try.prog = true := by kernel_rfl
theorem wc_Int64S {cs : List D} (h : WC S 22 cs) : ∃ xs : List Int, cs = [.sl .any (xs.map (.int .i64))] ∧ RngInt64S xs := wc_ints rfl rfl h
theorem wc_Sig {cs : List D} (h : WC S 24 cs) : ∃ x : List Int, cs = [.sl .any (x.map (.int .i64))] ∧ RngSig x := by
  obtain ⟨css, rfl, hl, hc⟩ := wc_st (fs := [(0, 22)]) rfl h
  match css, hl with
  | [c0], _ =>
    obtain ⟨x0, rfl, h0⟩ := wc_Int64S (hc 0 _ c0 rfl rfl)
    exact ⟨x0, rfl, h0⟩
theorem wc_Int64SS {cs : List D} (h : WC S 43 cs) : ∃ xs : List (List Int), cs = [.sl .any (xs.map IntsD)] ∧ RngInt64SS xs := by
  refine wc_list rfl tab22 h IntsD RngInt64S fun ds _ hw => ?_
  obtain ⟨x, rfl, hx⟩ := wc_Int64S hw
  exact ⟨x, rfl, hx⟩
set_option maxRecDepth 100000 in
theorem fnExactGeneralisedAll_lifted (os : Os) (started : os.Started) (H : Type) (enc : TypeId × Value → H) :
    ReturnsInHanded {} Try.checked os 4 .any (Rows.fnExactGeneralisedAllSpec.pre6 enc Try.prog Try.f4 Rows.fnExactGeneralisedAllRow.domain false) (Rows.fnExactGeneralisedAllSpec.post enc Try.prog Try.f4 false true false false) := by
  refine returnsInHanded_of_change (C := Try.checked) own started (by kernel_rfl) Try.func4
    (ChangeSpec.witness6 (enc := enc) (C := Try.checked) false ⟨#[], #[.agg #[.slice none 0 0], .slice none 0 0], []⟩ 12 (by kernel_rfl) (by kernel_rfl) (by kernel_rfl) (by kernel_rfl)) ?_
  intro W base args ds gs before hval hW _ _
  refine law_contract S (fn := Try.f4) (ts := [24, 43]) (tb := 4) (m := 20) laidOut (by kernel_rfl) (of_decide_eq_true (by kernel_rfl)) (of_decide_eq_true (by kernel_rfl)) (by kernel_rfl) (by kernel_rfl) rfl (fun ds hd => ?_) (fun al hl h => ?_) hval hW
  · match ds, hd with
    | [_, _], _ => rfl
  · match al, hl with
    | [a0, a1], _ =>
      obtain ⟨i0, c0, e0, _, w0, rfl⟩ := h 0 _ a0 rfl rfl
      cases tab24.symm.trans e0
      obtain ⟨i1, c1, e1, _, w1, rfl⟩ := h 1 _ a1 rfl rfl
      cases tab43.symm.trans e1
      obtain ⟨x0, rfl, r0⟩ := wc_Sig w0
      obtain ⟨x1, rfl, r1⟩ := wc_Int64SS w1
      exact fnExactGeneralisedAll_fc x0 x1 r0 r1
theorem and_t {a b : Bool} (ha : a = true) (hb : b = true) : (a && b) = true := by rw [ha, hb]; rfl
set_option maxRecDepth 100000 in
theorem jf_heard : Try.pinned.checked.prog.stopsHeard = true := by kernel_rfl
set_option maxRecDepth 100000 in
theorem jf_enter : Try.pinned.checked.prog.mayEnter = true := by kernel_rfl
set_option maxRecDepth 100000 in
theorem jf_lift : (Rows.fnExactGeneralisedAllRow.lifted == Try.pinned.checked.prog.liftsFinal) = true := by kernel_rfl
set_option maxRecDepth 100000 in
theorem jf_make : (Try.pinned.checked.prog.make == some Rows.fnExactGeneralisedAllRow.make) = true := by kernel_rfl
set_option maxRecDepth 100000 in
theorem jf_all : joinedFacts Try.pinned.checked.prog 4 Try.f4 Rows.fnExactGeneralisedAllSpec Rows.fnExactGeneralisedAllRow = true := by
  unfold joinedFacts
  exact and_t (and_t (and_t (and_t (and_t (and_t (and_t (and_t (by kernel_rfl) jf_heard) jf_enter) jf_lift) jf_make) (by kernel_rfl)) (by kernel_rfl)) (by kernel_rfl)) (by kernel_rfl)
set_option maxRecDepth 100000 in
theorem fnExactGeneralisedAll_holds : Rows.FnExactGeneralisedAllSaid :=
  OpenClaim.holds_of_wide 4 Try.f4 rfl rfl rfl rfl rfl rfl rfl ⟨rfl, rfl, rfl, rfl, rfl⟩ rfl rfl rfl rfl rfl (by kernel_rfl) Try.func4 jf_all
    (of_decide_eq_true (by kernel_rfl)) (by unfold Func.isWrapper; first | (rw [if_pos (by decide +kernel)]; kernel_rfl) | (rw [if_neg (by decide +kernel)]; exact ⟨rfl, rfl⟩))
    (fun os started H enc _ => fnExactGeneralisedAll_lifted os started H enc)
end Go.Proofs.Ytgbcnhbmfjkhmaa
