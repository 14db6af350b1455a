/-
  FnExactMoveOk returns true, whatever its arguments: its contract, and its row (no condition).
-/
import Derived.Test.YtlpaodfkmafjjaaRows
import Derived.Test.YtlpaodfkmafjjaaHFnExactMoveOk
import Derived.Test.YtlpaodfkmafjjaaA20n
import Derived.Test.YtlpaodfkmafjjaaLgRow
namespace Go.Proofs.Ytlpaodfkmafjjaa
open Go Go.Lg Go.RowKit Go.ChangeShapes Go.WideShapes Go.ChangeAt
set_option linter.unusedVariables false
set_option linter.unusedSimpArgs false
set_option maxHeartbeats 4000000
def RngInt64 (x : Int) : Prop := In64 x
def RngInt64S (xs : List Int) : Prop := ∀ x ∈ xs, RngInt64 x
def RngSig (x : List Int) : Prop := RngInt64S x
def RngEq (x : EqT) : Prop := RngInt64S x.l ∧ RngInt64S x.r
def RngEqS (xs : List EqT) : Prop := ∀ x ∈ xs, RngEq x
def RngMove (x : MoveT) : Prop := RngInt64 x.eq ∧ RngInt64 x.at_ ∧ True ∧ RngInt64S x.to
section
attribute [local irreducible] SW runL runQ runG runQG FC Ret1
def kp4 : List (Nat × List Nat) := [(0, [1, 2, 4, 7]), (1, [1, 2, 4, 7, 18]), (2, [8]), (3, [1, 2, 4, 7, 9]), (4, [1, 2, 4, 7, 9]), (5, [1, 2, 4, 7, 9, 23]), (6, [8]), (7, [1, 2, 4, 7, 9]), (8, [1, 2, 4, 7, 9, 28]), (9, [8]), (10, [1, 2, 4, 7, 9]), (11, [1, 2, 4, 7, 33]), (12, [8]), (13, [1, 2, 4, 7, 10]), (14, [1, 2, 4, 7, 10, 11]), (15, [1, 2, 4, 7, 10, 11, 12]), (16, [1, 2, 4, 7, 10, 11, 12, 13]), (17, [1, 2, 4, 7, 10, 11, 12, 13, 14]), (18, [1, 2, 4, 7, 10, 11, 12, 13, 14, 15]), (19, [1, 2, 4, 7, 11, 12, 13, 14, 58]), (20, [8]), (21, [1, 2, 7, 12, 13, 14, 63]), (22, [8]), (23, [2, 7, 13, 14, 68]), (24, [8]), (25, [7, 14, 73]), (26, [8]), (27, [78]), (28, [8]), (29, [8])]
attribute [go_sem] kp4
theorem fnExactMoveOk_fc (aSig : List Int) (aEqs : List EqT) (aT : List Int) (aM : MoveT) (haSig : RngSig aSig) (haEqs : RngEqS aEqs) (haT : RngInt64S aT) (haM : RngMove aM) : FC S 4 [] [] [] [SigD aSig, .sl .any (aEqs.map EqD), .sl .any (aT.map (.int .i64)), MoveD aM] (.bool true) [] [] := by
  refine fc_body Try.func4 rfl (by kernel_rfl) (by simp [Try.f4]) fun B => ?_
  simp only [Try.ntmps4, enumD, List.map_nil, List.map_cons, List.length_map, Nat.zero_add, Nat.reduceAdd]
  refine sw_bnd_agg 0 0 rfl rfl fun hb0_0 => ?_
  simp only [D.bnd, List.length_map] at hb0_0
  refine sw_bnd 1 rfl fun hb1 => ?_
  simp only [D.bnd, List.length_map] at hb1
  refine sw_bnd 2 rfl fun hb2 => ?_
  simp only [D.bnd, List.length_map] at hb2
  refine sw_bnd_agg 3 3 rfl rfl fun hb3_3 => ?_
  simp only [D.bnd, List.length_map] at hb3_3
  repeat' first
    | exact Bool.noConfusion h
    | refine sw_seq ?_
    | refine sw_block ?_
    | refine sw_skip ?_
    | refine sw_inBlock ?_
    | refine sw_go 0 kp4 fun K hK => ?_
    | refine fun (K : List Oper → LS → Prop) (hK : KOk S 0 _ _ _ K) => ?_
    | refine sw_goD kp4 (by kernel_rfl) fun K hK => ?_
    | ((first | refine runL_go ?_ | refine runQ_go ?_); simp (disch := (refine Om.mk ?_; omega)) only [go_sem, Nat.reduceAdd, Nat.reduceMul, Nat.reduceLT, Nat.reduceLeDiff, Nat.reduceEqDiff, Nat.reduceBEq, Nat.reduceSub, ↓reduceIte, reduceCtorEq])
    | (refine hK.nil ?_; clear hK K; simp only [go_sem, Nat.reduceAdd, Nat.reduceMul, Nat.reduceLT, Nat.reduceLeDiff, Nat.reduceEqDiff, Nat.reduceBEq, Nat.reduceSub, ↓reduceIte, reduceCtorEq])
    | (refine runG_fork rfl rfl rfl rfl rfl (fun h => ?_) (fun h => ?_) <;> (try simp (disch := (refine Om.mk ?_; omega)) only [go_sem, Nat.reduceAdd, Nat.reduceMul, Nat.reduceLT, Nat.reduceLeDiff, Nat.reduceEqDiff, Nat.reduceBEq, Nat.reduceSub, ↓reduceIte, reduceCtorEq] at h))
    | (refine runQG_fork rfl rfl rfl rfl rfl (fun h => ?_) (fun h => ?_) <;> (try simp (disch := (refine Om.mk ?_; omega)) only [go_sem, Nat.reduceAdd, Nat.reduceMul, Nat.reduceLT, Nat.reduceLeDiff, Nat.reduceEqDiff, Nat.reduceBEq, Nat.reduceSub, ↓reduceIte, reduceCtorEq] at h))
    | (refine hK.skip rfl (by simp only [dstOk, Nat.reduceLT]) ?_)
    | (refine sw_cond rfl (fun h => ?_) (fun h => ?_) <;> (try simp (disch := (refine Om.mk ?_; omega)) only [go_sem, Nat.reduceAdd, Nat.reduceMul, Nat.reduceLT, Nat.reduceLeDiff, Nat.reduceEqDiff, Nat.reduceBEq, Nat.reduceSub, ↓reduceIte, reduceCtorEq] at h))
    | (refine sw_exit rfl ?_)
    | (refine sw_loopEnd ?_)
    | ((first | refine sw_ret (ret0 ?_) | refine sw_ret ?_); simp (disch := (refine Om.mk ?_; omega)) only [go_sem, Nat.reduceAdd, Nat.reduceMul, Nat.reduceLT, Nat.reduceLeDiff, Nat.reduceEqDiff, Nat.reduceBEq, Nat.reduceSub, ↓reduceIte, reduceCtorEq, Try.results4])
    | refine hK.call rfl rfl rfl (szSig_fc _ _ (by repeat' (first|apply szd_rng|(constructor <;> omega)))) ⟨(by intro p hp; cases hp), rfl, rfl, (by simp only [dstOk, Nat.reduceLT])⟩ ?_
    | refine hK.call rfl rfl rfl (szEqS_fc _ _ _ (by repeat' (first|apply szd_rng|(constructor <;> omega)))) ⟨(by intro p hp; cases hp), rfl, rfl, (by simp only [dstOk, Nat.reduceLT])⟩ ?_
    | refine hK.call rfl rfl rfl (szMove_fc _ _ (by repeat' (first|apply szd_rng|(constructor <;> omega)))) ⟨(by intro p hp; cases hp), rfl, rfl, (by simp only [dstOk, Nat.reduceLT])⟩ ?_
    | refine hK.call rfl rfl rfl (toSig_fc _ (by first|(simp only [cntInt64S]; omega)|grind [szd])) ⟨(by intro p hp; cases hp), rfl, rfl, (by simp only [dstOk, Nat.reduceLT])⟩ ?_
    | refine hK.call rfl rfl rfl (toEqS_fc _ _ (by first|(simp only [cntInt64S]; omega)|grind [szd])) ⟨(by intro p hp; cases hp), rfl, rfl, (by simp only [dstOk, Nat.reduceLT])⟩ ?_
    | refine hK.call rfl rfl rfl (toInt64S_fc _ _ (by first|(simp only [cntInt64S]; omega)|grind [szd])) ⟨(by intro p hp; cases hp), rfl, rfl, (by simp only [dstOk, Nat.reduceLT])⟩ ?_
    | refine hK.call rfl rfl rfl (toMove_fc _ (by first|(simp only [cntInt64S]; omega)|grind [szd])) ⟨(by intro p hp; cases hp), rfl, rfl, (by simp only [dstOk, Nat.reduceLT])⟩ ?_
    | refine hK.call rfl rfl rfl (eqSig_fc _ _) ⟨(by intro p hp; cases hp), rfl, rfl, (by simp only [dstOk, Nat.reduceLT])⟩ ?_
    | refine hK.call rfl rfl rfl (eqEqS_fc _ _ _ _) ⟨(by intro p hp; cases hp), rfl, rfl, (by simp only [dstOk, Nat.reduceLT])⟩ ?_
    | refine hK.call rfl rfl rfl (eqInt64S_fc _ _ _ _) ⟨(by intro p hp; cases hp), rfl, rfl, (by simp only [dstOk, Nat.reduceLT])⟩ ?_
    | refine hK.call rfl rfl rfl (eqMove_fc _ _) ⟨(by intro p hp; cases hp), rfl, rfl, (by simp only [dstOk, Nat.reduceLT])⟩ ?_
    | refine hK.call rfl rfl rfl (specMoveOk_fc _ _ _ _ aEqs aT aM) ⟨(by intro p hp; cases hp), rfl, rfl, (by simp only [dstOk, Nat.reduceLT])⟩ ?_
    | refine hK.call rfl rfl rfl (implMoveOk_fc _ _ _ _ aEqs aT aM) ⟨(by intro p hp; cases hp), rfl, rfl, (by simp only [dstOk, Nat.reduceLT])⟩ ?_
    | (refine hK.fork rfl rfl rfl (fun h => ?_) (fun h => ?_) <;> (try simp (disch := (refine Om.mk ?_; omega)) only [go_sem, Nat.reduceAdd, Nat.reduceMul, Nat.reduceLT, Nat.reduceLeDiff, Nat.reduceEqDiff, Nat.reduceBEq, Nat.reduceSub, ↓reduceIte, reduceCtorEq] at h))
    | (with_reducible refine And.intro (by first | omega | (simp only [List.length_append, List.length_take, List.length_drop, List.length_cons, List.length_nil]; omega)) ?_)
    | ((with_reducible refine And.intro ?_ ?_); · first | (intro x hx; subst hx; rfl) | exact upR_mem fun _ _ => rfl | (intro x; refine And.intro ?_ ?_ <;> (intros; subst_vars; rfl)))
    | fail
  all_goals first | exact h trivial | exact absurd rfl h | exact absurd Iff.rfl h | (simp at h; done)
end
theorem own : ownKnob Try.prog.godebug = none := by kernel_rfl
theorem laidOut : laidOutB Try.prog = true := by kernel_rfl
theorem wc_Int64S {cs : List D} (h : WC S 22 cs) : ∃ xs : List Int, cs = [.sl .any (xs.map (.int .i64))] ∧ RngInt64S xs := wc_ints rfl rfl h
theorem wc_Sig {cs : List D} (h : WC S 24 cs) : ∃ x : List Int, cs = [.sl .any (x.map (.int .i64))] ∧ RngSig x := by
  obtain ⟨css, rfl, hl, hc⟩ := wc_st (fs := [(0, 22)]) rfl h
  match css, hl with
  | [c0], _ =>
    obtain ⟨x0, rfl, h0⟩ := wc_Int64S (hc 0 _ c0 rfl rfl)
    exact ⟨x0, rfl, h0⟩
theorem wc_Eq {cs : List D} (h : WC S 26 cs) : ∃ x : EqT, cs = [.sl .any (x.l.map (.int .i64)), .sl .any (x.r.map (.int .i64))] ∧ RngEq x := by
  obtain ⟨css, rfl, hl, hc⟩ := wc_st (fs := [(0, 22), (1, 22)]) rfl h
  match css, hl with
  | [c0, c1], _ =>
    obtain ⟨x0, rfl, h0⟩ := wc_Int64S (hc 0 _ c0 rfl rfl)
    obtain ⟨x1, rfl, h1⟩ := wc_Int64S (hc 1 _ c1 rfl rfl)
    exact ⟨⟨x0, x1⟩, rfl, ⟨h0, h1⟩⟩
theorem wc_EqS {cs : List D} (h : WC S 37 cs) : ∃ xs : List EqT, cs = [.sl .any (xs.map EqD)] ∧ RngEqS xs := by
  refine wc_list rfl tab26 h EqD RngEq fun ds _ hw => ?_
  obtain ⟨x, rfl, hx⟩ := wc_Eq hw
  exact ⟨x, rfl, hx⟩
theorem wc_Move {cs : List D} (h : WC S 39 cs) : ∃ x : MoveT, cs = [.int .i64 x.eq, .int .i64 x.at_, .bool x.back, .sl .any (x.to.map (.int .i64))] ∧ RngMove x := by
  obtain ⟨css, rfl, hl, hc⟩ := wc_st (fs := [(0, 2), (1, 2), (2, 4), (3, 22)]) rfl h
  match css, hl with
  | [c0, c1, c2, c3], _ =>
    obtain ⟨x0, rfl, h0⟩ := wc_int rfl (hc 0 _ c0 rfl rfl)
    obtain ⟨x1, rfl, h1⟩ := wc_int rfl (hc 1 _ c1 rfl rfl)
    obtain ⟨x2, rfl⟩ := wc_bool rfl (hc 2 _ c2 rfl rfl)
    obtain ⟨x3, rfl, h3⟩ := wc_Int64S (hc 3 _ c3 rfl rfl)
    exact ⟨⟨x0, x1, x2, x3⟩, rfl, ⟨in64_wf h0, in64_wf h1, trivial, h3⟩⟩
set_option maxRecDepth 100000 in
theorem fnExactMoveOk_lifted (os : Os) (started : os.Started) (H : Type) (enc : TypeId × Value → H) :
    ReturnsInHanded {} Try.checked os 4 .any (Rows.fnExactMoveOkSpec.pre6 enc Try.prog Try.f4 Rows.fnExactMoveOkRow.domain false) (Rows.fnExactMoveOkSpec.post enc Try.prog Try.f4 false true false false) := by
  refine returnsInHanded_of_change (C := Try.checked) own started (by kernel_rfl) Try.func4
    (ChangeSpec.witness6 (enc := enc) (C := Try.checked) false ⟨#[], #[.agg #[.slice none 0 0], .slice none 0 0, .slice none 0 0, .agg #[.int .i64 0, .int .i64 0, .bool false, .slice none 0 0]], []⟩ 12 (by kernel_rfl) (by kernel_rfl) (by kernel_rfl) (by kernel_rfl)) ?_
  intro W base args ds gs before hval hW _ _
  refine law_contract S (fn := Try.f4) (ts := [24, 37, 22, 39]) (tb := 4) (m := 20) laidOut (by kernel_rfl) (of_decide_eq_true (by kernel_rfl)) (of_decide_eq_true (by kernel_rfl)) (by kernel_rfl) (by kernel_rfl) rfl (fun ds hd => ?_) (fun al hl h => ?_) hval hW
  · match ds, hd with
    | [_, _, _, _], _ => rfl
  · match al, hl with
    | [a0, a1, a2, a3], _ =>
      obtain ⟨i0, c0, e0, _, w0, rfl⟩ := h 0 _ a0 rfl rfl
      cases tab24.symm.trans e0
      obtain ⟨i1, c1, e1, _, w1, rfl⟩ := h 1 _ a1 rfl rfl
      cases tab37.symm.trans e1
      obtain ⟨i2, c2, e2, _, w2, rfl⟩ := h 2 _ a2 rfl rfl
      cases tab22.symm.trans e2
      obtain ⟨i3, c3, e3, _, w3, rfl⟩ := h 3 _ a3 rfl rfl
      cases tab39.symm.trans e3
      obtain ⟨x0, rfl, r0⟩ := wc_Sig w0
      obtain ⟨x1, rfl, r1⟩ := wc_EqS w1
      obtain ⟨x2, rfl, r2⟩ := wc_Int64S w2
      obtain ⟨x3, rfl, r3⟩ := wc_Move w3
      exact fnExactMoveOk_fc x0 x1 x2 x3 r0 r1 r2 r3
theorem and_t {a b : Bool} (ha : a = true) (hb : b = true) : (a && b) = true := by rw [ha, hb]; rfl
set_option maxRecDepth 100000 in
theorem jf_heard : Try.pinned.checked.prog.stopsHeard = true := by kernel_rfl
set_option maxRecDepth 100000 in
theorem jf_enter : Try.pinned.checked.prog.mayEnter = true := by kernel_rfl
set_option maxRecDepth 100000 in
theorem jf_lift : (Rows.fnExactMoveOkRow.lifted == Try.pinned.checked.prog.liftsFinal) = true := by kernel_rfl
set_option maxRecDepth 100000 in
theorem jf_make : (Try.pinned.checked.prog.make == some Rows.fnExactMoveOkRow.make) = true := by kernel_rfl
set_option maxRecDepth 100000 in
theorem jf_all : joinedFacts Try.pinned.checked.prog 4 Try.f4 Rows.fnExactMoveOkSpec Rows.fnExactMoveOkRow = true := by
  unfold joinedFacts
  exact and_t (and_t (and_t (and_t (and_t (and_t (and_t (and_t (by kernel_rfl) jf_heard) jf_enter) jf_lift) jf_make) (by kernel_rfl)) (by kernel_rfl)) (by kernel_rfl)) (by kernel_rfl)
set_option maxRecDepth 100000 in
theorem fnExactMoveOk_holds : Rows.FnExactMoveOkSaid :=
  OpenClaim.holds_of_wide 4 Try.f4 rfl rfl rfl rfl rfl rfl rfl ⟨rfl, rfl, rfl, rfl, rfl⟩ rfl rfl rfl rfl rfl (by kernel_rfl) Try.func4 jf_all
    (of_decide_eq_true (by kernel_rfl)) (by unfold Func.isWrapper; first | (rw [if_pos (by decide +kernel)]; kernel_rfl) | (rw [if_neg (by decide +kernel)]; exact ⟨rfl, rfl⟩))
    (fun os started H enc _ => fnExactMoveOk_lifted os started H enc)
end Go.Proofs.Ytlpaodfkmafjjaa
