/-
  FnExactFrontOk returns true, whatever its arguments: its contract, and its row (no condition).
-/
import Derived.Test.YtekomfgofjbemaaRows
import Derived.Test.YtekomfgofjbemaaHFnExactFrontOk
import Derived.Test.YtekomfgofjbemaaA02
import Derived.Test.YtekomfgofjbemaaLgRow
namespace Go.Proofs.Ytekomfgofjbemaa
open Go Go.Lg Go.RowKit Go.ChangeShapes Go.WideShapes Go.ChangeAt
set_option linter.unusedVariables false
set_option linter.unusedSimpArgs false
set_option maxHeartbeats 4000000
def RngInt64 (x : Int) : Prop := In64 x
def RngInt64S (xs : List Int) : Prop := ∀ x ∈ xs, RngInt64 x
def RngSig (x : List Int) : Prop := RngInt64S x
def RngInt64SS (xs : List (List Int)) : Prop := ∀ x ∈ xs, RngInt64S x
def RngLine (x : LineT) : Prop := RngInt64 x.fun_ ∧ RngInt64SS x.pats ∧ RngInt64S x.body
def RngLineS (xs : List LineT) : Prop := ∀ x ∈ xs, RngLine x
def RngFront (x : FrontT) : Prop := RngSig x.sig ∧ RngInt64S x.funs ∧ RngLineS x.lines
section
attribute [local irreducible] SW runL runQ runG runQG FC Ret1
def kp7 : List (Nat × List Nat) := [(0, [1]), (1, [1, 3]), (2, [1, 3]), (3, [1, 11]), (4, [2]), (5, [1, 4]), (6, [1, 4, 5]), (7, [1, 4, 5, 6]), (8, [1, 5, 21]), (9, [2]), (10, [26]), (11, [2]), (12, [2])]
attribute [go_sem] kp7
theorem fnExactFrontOk_fc (aF : FrontT) (haF : RngFront aF) : FC S 7 [] [] [] [FrontD aF] (.bool true) [] [] := by
  refine fc_body Try.func7 rfl (by kernel_rfl) (by simp [Try.f7]) fun B => ?_
  simp only [Try.ntmps7, enumD, List.map_nil, List.map_cons, List.length_map, Nat.zero_add, Nat.reduceAdd]
  refine sw_bnd_agg 0 0 rfl rfl fun hb0_0 => ?_
  simp only [D.bnd, List.length_map] at hb0_0
  refine sw_bnd_agg 0 1 rfl rfl fun hb0_1 => ?_
  simp only [D.bnd, List.length_map] at hb0_1
  refine sw_bnd_agg 0 2 rfl rfl fun hb0_2 => ?_
  simp only [D.bnd, List.length_map] at hb0_2
  repeat' first
    | exact Bool.noConfusion h
    | refine sw_seq ?_
    | refine sw_block ?_
    | refine sw_skip ?_
    | refine sw_inBlock ?_
    | refine sw_go 0 kp7 fun K hK => ?_
    | refine fun (K : List Oper → LS → Prop) (hK : KOk S 0 _ _ _ K) => ?_
    | refine sw_goD kp7 (by kernel_rfl) fun K hK => ?_
    | ((first | refine runL_go ?_ | refine runQ_go ?_); simp (disch := (refine Om.mk ?_; omega)) only [go_sem, Nat.reduceAdd, Nat.reduceMul, Nat.reduceLT, Nat.reduceLeDiff, Nat.reduceEqDiff, Nat.reduceBEq, Nat.reduceSub, ↓reduceIte, reduceCtorEq])
    | (refine hK.nil ?_; clear hK K; simp only [go_sem, Nat.reduceAdd, Nat.reduceMul, Nat.reduceLT, Nat.reduceLeDiff, Nat.reduceEqDiff, Nat.reduceBEq, Nat.reduceSub, ↓reduceIte, reduceCtorEq])
    | (refine runG_fork rfl rfl rfl rfl rfl (fun h => ?_) (fun h => ?_) <;> (try simp (disch := (refine Om.mk ?_; omega)) only [go_sem, Nat.reduceAdd, Nat.reduceMul, Nat.reduceLT, Nat.reduceLeDiff, Nat.reduceEqDiff, Nat.reduceBEq, Nat.reduceSub, ↓reduceIte, reduceCtorEq] at h))
    | (refine runQG_fork rfl rfl rfl rfl rfl (fun h => ?_) (fun h => ?_) <;> (try simp (disch := (refine Om.mk ?_; omega)) only [go_sem, Nat.reduceAdd, Nat.reduceMul, Nat.reduceLT, Nat.reduceLeDiff, Nat.reduceEqDiff, Nat.reduceBEq, Nat.reduceSub, ↓reduceIte, reduceCtorEq] at h))
    | (refine hK.skip rfl (by simp only [dstOk, Nat.reduceLT]) ?_)
    | (refine sw_cond rfl (fun h => ?_) (fun h => ?_) <;> (try simp (disch := (refine Om.mk ?_; omega)) only [go_sem, Nat.reduceAdd, Nat.reduceMul, Nat.reduceLT, Nat.reduceLeDiff, Nat.reduceEqDiff, Nat.reduceBEq, Nat.reduceSub, ↓reduceIte, reduceCtorEq] at h))
    | (refine sw_exit rfl ?_)
    | (refine sw_loopEnd ?_)
    | ((first | refine sw_ret (ret0 ?_) | refine sw_ret ?_); simp (disch := (refine Om.mk ?_; omega)) only [go_sem, Nat.reduceAdd, Nat.reduceMul, Nat.reduceLT, Nat.reduceLeDiff, Nat.reduceEqDiff, Nat.reduceBEq, Nat.reduceSub, ↓reduceIte, reduceCtorEq, Try.results7])
    | refine hK.call rfl rfl rfl (szFront_fc _ _ (by repeat' (first|apply szd_rng|(constructor <;> omega)))) ⟨(by intro p hp; cases hp), rfl, rfl, (by simp only [dstOk, Nat.reduceLT])⟩ ?_
    | refine hK.call rfl rfl rfl (toFront_fc _ (by first|(simp only [cntInt64S]; omega)|grind [szd])) ⟨(by intro p hp; cases hp), rfl, rfl, (by simp only [dstOk, Nat.reduceLT])⟩ ?_
    | refine hK.call rfl rfl rfl (eqFront_fc _ _) ⟨(by intro p hp; cases hp), rfl, rfl, (by simp only [dstOk, Nat.reduceLT])⟩ ?_
    | refine hK.call rfl rfl rfl (specFrontOk_fc aF) ⟨(by intro p hp; cases hp), rfl, rfl, (by simp only [dstOk, Nat.reduceLT])⟩ ?_
    | refine hK.call rfl rfl rfl (implFrontOk_fc aF leftC) ⟨(by intro p hp; cases hp), rfl, rfl, (by simp only [dstOk, Nat.reduceLT])⟩ ?_
    | (refine hK.fork rfl rfl rfl (fun h => ?_) (fun h => ?_) <;> (try simp (disch := (refine Om.mk ?_; omega)) only [go_sem, Nat.reduceAdd, Nat.reduceMul, Nat.reduceLT, Nat.reduceLeDiff, Nat.reduceEqDiff, Nat.reduceBEq, Nat.reduceSub, ↓reduceIte, reduceCtorEq] at h))
    | (with_reducible refine And.intro (by first | omega | (simp only [List.length_append, List.length_take, List.length_drop, List.length_cons, List.length_nil]; omega)) ?_)
    | ((with_reducible refine And.intro ?_ ?_); · first | (intro x hx; subst hx; rfl) | exact upR_mem fun _ _ => rfl | (intro x; refine And.intro ?_ ?_ <;> (intros; subst_vars; rfl)))
    | fail
  all_goals first | exact h trivial | exact absurd rfl h | exact absurd Iff.rfl h | (simp at h; done)
end
theorem own : ownKnob Try.prog.godebug = none := by kernel_rfl
theorem laidOut : laidOutB Try.prog = true := by kernel_rfl
theorem wc_Int64S {cs : List D} (h : WC S 22 cs) : ∃ xs : List Int, cs = [.sl .any (xs.map (.int .i64))] ∧ RngInt64S xs := wc_ints rfl rfl h
theorem wc_Sig {cs : List D} (h : WC S 24 cs) : ∃ x : List Int, cs = [.sl .any (x.map (.int .i64))] ∧ RngSig x := by
  obtain ⟨css, rfl, hl, hc⟩ := wc_st (fs := [(0, 22)]) rfl h
  match css, hl with
  | [c0], _ =>
    obtain ⟨x0, rfl, h0⟩ := wc_Int64S (hc 0 _ c0 rfl rfl)
    exact ⟨x0, rfl, h0⟩
theorem wc_Int64SS {cs : List D} (h : WC S 134 cs) : ∃ xs : List (List Int), cs = [.sl .any (xs.map IntsD)] ∧ RngInt64SS xs := by
  refine wc_list rfl tab22 h IntsD RngInt64S fun ds _ hw => ?_
  obtain ⟨x, rfl, hx⟩ := wc_Int64S hw
  exact ⟨x, rfl, hx⟩
theorem wc_Line {cs : List D} (h : WC S 184 cs) : ∃ x : LineT, cs = [.int .i64 x.fun_, .sl .any (x.pats.map IntsD), .sl .any (x.body.map (.int .i64))] ∧ RngLine x := by
  obtain ⟨css, rfl, hl, hc⟩ := wc_st (fs := [(0, 2), (1, 134), (2, 22)]) rfl h
  match css, hl with
  | [c0, c1, c2], _ =>
    obtain ⟨x0, rfl, h0⟩ := wc_int rfl (hc 0 _ c0 rfl rfl)
    obtain ⟨x1, rfl, h1⟩ := wc_Int64SS (hc 1 _ c1 rfl rfl)
    obtain ⟨x2, rfl, h2⟩ := wc_Int64S (hc 2 _ c2 rfl rfl)
    exact ⟨⟨x0, x1, x2⟩, rfl, ⟨in64_wf h0, h1, h2⟩⟩
theorem wc_LineS {cs : List D} (h : WC S 62 cs) : ∃ xs : List LineT, cs = [.sl .any (xs.map LineD)] ∧ RngLineS xs := by
  refine wc_list rfl tab184 h LineD RngLine fun ds _ hw => ?_
  obtain ⟨x, rfl, hx⟩ := wc_Line hw
  exact ⟨x, rfl, hx⟩
theorem wc_Front {cs : List D} (h : WC S 64 cs) : ∃ x : FrontT, cs = [.sl .any (x.sig.map (.int .i64)), .sl .any (x.funs.map (.int .i64)), .sl .any (x.lines.map LineD)] ∧ RngFront x := by
  obtain ⟨css, rfl, hl, hc⟩ := wc_st (fs := [(0, 24), (1, 22), (2, 62)]) rfl h
  match css, hl with
  | [c0, c1, c2], _ =>
    obtain ⟨x0, rfl, h0⟩ := wc_Sig (hc 0 _ c0 rfl rfl)
    obtain ⟨x1, rfl, h1⟩ := wc_Int64S (hc 1 _ c1 rfl rfl)
    obtain ⟨x2, rfl, h2⟩ := wc_LineS (hc 2 _ c2 rfl rfl)
    exact ⟨⟨x0, x1, x2⟩, rfl, ⟨h0, h1, h2⟩⟩
set_option maxRecDepth 100000 in
theorem fnExactFrontOk_lifted (os : Os) (started : os.Started) (H : Type) (enc : TypeId × Value → H) :
    ReturnsInHanded {} Try.checked os 7 .any (Rows.fnExactFrontOkSpec.pre6 enc Try.prog Try.f7 Rows.fnExactFrontOkRow.domain false) (Rows.fnExactFrontOkSpec.post enc Try.prog Try.f7 false true false false) := by
  refine returnsInHanded_of_change (C := Try.checked) own started (by kernel_rfl) Try.func7
    (ChangeSpec.witness6 (enc := enc) (C := Try.checked) false ⟨#[], #[.agg #[.slice none 0 0, .slice none 0 0, .slice none 0 0]], []⟩ 12 (by kernel_rfl) (by kernel_rfl) (by kernel_rfl) (by kernel_rfl)) ?_
  intro W base args ds gs before hval hW _ _
  refine law_contract S (fn := Try.f7) (ts := [64]) (tb := 4) (m := 20) laidOut (by kernel_rfl) (of_decide_eq_true (by kernel_rfl)) (of_decide_eq_true (by kernel_rfl)) (by kernel_rfl) (by kernel_rfl) rfl (fun ds hd => ?_) (fun al hl h => ?_) hval hW
  · match ds, hd with
    | [_], _ => rfl
  · match al, hl with
    | [a0], _ =>
      obtain ⟨i0, c0, e0, _, w0, rfl⟩ := h 0 _ a0 rfl rfl
      cases tab64.symm.trans e0
      obtain ⟨x0, rfl, r0⟩ := wc_Front w0
      exact fnExactFrontOk_fc x0 r0
theorem and_t {a b : Bool} (ha : a = true) (hb : b = true) : (a && b) = true := by rw [ha, hb]; rfl
set_option maxRecDepth 100000 in
theorem jf_heard : Try.pinned.checked.prog.stopsHeard = true := by kernel_rfl
set_option maxRecDepth 100000 in
theorem jf_enter : Try.pinned.checked.prog.mayEnter = true := by kernel_rfl
set_option maxRecDepth 100000 in
theorem jf_lift : (Rows.fnExactFrontOkRow.lifted == Try.pinned.checked.prog.liftsFinal) = true := by kernel_rfl
set_option maxRecDepth 100000 in
theorem jf_make : (Try.pinned.checked.prog.make == some Rows.fnExactFrontOkRow.make) = true := by kernel_rfl
set_option maxRecDepth 100000 in
theorem jf_all : joinedFacts Try.pinned.checked.prog 7 Try.f7 Rows.fnExactFrontOkSpec Rows.fnExactFrontOkRow = true := by
  unfold joinedFacts
  exact and_t (and_t (and_t (and_t (and_t (and_t (and_t (and_t (by kernel_rfl) jf_heard) jf_enter) jf_lift) jf_make) (by kernel_rfl)) (by kernel_rfl)) (by kernel_rfl)) (by kernel_rfl)
set_option maxRecDepth 100000 in
theorem fnExactFrontOk_holds : Rows.FnExactFrontOkSaid :=
  OpenClaim.holds_of_wide 7 Try.f7 rfl rfl rfl rfl rfl rfl rfl ⟨rfl, rfl, rfl, rfl, rfl⟩ rfl rfl rfl rfl rfl (by kernel_rfl) Try.func7 jf_all
    (of_decide_eq_true (by kernel_rfl)) (by unfold Func.isWrapper; first | (rw [if_pos (by decide +kernel)]; kernel_rfl) | (rw [if_neg (by decide +kernel)]; exact ⟨rfl, rfl⟩))
    (fun os started H enc _ => fnExactFrontOk_lifted os started H enc)
end Go.Proofs.Ytekomfgofjbemaa
