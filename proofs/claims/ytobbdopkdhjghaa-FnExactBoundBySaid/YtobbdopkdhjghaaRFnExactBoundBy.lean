/-
  FnExactBoundBy returns true, whatever its arguments: its contract, and its row (no condition).
-/
import Derived.Test.YtobbdopkdhjghaaRows
import Derived.Test.YtobbdopkdhjghaaHFnExactBoundBy
import Derived.Test.YtobbdopkdhjghaaA25
import Derived.Test.YtobbdopkdhjghaaLgK6
namespace Go.Proofs.Ytobbdopkdhjghaa
open Go Go.Lg Go.RowKit Go.ChangeShapes Go.WideShapes Go.ChangeAt
set_option linter.unusedVariables false
set_option linter.unusedSimpArgs false
set_option maxHeartbeats 4000000
def RngInt64 (x : Int) : Prop := In64 x
def RngInt64S (xs : List Int) : Prop := ∀ x ∈ xs, RngInt64 x
def RngSig (x : List Int) : Prop := RngInt64S x
def RngRule (x : RuleT) : Prop := RngInt64S x.l ∧ RngInt64S x.r
def RngRuleS (xs : List RuleT) : Prop := ∀ x ∈ xs, RngRule x
def RngSystem (x : SystemT) : Prop := RngSig x.sig ∧ RngRuleS x.rules
def RngPoly (x : PolyT) : Prop := RngInt64 x.const ∧ RngInt64S x.coef
def RngPolyS (xs : List PolyT) : Prop := ∀ x ∈ xs, RngPoly x
section
attribute [local irreducible] SW runL runQ runG runQG FC
def kp11 : List (Nat × List Nat) := [(0, [1, 2, 3]), (1, [1, 2, 3, 17]), (2, [6]), (3, [1, 2, 3, 7]), (4, [1, 2, 3, 7]), (5, [1, 2, 3, 7, 22]), (6, [6]), (7, [1, 2, 3, 7]), (8, [1, 2, 3, 27]), (9, [6]), (10, [1, 2, 3, 8, 9]), (11, [1, 2, 3, 8, 9, 10]), (12, [1, 2, 3, 8, 9, 10, 11]), (13, [1, 2, 3, 8, 9, 10, 11, 12]), (14, [1, 2, 3, 8, 9, 10, 11, 12, 13, 14]), (15, [1, 2, 3, 10, 11, 12, 58]), (16, [6]), (17, [1, 2, 11, 12, 63]), (18, [6]), (19, [2, 12, 68]), (20, [6]), (21, [73]), (22, [6]), (23, [6])]
attribute [go_sem] kp11
theorem fnExactBoundBy_fc (aSys : SystemT) (aPs : List PolyT) (aT : List Int) (haSys : RngSystem aSys) (haPs : RngPolyS aPs) (haT : RngInt64S aT) : FC S 11 [] [] [] [SystemD aSys, .sl .any (aPs.map PolyD), .sl .any (aT.map (.int .i64))] (.bool true) [] [] := by
  refine fc_body Try.func11 rfl (by kernel_rfl) (by simp [Try.f11]) fun B => ?_
  simp only [Try.ntmps11, enumD, List.map_nil, List.map_cons, List.length_map, Nat.zero_add, Nat.reduceAdd]
  refine sw_bnd_agg 0 0 rfl rfl fun hb0_0 => ?_
  simp only [D.bnd, List.length_map] at hb0_0
  refine sw_bnd_agg 0 1 rfl rfl fun hb0_1 => ?_
  simp only [D.bnd, List.length_map] at hb0_1
  refine sw_bnd 1 rfl fun hb1 => ?_
  simp only [D.bnd, List.length_map] at hb1
  refine sw_bnd 2 rfl fun hb2 => ?_
  simp only [D.bnd, List.length_map] at hb2
  repeat' first
    | exact Bool.noConfusion h
    | refine sw_seq ?_
    | refine sw_block ?_
    | refine sw_skip ?_
    | refine sw_inBlock ?_
    | refine sw_go 0 kp11 fun K hK => ?_
    | refine fun (K : List Oper → LS → Prop) (hK : KOk S 0 _ _ _ K) => ?_
    | refine sw_goD kp11 (by kernel_rfl) fun K hK => ?_
    | ((first | refine runL_go ?_ | refine runQ_go ?_); simp (disch := (refine Om.mk ?_; omega)) only [go_sem, Nat.reduceAdd, Nat.reduceMul, Nat.reduceLT, Nat.reduceLeDiff, Nat.reduceEqDiff, Nat.reduceBEq, Nat.reduceSub, ↓reduceIte, reduceCtorEq])
    | (refine hK.nil ?_; clear hK K; simp only [go_sem, Nat.reduceAdd, Nat.reduceMul, Nat.reduceLT, Nat.reduceLeDiff, Nat.reduceEqDiff, Nat.reduceBEq, Nat.reduceSub, ↓reduceIte, reduceCtorEq])
    | (refine runG_fork rfl rfl rfl rfl rfl (fun h => ?_) (fun h => ?_) <;> (try simp (disch := (refine Om.mk ?_; omega)) only [go_sem, Nat.reduceAdd, Nat.reduceMul, Nat.reduceLT, Nat.reduceLeDiff, Nat.reduceEqDiff, Nat.reduceBEq, Nat.reduceSub, ↓reduceIte, reduceCtorEq] at h))
    | (refine runQG_fork rfl rfl rfl rfl rfl (fun h => ?_) (fun h => ?_) <;> (try simp (disch := (refine Om.mk ?_; omega)) only [go_sem, Nat.reduceAdd, Nat.reduceMul, Nat.reduceLT, Nat.reduceLeDiff, Nat.reduceEqDiff, Nat.reduceBEq, Nat.reduceSub, ↓reduceIte, reduceCtorEq] at h))
    | (refine hK.skip rfl (by simp only [dstOk, Nat.reduceLT]) ?_)
    | (refine sw_cond rfl (fun h => ?_) (fun h => ?_) <;> (try simp (disch := (refine Om.mk ?_; omega)) only [go_sem, Nat.reduceAdd, Nat.reduceMul, Nat.reduceLT, Nat.reduceLeDiff, Nat.reduceEqDiff, Nat.reduceBEq, Nat.reduceSub, ↓reduceIte, reduceCtorEq] at h))
    | (refine sw_exit rfl ?_)
    | (refine sw_loopEnd ?_)
    | ((first | refine sw_ret (ret0 ?_) | refine sw_ret ?_); simp (disch := (refine Om.mk ?_; omega)) only [go_sem, Nat.reduceAdd, Nat.reduceMul, Nat.reduceLT, Nat.reduceLeDiff, Nat.reduceEqDiff, Nat.reduceBEq, Nat.reduceSub, ↓reduceIte, reduceCtorEq, Try.results11])
    | refine hK.call rfl rfl rfl (szSystem_fc _ _ (by repeat' (first|apply szd_rng|(constructor <;> omega)))) ⟨(by intro p hp; cases hp), rfl, rfl, (by simp only [dstOk, Nat.reduceLT])⟩ ?_
    | refine hK.call rfl rfl rfl (szPolyS_fc _ _ _ (by repeat' (first|apply szd_rng|(constructor <;> omega)))) ⟨(by intro p hp; cases hp), rfl, rfl, (by simp only [dstOk, Nat.reduceLT])⟩ ?_
    | refine hK.call rfl rfl rfl (toSystem_fc _ (by first|(simp only [cntInt64S]; omega)|grind [szd])) ⟨(by intro p hp; cases hp), rfl, rfl, (by simp only [dstOk, Nat.reduceLT])⟩ ?_
    | refine hK.call rfl rfl rfl (toPolyS_fc _ _ (by first|(simp only [cntInt64S]; omega)|grind [szd])) ⟨(by intro p hp; cases hp), rfl, rfl, (by simp only [dstOk, Nat.reduceLT])⟩ ?_
    | refine hK.call rfl rfl rfl (toInt64S_fc _ _ (by first|(simp only [cntInt64S]; omega)|grind [szd])) ⟨(by intro p hp; cases hp), rfl, rfl, (by simp only [dstOk, Nat.reduceLT])⟩ ?_
    | refine hK.call rfl rfl rfl (eqSystem_fc _ _) ⟨(by intro p hp; cases hp), rfl, rfl, (by simp only [dstOk, Nat.reduceLT])⟩ ?_
    | refine hK.call rfl rfl rfl (eqPolyS_fc _ _ _ _) ⟨(by intro p hp; cases hp), rfl, rfl, (by simp only [dstOk, Nat.reduceLT])⟩ ?_
    | refine hK.call rfl rfl rfl (eqInt64S_fc _ _ _ _) ⟨(by intro p hp; cases hp), rfl, rfl, (by simp only [dstOk, Nat.reduceLT])⟩ ?_
    | refine hK.call rfl rfl rfl (specBoundBy_fc aSys aPs aT) ⟨(by intro p hp; cases hp), rfl, rfl, (by simp only [dstOk, Nat.reduceLT])⟩ ?_
    | refine hK.call rfl rfl rfl (implBoundBy_fc aSys aPs aT) ⟨(by intro p hp; cases hp), rfl, rfl, (by simp only [dstOk, Nat.reduceLT])⟩ ?_
    | (refine hK.fork rfl rfl rfl (fun h => ?_) (fun h => ?_) <;> (try simp (disch := (refine Om.mk ?_; omega)) only [go_sem, Nat.reduceAdd, Nat.reduceMul, Nat.reduceLT, Nat.reduceLeDiff, Nat.reduceEqDiff, Nat.reduceBEq, Nat.reduceSub, ↓reduceIte, reduceCtorEq] at h))
    | (with_reducible refine And.intro (by first | omega | (simp only [List.length_append, List.length_take, List.length_drop, List.length_cons, List.length_nil, List.length_map]; omega)) ?_)
    | ((with_reducible refine And.intro ?_ ?_); · first | (intro x hx; subst hx; rfl) | exact upR_mem fun _ _ => rfl | exact mapR_mem fun _ _ => rfl | (intro x; refine And.intro ?_ ?_ <;> (intros; subst_vars; rfl)))
    | fail
  all_goals first | exact h trivial | exact absurd rfl h | exact absurd Iff.rfl h | (simp at h; done)
end
theorem own : ownKnob Try.prog.godebug = none := by kernel_rfl
theorem laidOut : laidOutB Try.prog = true := by kernel_rfl
theorem wc_Int64S {cs : List D} (h : WC S 22 cs) : ∃ xs : List Int, cs = [.sl .any (xs.map (.int .i64))] ∧ RngInt64S xs := wc_ints rfl rfl h
theorem wc_Sig {cs : List D} (h : WC S 24 cs) : ∃ x : List Int, cs = [.sl .any (x.map (.int .i64))] ∧ RngSig x := by
  obtain ⟨css, rfl, hl, hc⟩ := wc_st (fs := [(0, 22)]) rfl h
  match css, hl with
  | [c0], _ =>
    obtain ⟨x0, rfl, h0⟩ := wc_Int64S (hc 0 _ c0 rfl rfl)
    exact ⟨x0, rfl, h0⟩
theorem wc_Rule {cs : List D} (h : WC S 215 cs) : ∃ x : RuleT, cs = [.sl .any (x.l.map (.int .i64)), .sl .any (x.r.map (.int .i64))] ∧ RngRule x := by
  obtain ⟨css, rfl, hl, hc⟩ := wc_st (fs := [(0, 22), (1, 22)]) rfl h
  match css, hl with
  | [c0, c1], _ =>
    obtain ⟨x0, rfl, h0⟩ := wc_Int64S (hc 0 _ c0 rfl rfl)
    obtain ⟨x1, rfl, h1⟩ := wc_Int64S (hc 1 _ c1 rfl rfl)
    exact ⟨⟨x0, x1⟩, rfl, ⟨h0, h1⟩⟩
theorem wc_RuleS {cs : List D} (h : WC S 44 cs) : ∃ xs : List RuleT, cs = [.sl .any (xs.map RuleD)] ∧ RngRuleS xs := by
  refine wc_list rfl tab215 h RuleD RngRule fun ds _ hw => ?_
  obtain ⟨x, rfl, hx⟩ := wc_Rule hw
  exact ⟨x, rfl, hx⟩
theorem wc_System {cs : List D} (h : WC S 46 cs) : ∃ x : SystemT, cs = [.sl .any (x.sig.map (.int .i64)), .sl .any (x.rules.map RuleD)] ∧ RngSystem x := by
  obtain ⟨css, rfl, hl, hc⟩ := wc_st (fs := [(0, 24), (1, 44)]) rfl h
  match css, hl with
  | [c0, c1], _ =>
    obtain ⟨x0, rfl, h0⟩ := wc_Sig (hc 0 _ c0 rfl rfl)
    obtain ⟨x1, rfl, h1⟩ := wc_RuleS (hc 1 _ c1 rfl rfl)
    exact ⟨⟨x0, x1⟩, rfl, ⟨h0, h1⟩⟩
theorem wc_Poly {cs : List D} (h : WC S 172 cs) : ∃ x : PolyT, cs = [.int .i64 x.const, .sl .any (x.coef.map (.int .i64))] ∧ RngPoly x := by
  obtain ⟨css, rfl, hl, hc⟩ := wc_st (fs := [(0, 2), (1, 22)]) rfl h
  match css, hl with
  | [c0, c1], _ =>
    obtain ⟨x0, rfl, h0⟩ := wc_int rfl (hc 0 _ c0 rfl rfl)
    obtain ⟨x1, rfl, h1⟩ := wc_Int64S (hc 1 _ c1 rfl rfl)
    exact ⟨⟨x0, x1⟩, rfl, ⟨in64_wf h0, h1⟩⟩
theorem wc_PolyS {cs : List D} (h : WC S 71 cs) : ∃ xs : List PolyT, cs = [.sl .any (xs.map PolyD)] ∧ RngPolyS xs := by
  refine wc_list rfl tab172 h PolyD RngPoly fun ds _ hw => ?_
  obtain ⟨x, rfl, hx⟩ := wc_Poly hw
  exact ⟨x, rfl, hx⟩
set_option maxRecDepth 100000 in
theorem fnExactBoundBy_lifted (os : Os) (started : os.Started) (H : Type) (enc : TypeId × Value → H) :
    ReturnsInHanded {} Try.checked os 11 .any (Rows.fnExactBoundBySpec.pre6 enc Try.prog Try.f11 Rows.fnExactBoundByRow.domain false) (Rows.fnExactBoundBySpec.post enc Try.prog Try.f11 false true false false) := by
  refine returnsInHanded_of_change (C := Try.checked) own started (by kernel_rfl) Try.func11
    (ChangeSpec.witness6 (enc := enc) (C := Try.checked) false ⟨#[], #[.agg #[.slice none 0 0, .slice none 0 0], .slice none 0 0, .slice none 0 0], []⟩ 12 (by kernel_rfl) (by kernel_rfl) (by kernel_rfl) (by kernel_rfl)) ?_
  intro W base args ds gs before hval hW _ _
  refine law_contract S (fn := Try.f11) (ts := [46, 71, 22]) (tb := 4) (m := 20) laidOut (by kernel_rfl) (of_decide_eq_true (by kernel_rfl)) (of_decide_eq_true (by kernel_rfl)) (by kernel_rfl) (by kernel_rfl) rfl (fun ds hd => ?_) (fun al hl h => ?_) hval hW
  · match ds, hd with
    | [_, _, _], _ => rfl
  · match al, hl with
    | [a0, a1, a2], _ =>
      obtain ⟨i0, c0, e0, _, w0, rfl⟩ := h 0 _ a0 rfl rfl
      cases tab46.symm.trans e0
      obtain ⟨i1, c1, e1, _, w1, rfl⟩ := h 1 _ a1 rfl rfl
      cases tab71.symm.trans e1
      obtain ⟨i2, c2, e2, _, w2, rfl⟩ := h 2 _ a2 rfl rfl
      cases tab22.symm.trans e2
      obtain ⟨x0, rfl, r0⟩ := wc_System w0
      obtain ⟨x1, rfl, r1⟩ := wc_PolyS w1
      obtain ⟨x2, rfl, r2⟩ := wc_Int64S w2
      exact fnExactBoundBy_fc x0 x1 x2 r0 r1 r2
theorem and_t {a b : Bool} (ha : a = true) (hb : b = true) : (a && b) = true := by rw [ha, hb]; rfl
set_option maxRecDepth 100000 in
theorem jf_heard : Try.pinned.checked.prog.stopsHeard = true := by kernel_rfl
set_option maxRecDepth 100000 in
theorem jf_enter : Try.pinned.checked.prog.mayEnter = true := by kernel_rfl
set_option maxRecDepth 100000 in
theorem jf_lift : (Rows.fnExactBoundByRow.lifted == Try.pinned.checked.prog.liftsFinal) = true := by kernel_rfl
set_option maxRecDepth 100000 in
theorem jf_make : (Try.pinned.checked.prog.make == some Rows.fnExactBoundByRow.make) = true := by kernel_rfl
set_option maxRecDepth 100000 in
theorem jf_all : joinedFacts Try.pinned.checked.prog 11 Try.f11 Rows.fnExactBoundBySpec Rows.fnExactBoundByRow = true := by
  unfold joinedFacts
  exact and_t (and_t (and_t (and_t (and_t (and_t (and_t (and_t (by kernel_rfl) jf_heard) jf_enter) jf_lift) jf_make) (by kernel_rfl)) (by kernel_rfl)) (by kernel_rfl)) (by kernel_rfl)
set_option maxRecDepth 100000 in
theorem fnExactBoundBy_holds : Rows.FnExactBoundBySaid :=
  OpenClaim.holds_of_wide 11 Try.f11 rfl rfl rfl rfl rfl rfl rfl ⟨rfl, rfl, rfl, rfl, rfl⟩ rfl rfl rfl rfl rfl (by kernel_rfl) Try.func11 jf_all
    (of_decide_eq_true (by kernel_rfl)) (by unfold Func.isWrapper; first | (rw [if_pos (by decide +kernel)]; kernel_rfl) | (rw [if_neg (by decide +kernel)]; exact ⟨rfl, rfl⟩))
    (fun os started H enc _ => fnExactBoundBy_lifted os started H enc)
end Go.Proofs.Ytobbdopkdhjghaa
