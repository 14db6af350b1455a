/-
  FnExactBasicsOf returns true, whatever its arguments: its contract, and its row (no condition).
-/
import Derived.Test.YtldlochhiiogbaaRows
import Derived.Test.YtldlochhiiogbaaHFnExactBasicsOf
import Derived.Test.YtldlochhiiogbaaG25y
import Derived.Test.YtldlochhiiogbaaLFnExactBasicsOf
import Derived.Test.YtldlochhiiogbaaLgK7
import Derived.Test.YtldlochhiiogbaaLgK6
namespace Go.Proofs.Ytldlochhiiogbaa
open Go Go.Lg Go.RowKit Go.ChangeShapes Go.WideShapes Go.ChangeAt
set_option linter.unusedVariables false
set_option linter.unusedSimpArgs false
set_option maxHeartbeats 4000000
set_option maxRecDepth 100000
def RngInt64 (x : Int) : Prop := In64 x
def RngInt64S (xs : List Int) : Prop := ∀ x ∈ xs, RngInt64 x
def RngSig (x : List Int) : Prop := RngInt64S x
def RngRule (x : RuleT) : Prop := RngInt64S x.l ∧ RngInt64S x.r
def RngRuleS (xs : List RuleT) : Prop := ∀ x ∈ xs, RngRule x
def RngSystem (x : SystemT) : Prop := RngSig x.sig ∧ RngRuleS x.rules
section
attribute [local irreducible] SW runL runQ runG runQG FC Ret1
def kp4 : List (Nat × List Nat) := [(0, [1, 2]), (1, [1, 2, 5]), (2, [1, 2, 5]), (3, [1, 2, 20]), (4, [4]), (5, [1, 2, 6, 7]), (6, [1, 2, 6, 7, 8]), (7, [1, 2, 6, 7, 8, 9, 10]), (8, [1, 2, 6, 7, 8, 9, 10, 44]), (9, [4]), (10, [1, 2, 6, 7, 8, 9, 10, 49]), (11, [4]), (12, [1, 2, 6, 7, 8, 9, 10, 11]), (13, [1, 2, 6, 7, 9, 10, 11]), (14, [1, 2, 6, 7, 9, 65]), (15, [4]), (16, [1, 2, 6, 7, 9, 12]), (17, [1, 2, 6, 7, 9, 12]), (18, [1, 2, 6, 7, 9, 12, 13]), (19, [1, 2, 6, 7, 9, 12, 13]), (20, [1, 2, 6, 7, 9, 12, 13, 73]), (21, [4]), (22, [1, 2, 6, 7, 9, 12, 76]), (23, [4]), (24, [6, 7, 9, 12, 14, 15]), (25, [9, 12, 92]), (26, [4]), (27, [9, 12, 13]), (28, [12, 13]), (29, [12, 13, 97]), (30, [4]), (31, [100]), (32, [4]), (33, [4])]
attribute [go_sem] kp4
theorem fnExactBasicsOf_fc (aSys : SystemT) (aN : Int) (haSys : RngSystem aSys) (haN : RngInt64 aN) : FC S 4 [] [] [] [SystemD aSys, .int .i64 aN] (.bool true) [] [] := by
  have cS := specBasicsOf_fc aSys aN
  have cI := fun (g : List Nat) (hg : g ≠ []) => implBasicsOf_fc sortK g hg aSys aN
  have cM := basR_mc aSys aN
  generalize basR aSys aN = rR at cS cI cM
  refine fc_bodyT Try.func4 rfl (by kernel_rfl) (by simp [Try.f4]) rfl fun B hB => ?_
  simp only [Try.ntmps4, enumD, List.map_nil, List.map_cons, List.length_map, Nat.zero_add, Nat.reduceAdd]
  refine sw_bnd_agg 0 0 rfl rfl fun hb0_0 => ?_
  simp only [D.bnd, List.length_map] at hb0_0
  refine sw_bnd_agg 0 1 rfl rfl fun hb0_1 => ?_
  simp only [D.bnd, List.length_map] at hb0_1
  repeat' first
    | (refine sw_rebaseAt 6 hB rfl fun B1 N hN => ?_; simp only [go_sem, LS.rebase, mapA, kdc])
    | (refine sw_markA1 hN (i := N + 1) (by omega) markSystem_mk rfl rfl (ta_System (N + 1) _ aSys) rfl rfl rfl rfl (by omega) (by (have : cntSystem aSys ≤ 1048576 := (by first|(simp only [cntInt64S]; omega)|grind [szd]); have := mcle_System aSys; omega)) (by simp) ⟨rfl, rfl, rfl⟩ (by simp) (by (simp only [eraseK, KeepE, KeepX, KeepL, Nat.reduceEqDiff, ↓reduceIte, and_true]; (repeat' first | exact trivial | exact keep_int _ _ _ _ | exact keep_bool _ _ _ | exact keep_box _ _ _ _ | exact keep_KD _ _ _ | exact keep_LT (lt_Int64S _ _) (by omega) | exact keep_LT (lt_Int64SS _ _) (by omega) | exact keep_LT (lt_RuleS _ _) (by omega) | refine And.intro ?_ ?_); done)) (by (simp only [eraseK, KeepE, KeepX, KeepL, Nat.reduceEqDiff, ↓reduceIte, and_true]; (repeat' first | exact trivial | exact keep_int _ _ _ _ | exact keep_bool _ _ _ | exact keep_box _ _ _ _ | exact keep_KD _ _ _ | exact keep_LT (lt_Int64S _ _) (by omega) | exact keep_LT (lt_Int64SS _ _) (by omega) | exact keep_LT (lt_RuleS _ _) (by omega) | refine And.intro ?_ ?_); done)) (by (simp only [eraseK, KeepE, KeepX, KeepL, Nat.reduceEqDiff, ↓reduceIte, and_true]; (repeat' first | exact trivial | exact keep_int _ _ _ _ | exact keep_bool _ _ _ | exact keep_box _ _ _ _ | exact keep_KD _ _ _ | exact keep_LT (lt_Int64S _ _) (by omega) | exact keep_LT (lt_Int64SS _ _) (by omega) | exact keep_LT (lt_RuleS _ _) (by omega) | refine And.intro ?_ ?_); done)) ?_; simp only [go_sem])
    | (refine sw_markS2 hN (i := N + 2) (by omega) markInt64SS_mk rfl (lt_Int64SS [N + 2] (rR)) rfl (by omega) (by (have : cntSystem aSys ≤ 1048576 := (by first|(simp only [cntInt64S]; omega)|grind [szd]); have := mcle_System aSys; have := cM; omega)) (by simp) ⟨rfl, rfl, rfl⟩ (by simp) (by simp) (by (simp only [eraseK, KeepE, KeepX, KeepL, Nat.reduceEqDiff, ↓reduceIte, and_true]; (repeat' first | exact trivial | exact keep_int _ _ _ _ | exact keep_bool _ _ _ | exact keep_box _ _ _ _ | exact keep_KD _ _ _ | exact keep_LT (lt_Int64S _ _) (by omega) | exact keep_LT (lt_Int64SS _ _) (by omega) | exact keep_LT (lt_RuleS _ _) (by omega) | refine And.intro ?_ ?_); done)) (by (simp only [eraseK, KeepE, KeepX, KeepL, Nat.reduceEqDiff, ↓reduceIte, and_true]; (repeat' first | exact trivial | exact keep_int _ _ _ _ | exact keep_bool _ _ _ | exact keep_box _ _ _ _ | exact keep_KD _ _ _ | exact keep_LT (lt_Int64S _ _) (by omega) | exact keep_LT (lt_Int64SS _ _) (by omega) | exact keep_LT (lt_RuleS _ _) (by omega) | refine And.intro ?_ ?_); done)) (by (simp only [eraseK, KeepE, KeepX, KeepL, Nat.reduceEqDiff, ↓reduceIte, and_true]; (repeat' first | exact trivial | exact keep_int _ _ _ _ | exact keep_bool _ _ _ | exact keep_box _ _ _ _ | exact keep_KD _ _ _ | exact keep_LT (lt_Int64S _ _) (by omega) | exact keep_LT (lt_Int64SS _ _) (by omega) | exact keep_LT (lt_RuleS _ _) (by omega) | refine And.intro ?_ ?_); done)) ?_; simp only [go_sem])
    | exact Bool.noConfusion h
    | refine sw_seq ?_
    | refine sw_block ?_
    | refine sw_skip ?_
    | refine sw_inBlock ?_
    | refine sw_go 0 kp4 fun K hK => ?_
    | refine fun (K : List Oper → LS → Prop) (hK : KOk S 0 _ _ _ K) => ?_
    | refine sw_goD kp4 (by kernel_rfl) fun K hK => ?_
    | ((first | refine runL_go ?_ | refine runQ_go ?_); simp (disch := (refine Om.mk ?_; omega)) only [go_sem])
    | (refine hK.nil ?_; clear hK K; simp only [go_sem])
    | (refine runG_fork rfl rfl rfl rfl rfl (fun h => ?_) (fun h => ?_) <;> (try simp (disch := (refine Om.mk ?_; omega)) only [go_sem] at h))
    | (refine runQG_fork rfl rfl rfl rfl rfl (fun h => ?_) (fun h => ?_) <;> (try simp (disch := (refine Om.mk ?_; omega)) only [go_sem] at h))
    | (refine hK.skip rfl (by simp only [dstOk, Nat.reduceLT]) ?_)
    | (refine sw_cond rfl (fun h => ?_) (fun h => ?_) <;> (try simp (disch := (refine Om.mk ?_; omega)) only [go_sem] at h))
    | (refine sw_exit rfl ?_)
    | (refine sw_loopEnd ?_)
    | ((first | refine sw_ret (ret0 ?_) | refine sw_ret ?_); simp (disch := (refine Om.mk ?_; omega)) only [go_sem, Try.results4])
    | refine hK.call rfl rfl rfl (szSystem_fc _ _ (by repeat' (first|apply szd_rng|(constructor <;> omega)))) ⟨(by intro p hp; cases hp), rfl, rfl, (by simp only [dstOk, Nat.reduceLT])⟩ ?_
    | (refine hK.call rfl rfl rfl (FC.args (toSystemL_fc [N + 1] (by simp) aSys (by first|(simp only [cntInt64S]; omega)|grind [szd])) ?le) ⟨(by intro p hp; cases hp), rfl, rfl, (by simp only [dstOk, Nat.reduceLT])⟩ ?_; case le => (simp only [go_sem]; (repeat' first | exact trivial | exact D.le.refl _ | exact KD_le rfl rfl | exact le_Int64SL _ _ | exact le_SigL _ _ | exact le_Int64SSL _ _ | exact le_RuleL _ _ | exact le_RuleSL _ _ | exact le_SystemL _ _ | exact D.le.any | refine And.intro ?_ ?_); done))
    | (refine hK.call rfl rfl rfl (FC.args (eqSystem_fc aSys aSys) ?le) ⟨(by intro p hp; cases hp), rfl, rfl, (by simp only [dstOk, Nat.reduceLT])⟩ ?_; case le => (simp only [go_sem]; (repeat' first | exact trivial | exact D.le.refl _ | exact KD_le rfl rfl | exact le_Int64SL _ _ | exact le_SigL _ _ | exact le_Int64SSL _ _ | exact le_RuleL _ _ | exact le_RuleSL _ _ | exact le_SystemL _ _ | exact D.le.any | refine And.intro ?_ ?_); done))
    | refine hK.call rfl rfl rfl (held_fc heldInt64SS_mk (by omega) (by (have : cntSystem aSys ≤ 1048576 := (by first|(simp only [cntInt64S]; omega)|grind [szd]); have := mcle_System aSys; have := cM; omega))) ⟨(by intro p hp; cases hp), rfl, rfl, (by simp only [dstOk, Nat.reduceLT])⟩ ?_
    | (refine hK.call rfl rfl rfl (FC.args (eqInt64SS_fc .any .any (rR) (rR)) ?le) ⟨(by intro p hp; cases hp), rfl, rfl, (by simp only [dstOk, Nat.reduceLT])⟩ ?_; case le => (simp only [go_sem]; (repeat' first | exact trivial | exact D.le.refl _ | exact KD_le rfl rfl | exact le_Int64SL _ _ | exact le_SigL _ _ | exact le_Int64SSL _ _ | exact le_RuleL _ _ | exact le_RuleSL _ _ | exact le_SystemL _ _ | exact D.le.any | refine And.intro ?_ ?_); done))
    | (refine hK.call rfl rfl rfl (FC.args (cI [N + 2] (by simp)) ?le) ⟨(by intro p hp; cases hp), rfl, rfl, (by simp only [dstOk, Nat.reduceLT])⟩ ?_; case le => (simp only [go_sem]; (repeat' first | exact trivial | exact D.le.refl _ | exact KD_le rfl rfl | exact le_Int64SL _ _ | exact le_SigL _ _ | exact le_Int64SSL _ _ | exact le_RuleL _ _ | exact le_RuleSL _ _ | exact le_SystemL _ _ | exact D.le.any | refine And.intro ?_ ?_); done))
    | refine hK.call rfl rfl rfl (toSystem_fc _ (by first|(simp only [cntInt64S]; omega)|grind [szd])) ⟨(by intro p hp; cases hp), rfl, rfl, (by simp only [dstOk, Nat.reduceLT])⟩ ?_
    | refine hK.call rfl rfl rfl (cS) ⟨(by intro p hp; cases hp), rfl, rfl, (by simp only [dstOk, Nat.reduceLT])⟩ ?_
    | (refine hK.fork rfl rfl rfl (fun h => ?_) (fun h => ?_) <;> (try simp (disch := (refine Om.mk ?_; omega)) only [go_sem] at h))
    | (with_reducible refine And.intro (by first | omega | (simp only [List.length_append, List.length_take, List.length_drop, List.length_cons, List.length_nil, List.length_map]; omega)) ?_)
    | ((with_reducible refine And.intro ?_ ?_); · first | (intro x hx; subst hx; rfl) | exact upR_mem fun _ _ => rfl | exact mapR_mem fun _ _ => rfl | (intro x; refine And.intro ?_ ?_ <;> (intros; subst_vars; rfl)))
    | fail
  all_goals first | omega | exact h trivial | exact absurd rfl h | exact absurd Iff.rfl h | (simp at h; done)
end
theorem own : ownKnob Try.prog.godebug = none := by kernel_rfl
theorem laidOut : laidOutB Try.prog = true := by kernel_rfl
theorem wc_Int64S {cs : List D} (h : WC S 22 cs) : ∃ xs : List Int, cs = [.sl .any (xs.map (.int .i64))] ∧ RngInt64S xs := wc_ints rfl rfl h
theorem wc_Sig {cs : List D} (h : WC S 24 cs) : ∃ x : List Int, cs = [.sl .any (x.map (.int .i64))] ∧ RngSig x := by
  obtain ⟨css, rfl, hl, hc⟩ := wc_st (fs := [(0, 22)]) rfl h
  match css, hl with
  | [c0], _ =>
    obtain ⟨x0, rfl, h0⟩ := wc_Int64S (hc 0 _ c0 rfl rfl)
    exact ⟨x0, rfl, h0⟩
theorem wc_Rule {cs : List D} (h : WC S 80 cs) : ∃ x : RuleT, cs = [.sl .any (x.l.map (.int .i64)), .sl .any (x.r.map (.int .i64))] ∧ RngRule x := by
  obtain ⟨css, rfl, hl, hc⟩ := wc_st (fs := [(0, 22), (1, 22)]) rfl h
  match css, hl with
  | [c0, c1], _ =>
    obtain ⟨x0, rfl, h0⟩ := wc_Int64S (hc 0 _ c0 rfl rfl)
    obtain ⟨x1, rfl, h1⟩ := wc_Int64S (hc 1 _ c1 rfl rfl)
    exact ⟨⟨x0, x1⟩, rfl, ⟨h0, h1⟩⟩
theorem wc_RuleS {cs : List D} (h : WC S 36 cs) : ∃ xs : List RuleT, cs = [.sl .any (xs.map RuleD)] ∧ RngRuleS xs := by
  refine wc_list rfl tab80 h RuleD RngRule fun ds _ hw => ?_
  obtain ⟨x, rfl, hx⟩ := wc_Rule hw
  exact ⟨x, rfl, hx⟩
theorem wc_System {cs : List D} (h : WC S 38 cs) : ∃ x : SystemT, cs = [.sl .any (x.sig.map (.int .i64)), .sl .any (x.rules.map RuleD)] ∧ RngSystem x := by
  obtain ⟨css, rfl, hl, hc⟩ := wc_st (fs := [(0, 24), (1, 36)]) rfl h
  match css, hl with
  | [c0, c1], _ =>
    obtain ⟨x0, rfl, h0⟩ := wc_Sig (hc 0 _ c0 rfl rfl)
    obtain ⟨x1, rfl, h1⟩ := wc_RuleS (hc 1 _ c1 rfl rfl)
    exact ⟨⟨x0, x1⟩, rfl, ⟨h0, h1⟩⟩
set_option maxRecDepth 100000 in
theorem fnExactBasicsOf_lifted (os : Os) (started : os.Started) (H : Type) (enc : TypeId × Value → H) :
    ReturnsInHanded {} Try.checked os 4 .any (Rows.fnExactBasicsOfSpec.pre6 enc Try.prog Try.f4 Rows.fnExactBasicsOfRow.domain false) (Rows.fnExactBasicsOfSpec.post enc Try.prog Try.f4 false true false false) := by
  refine returnsInHanded_of_change (C := Try.checked) own started (by kernel_rfl) Try.func4
    (ChangeSpec.witness6 (enc := enc) (C := Try.checked) false ⟨#[], #[.agg #[.slice none 0 0, .slice none 0 0], .int .i64 0], []⟩ 12 (by kernel_rfl) (by kernel_rfl) (by kernel_rfl) (by kernel_rfl)) ?_
  intro W base args ds gs before hval hW _ _
  refine law_contract S (fn := Try.f4) (ts := [38, 2]) (tb := 4) (m := 20) laidOut (by kernel_rfl) (of_decide_eq_true (by kernel_rfl)) (of_decide_eq_true (by kernel_rfl)) (by kernel_rfl) (by kernel_rfl) rfl (fun ds hd => ?_) (fun al hl h => ?_) hval hW
  · match ds, hd with
    | [_, _], _ => rfl
  · match al, hl with
    | [a0, a1], _ =>
      obtain ⟨i0, c0, e0, _, w0, rfl⟩ := h 0 _ a0 rfl rfl
      cases tab38.symm.trans e0
      obtain ⟨i1, c1, e1, _, w1, rfl⟩ := h 1 _ a1 rfl rfl
      cases tab2.symm.trans e1
      obtain ⟨x0, rfl, r0⟩ := wc_System w0
      obtain ⟨x1, rfl, r1⟩ := wc_int rfl w1
      exact fnExactBasicsOf_fc x0 x1 r0 (in64_wf r1)
theorem and_t {a b : Bool} (ha : a = true) (hb : b = true) : (a && b) = true := by rw [ha, hb]; rfl
set_option maxRecDepth 100000 in
theorem jf_heard : Try.pinned.checked.prog.stopsHeard = true := by kernel_rfl
set_option maxRecDepth 100000 in
theorem jf_enter : Try.pinned.checked.prog.mayEnter = true := by kernel_rfl
set_option maxRecDepth 100000 in
theorem jf_lift : (Rows.fnExactBasicsOfRow.lifted == Try.pinned.checked.prog.liftsFinal) = true := by kernel_rfl
set_option maxRecDepth 100000 in
theorem jf_make : (Try.pinned.checked.prog.make == some Rows.fnExactBasicsOfRow.make) = true := by kernel_rfl
set_option maxRecDepth 100000 in
theorem jf_all : joinedFacts Try.pinned.checked.prog 4 Try.f4 Rows.fnExactBasicsOfSpec Rows.fnExactBasicsOfRow = true := by
  unfold joinedFacts
  exact and_t (and_t (and_t (and_t (and_t (and_t (and_t (and_t (by kernel_rfl) jf_heard) jf_enter) jf_lift) jf_make) (by kernel_rfl)) (by kernel_rfl)) (by kernel_rfl)) (by kernel_rfl)
set_option maxRecDepth 100000 in
theorem fnExactBasicsOf_holds : Rows.FnExactBasicsOfSaid :=
  OpenClaim.holds_of_wide 4 Try.f4 rfl rfl rfl rfl rfl rfl rfl ⟨rfl, rfl, rfl, rfl, rfl⟩ rfl rfl rfl rfl rfl (by kernel_rfl) Try.func4 jf_all
    (of_decide_eq_true (by kernel_rfl)) (by unfold Func.isWrapper; first | (rw [if_pos (by decide +kernel)]; kernel_rfl) | (rw [if_neg (by decide +kernel)]; exact ⟨rfl, rfl⟩))
    (fun os started H enc _ => fnExactBasicsOf_lifted os started H enc)
end Go.Proofs.Ytldlochhiiogbaa
