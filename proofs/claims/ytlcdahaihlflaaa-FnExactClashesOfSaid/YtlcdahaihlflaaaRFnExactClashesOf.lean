/-
  FnExactClashesOf returns true, whatever its arguments: its contract, and its row (no condition).
-/
import Derived.Test.YtlcdahaihlflaaaRows
import Derived.Test.YtlcdahaihlflaaaHFnExactClashesOf
import Derived.Test.YtlcdahaihlflaaaU10
import Derived.Test.YtlcdahaihlflaaaU13
import Derived.Test.YtlcdahaihlflaaaLFnExactClashesOf
import Derived.Test.YtlcdahaihlflaaaLgK7
import Derived.Test.YtlcdahaihlflaaaLgK6
namespace Go.Proofs.Ytlcdahaihlflaaa
open Go Go.Lg Go.RowKit Go.ChangeShapes Go.WideShapes Go.ChangeAt
set_option linter.unusedVariables false
set_option linter.unusedSimpArgs false
set_option maxHeartbeats 4000000
set_option maxRecDepth 100000
def RngInt64 (x : Int) : Prop := In64 x
def RngInt64S (xs : List Int) : Prop := ∀ x ∈ xs, RngInt64 x
def RngSig (x : List Int) : Prop := RngInt64S x
def RngInt64SS (xs : List (List Int)) : Prop := ∀ x ∈ xs, RngInt64S x
def RngLine (x : LineT) : Prop := RngInt64 x.fun_ ∧ RngInt64SS x.pats ∧ RngInt64S x.body
def RngLineS (xs : List LineT) : Prop := ∀ x ∈ xs, RngLine x
def RngFront (x : FrontT) : Prop := RngSig x.sig ∧ RngInt64S x.funs ∧ RngLineS x.lines
section
attribute [local irreducible] SW runL runQ runG runQG FC Ret1
def kp3 : List (Nat × List Nat) := [(0, [1]), (1, [1, 3]), (2, [1, 3]), (3, [1, 15]), (4, [2]), (5, [1, 4]), (6, [1, 4, 5]), (7, [1, 4, 5, 6]), (8, [1, 4, 5, 6, 26]), (9, [2]), (10, [1, 4, 5, 6, 31]), (11, [2]), (12, [1, 4, 5, 6, 7]), (13, [1, 4, 6, 7]), (14, [1, 4, 6, 42]), (15, [2]), (16, [1, 4, 6, 8]), (17, [1, 4, 6, 8]), (18, [1, 4, 6, 8, 9]), (19, [1, 4, 6, 8, 9]), (20, [1, 4, 6, 8, 9, 50]), (21, [2]), (22, [1, 4, 6, 8, 53]), (23, [2]), (24, [4, 6, 8, 10]), (25, [6, 8, 60]), (26, [2]), (27, [6, 8, 9]), (28, [8, 9]), (29, [8, 9, 65]), (30, [2]), (31, [68]), (32, [2]), (33, [2])]
attribute [go_sem] kp3
theorem fnExactClashesOf_fc (aF : FrontT) (haF : RngFront aF) : FC S 3 [] [] [] [FrontD aF] (.bool true) [] [] := by
  refine fc_bodyT Try.func3 rfl (by kernel_rfl) (by simp [Try.f3]) rfl fun B hB => ?_
  simp only [Try.ntmps3, enumD, List.map_nil, List.map_cons, List.length_map, Nat.zero_add, Nat.reduceAdd]
  refine sw_bnd_agg 0 0 rfl rfl fun hb0_0 => ?_
  simp only [D.bnd, List.length_map] at hb0_0
  refine sw_bnd_agg 0 1 rfl rfl fun hb0_1 => ?_
  simp only [D.bnd, List.length_map] at hb0_1
  refine sw_bnd_agg 0 2 rfl rfl fun hb0_2 => ?_
  simp only [D.bnd, List.length_map] at hb0_2
  repeat' first
    | (refine sw_rebaseAt 6 hB rfl fun B1 N hN => ?_; simp only [go_sem, LS.rebase, mapA, kdc])
    | (refine sw_markA1 hN (i := N + 1) (by omega) markFront_mk rfl rfl (ta_Front (N + 1) _ aF) rfl rfl rfl rfl (by omega) (by (have : cntFront aF ≤ 1048576 := (by first|(simp only [cntInt64S]; omega)|grind [szd]); have := mcle_Front aF; omega)) (by simp) ⟨rfl, rfl, rfl⟩ (by simp) (by (simp only [eraseK, KeepE, KeepX, KeepL, Nat.reduceEqDiff, ↓reduceIte, and_true]; (repeat' first | exact trivial | exact keep_int _ _ _ _ | exact keep_bool _ _ _ | exact keep_box _ _ _ _ | exact keep_KD _ _ _ | exact keep_LT (lt_Int64S _ _) (by omega) | exact keep_LT (lt_Int64SS _ _) (by omega) | exact keep_LT (lt_LineS _ _) (by omega) | refine And.intro ?_ ?_); done)) (by (simp only [eraseK, KeepE, KeepX, KeepL, Nat.reduceEqDiff, ↓reduceIte, and_true]; (repeat' first | exact trivial | exact keep_int _ _ _ _ | exact keep_bool _ _ _ | exact keep_box _ _ _ _ | exact keep_KD _ _ _ | exact keep_LT (lt_Int64S _ _) (by omega) | exact keep_LT (lt_Int64SS _ _) (by omega) | exact keep_LT (lt_LineS _ _) (by omega) | refine And.intro ?_ ?_); done)) (by (simp only [eraseK, KeepE, KeepX, KeepL, Nat.reduceEqDiff, ↓reduceIte, and_true]; (repeat' first | exact trivial | exact keep_int _ _ _ _ | exact keep_bool _ _ _ | exact keep_box _ _ _ _ | exact keep_KD _ _ _ | exact keep_LT (lt_Int64S _ _) (by omega) | exact keep_LT (lt_Int64SS _ _) (by omega) | exact keep_LT (lt_LineS _ _) (by omega) | refine And.intro ?_ ?_); done)) ?_; simp only [go_sem])
    | (refine sw_markS2 hN (i := N + 2) (by omega) markInt64SS_mk rfl (lt_Int64SS [N + 2] (clR aF)) rfl (by omega) (by (have : cntFront aF ≤ 1048576 := (by first|(simp only [cntInt64S]; omega)|grind [szd]); have := mcle_Front aF; have := clR_mc aF; omega)) (by simp) ⟨rfl, rfl, rfl⟩ (by simp) (by simp) (by (simp only [eraseK, KeepE, KeepX, KeepL, Nat.reduceEqDiff, ↓reduceIte, and_true]; (repeat' first | exact trivial | exact keep_int _ _ _ _ | exact keep_bool _ _ _ | exact keep_box _ _ _ _ | exact keep_KD _ _ _ | exact keep_LT (lt_Int64S _ _) (by omega) | exact keep_LT (lt_Int64SS _ _) (by omega) | exact keep_LT (lt_LineS _ _) (by omega) | refine And.intro ?_ ?_); done)) (by (simp only [eraseK, KeepE, KeepX, KeepL, Nat.reduceEqDiff, ↓reduceIte, and_true]; (repeat' first | exact trivial | exact keep_int _ _ _ _ | exact keep_bool _ _ _ | exact keep_box _ _ _ _ | exact keep_KD _ _ _ | exact keep_LT (lt_Int64S _ _) (by omega) | exact keep_LT (lt_Int64SS _ _) (by omega) | exact keep_LT (lt_LineS _ _) (by omega) | refine And.intro ?_ ?_); done)) (by (simp only [eraseK, KeepE, KeepX, KeepL, Nat.reduceEqDiff, ↓reduceIte, and_true]; (repeat' first | exact trivial | exact keep_int _ _ _ _ | exact keep_bool _ _ _ | exact keep_box _ _ _ _ | exact keep_KD _ _ _ | exact keep_LT (lt_Int64S _ _) (by omega) | exact keep_LT (lt_Int64SS _ _) (by omega) | exact keep_LT (lt_LineS _ _) (by omega) | refine And.intro ?_ ?_); done)) ?_; simp only [go_sem])
    | exact Bool.noConfusion h
    | refine sw_seq ?_
    | refine sw_block ?_
    | refine sw_skip ?_
    | refine sw_inBlock ?_
    | refine sw_go 0 kp3 fun K hK => ?_
    | refine fun (K : List Oper → LS → Prop) (hK : KOk S 0 _ _ _ K) => ?_
    | refine sw_goD kp3 (by kernel_rfl) fun K hK => ?_
    | ((first | refine runL_go ?_ | refine runQ_go ?_); simp (disch := (refine Om.mk ?_; omega)) only [go_sem])
    | (refine hK.nil ?_; clear hK K; simp only [go_sem])
    | (refine runG_fork rfl rfl rfl rfl rfl (fun h => ?_) (fun h => ?_) <;> (try simp (disch := (refine Om.mk ?_; omega)) only [go_sem] at h))
    | (refine runQG_fork rfl rfl rfl rfl rfl (fun h => ?_) (fun h => ?_) <;> (try simp (disch := (refine Om.mk ?_; omega)) only [go_sem] at h))
    | (refine hK.skip rfl (by simp only [dstOk, Nat.reduceLT]) ?_)
    | (refine sw_cond rfl (fun h => ?_) (fun h => ?_) <;> (try simp (disch := (refine Om.mk ?_; omega)) only [go_sem] at h))
    | (refine sw_exit rfl ?_)
    | (refine sw_loopEnd ?_)
    | ((first | refine sw_ret (ret0 ?_) | refine sw_ret ?_); simp (disch := (refine Om.mk ?_; omega)) only [go_sem, Try.results3])
    | refine hK.call rfl rfl rfl (szFront_fc _ _ (by repeat' (first|apply szd_rng|(constructor <;> omega)))) ⟨(by intro p hp; cases hp), rfl, rfl, (by simp only [dstOk, Nat.reduceLT])⟩ ?_
    | (refine hK.call rfl rfl rfl (FC.args (toFrontL_fc [N + 1] (by simp) aF (by first|(simp only [cntInt64S]; omega)|grind [szd])) ?le) ⟨(by intro p hp; cases hp), rfl, rfl, (by simp only [dstOk, Nat.reduceLT])⟩ ?_; case le => (simp only [go_sem]; (repeat' first | exact trivial | exact D.le.refl _ | exact KD_le rfl rfl | exact le_Int64SL _ _ | exact le_SigL _ _ | exact le_Int64SSL _ _ | exact le_LineL _ _ | exact le_LineSL _ _ | exact le_FrontL _ _ | exact D.le.any | refine And.intro ?_ ?_); done))
    | (refine hK.call rfl rfl rfl (FC.args (eqFront_fc aF aF) ?le) ⟨(by intro p hp; cases hp), rfl, rfl, (by simp only [dstOk, Nat.reduceLT])⟩ ?_; case le => (simp only [go_sem]; (repeat' first | exact trivial | exact D.le.refl _ | exact KD_le rfl rfl | exact le_Int64SL _ _ | exact le_SigL _ _ | exact le_Int64SSL _ _ | exact le_LineL _ _ | exact le_LineSL _ _ | exact le_FrontL _ _ | exact D.le.any | refine And.intro ?_ ?_); done))
    | refine hK.call rfl rfl rfl (held_fc heldInt64SS_mk (by omega) (by (have : cntFront aF ≤ 1048576 := (by first|(simp only [cntInt64S]; omega)|grind [szd]); have := mcle_Front aF; have := clR_mc aF; omega))) ⟨(by intro p hp; cases hp), rfl, rfl, (by simp only [dstOk, Nat.reduceLT])⟩ ?_
    | (refine hK.call rfl rfl rfl (FC.args (eqInt64SS_fc .any .any (clR aF) (clR aF)) ?le) ⟨(by intro p hp; cases hp), rfl, rfl, (by simp only [dstOk, Nat.reduceLT])⟩ ?_; case le => (simp only [go_sem]; (repeat' first | exact trivial | exact D.le.refl _ | exact KD_le rfl rfl | exact le_Int64SL _ _ | exact le_SigL _ _ | exact le_Int64SSL _ _ | exact le_LineL _ _ | exact le_LineSL _ _ | exact le_FrontL _ _ | exact D.le.any | refine And.intro ?_ ?_); done))
    | (refine hK.call rfl rfl rfl (FC.args (implClashesOf_fc [N + 2] (by simp) aF) ?le) ⟨(by intro p hp; cases hp), rfl, rfl, (by simp only [dstOk, Nat.reduceLT])⟩ ?_; case le => (simp only [go_sem]; (repeat' first | exact trivial | exact D.le.refl _ | exact KD_le rfl rfl | exact le_Int64SL _ _ | exact le_SigL _ _ | exact le_Int64SSL _ _ | exact le_LineL _ _ | exact le_LineSL _ _ | exact le_FrontL _ _ | exact D.le.any | refine And.intro ?_ ?_); done))
    | refine hK.call rfl rfl rfl (toFront_fc _ (by first|(simp only [cntInt64S]; omega)|grind [szd])) ⟨(by intro p hp; cases hp), rfl, rfl, (by simp only [dstOk, Nat.reduceLT])⟩ ?_
    | refine hK.call rfl rfl rfl (specClashesOf_fc aF) ⟨(by intro p hp; cases hp), rfl, rfl, (by simp only [dstOk, Nat.reduceLT])⟩ ?_
    | (refine hK.fork rfl rfl rfl (fun h => ?_) (fun h => ?_) <;> (try simp (disch := (refine Om.mk ?_; omega)) only [go_sem] at h))
    | (with_reducible refine And.intro (by first | omega | (simp only [List.length_append, List.length_take, List.length_drop, List.length_cons, List.length_nil, List.length_map]; omega)) ?_)
    | ((with_reducible refine And.intro ?_ ?_); · first | (intro x hx; subst hx; rfl) | exact upR_mem fun _ _ => rfl | exact mapR_mem fun _ _ => rfl | (intro x; refine And.intro ?_ ?_ <;> (intros; subst_vars; rfl)))
    | fail
  all_goals first | omega | exact h trivial | exact absurd rfl h | exact absurd Iff.rfl h | (simp at h; done)
end
theorem own : ownKnob Try.prog.godebug = none := by kernel_rfl
theorem laidOut : laidOutB Try.prog = true := by kernel_rfl
theorem wc_Int64S {cs : List D} (h : WC S 22 cs) : ∃ xs : List Int, cs = [.sl .any (xs.map (.int .i64))] ∧ RngInt64S xs := wc_ints rfl rfl h
theorem wc_Sig {cs : List D} (h : WC S 24 cs) : ∃ x : List Int, cs = [.sl .any (x.map (.int .i64))] ∧ RngSig x := by
  obtain ⟨css, rfl, hl, hc⟩ := wc_st (fs := [(0, 22)]) rfl h
  match css, hl with
  | [c0], _ =>
    obtain ⟨x0, rfl, h0⟩ := wc_Int64S (hc 0 _ c0 rfl rfl)
    exact ⟨x0, rfl, h0⟩
theorem wc_Int64SS {cs : List D} (h : WC S 29 cs) : ∃ xs : List (List Int), cs = [.sl .any (xs.map IntsD)] ∧ RngInt64SS xs := by
  refine wc_list rfl tab22 h IntsD RngInt64S fun ds _ hw => ?_
  obtain ⟨x, rfl, hx⟩ := wc_Int64S hw
  exact ⟨x, rfl, hx⟩
theorem wc_Line {cs : List D} (h : WC S 115 cs) : ∃ x : LineT, cs = [.int .i64 x.fun_, .sl .any (x.pats.map IntsD), .sl .any (x.body.map (.int .i64))] ∧ RngLine x := by
  obtain ⟨css, rfl, hl, hc⟩ := wc_st (fs := [(0, 2), (1, 29), (2, 22)]) rfl h
  match css, hl with
  | [c0, c1, c2], _ =>
    obtain ⟨x0, rfl, h0⟩ := wc_int rfl (hc 0 _ c0 rfl rfl)
    obtain ⟨x1, rfl, h1⟩ := wc_Int64SS (hc 1 _ c1 rfl rfl)
    obtain ⟨x2, rfl, h2⟩ := wc_Int64S (hc 2 _ c2 rfl rfl)
    exact ⟨⟨x0, x1, x2⟩, rfl, ⟨in64_wf h0, h1, h2⟩⟩
theorem wc_LineS {cs : List D} (h : WC S 25 cs) : ∃ xs : List LineT, cs = [.sl .any (xs.map LineD)] ∧ RngLineS xs := by
  refine wc_list rfl tab115 h LineD RngLine fun ds _ hw => ?_
  obtain ⟨x, rfl, hx⟩ := wc_Line hw
  exact ⟨x, rfl, hx⟩
theorem wc_Front {cs : List D} (h : WC S 27 cs) : ∃ x : FrontT, cs = [.sl .any (x.sig.map (.int .i64)), .sl .any (x.funs.map (.int .i64)), .sl .any (x.lines.map LineD)] ∧ RngFront x := by
  obtain ⟨css, rfl, hl, hc⟩ := wc_st (fs := [(0, 24), (1, 22), (2, 25)]) rfl h
  match css, hl with
  | [c0, c1, c2], _ =>
    obtain ⟨x0, rfl, h0⟩ := wc_Sig (hc 0 _ c0 rfl rfl)
    obtain ⟨x1, rfl, h1⟩ := wc_Int64S (hc 1 _ c1 rfl rfl)
    obtain ⟨x2, rfl, h2⟩ := wc_LineS (hc 2 _ c2 rfl rfl)
    exact ⟨⟨x0, x1, x2⟩, rfl, ⟨h0, h1, h2⟩⟩
set_option maxRecDepth 100000 in
theorem fnExactClashesOf_lifted (os : Os) (started : os.Started) (H : Type) (enc : TypeId × Value → H) :
    ReturnsInHanded {} Try.checked os 3 .any (Rows.fnExactClashesOfSpec.pre6 enc Try.prog Try.f3 Rows.fnExactClashesOfRow.domain false) (Rows.fnExactClashesOfSpec.post enc Try.prog Try.f3 false true false false) := by
  refine returnsInHanded_of_change (C := Try.checked) own started (by kernel_rfl) Try.func3
    (ChangeSpec.witness6 (enc := enc) (C := Try.checked) false ⟨#[], #[.agg #[.slice none 0 0, .slice none 0 0, .slice none 0 0]], []⟩ 12 (by kernel_rfl) (by kernel_rfl) (by kernel_rfl) (by kernel_rfl)) ?_
  intro W base args ds gs before hval hW _ _
  refine law_contract S (fn := Try.f3) (ts := [27]) (tb := 4) (m := 20) laidOut (by kernel_rfl) (of_decide_eq_true (by kernel_rfl)) (of_decide_eq_true (by kernel_rfl)) (by kernel_rfl) (by kernel_rfl) rfl (fun ds hd => ?_) (fun al hl h => ?_) hval hW
  · match ds, hd with
    | [_], _ => rfl
  · match al, hl with
    | [a0], _ =>
      obtain ⟨i0, c0, e0, _, w0, rfl⟩ := h 0 _ a0 rfl rfl
      cases tab27.symm.trans e0
      obtain ⟨x0, rfl, r0⟩ := wc_Front w0
      exact fnExactClashesOf_fc x0 r0
theorem and_t {a b : Bool} (ha : a = true) (hb : b = true) : (a && b) = true := by rw [ha, hb]; rfl
set_option maxRecDepth 100000 in
theorem jf_heard : Try.pinned.checked.prog.stopsHeard = true := by kernel_rfl
set_option maxRecDepth 100000 in
theorem jf_enter : Try.pinned.checked.prog.mayEnter = true := by kernel_rfl
set_option maxRecDepth 100000 in
theorem jf_lift : (Rows.fnExactClashesOfRow.lifted == Try.pinned.checked.prog.liftsFinal) = true := by kernel_rfl
set_option maxRecDepth 100000 in
theorem jf_make : (Try.pinned.checked.prog.make == some Rows.fnExactClashesOfRow.make) = true := by kernel_rfl
set_option maxRecDepth 100000 in
theorem jf_all : joinedFacts Try.pinned.checked.prog 3 Try.f3 Rows.fnExactClashesOfSpec Rows.fnExactClashesOfRow = true := by
  unfold joinedFacts
  exact and_t (and_t (and_t (and_t (and_t (and_t (and_t (and_t (by kernel_rfl) jf_heard) jf_enter) jf_lift) jf_make) (by kernel_rfl)) (by kernel_rfl)) (by kernel_rfl)) (by kernel_rfl)
set_option maxRecDepth 100000 in
theorem fnExactClashesOf_holds : Rows.FnExactClashesOfSaid :=
  OpenClaim.holds_of_wide 3 Try.f3 rfl rfl rfl rfl rfl rfl rfl ⟨rfl, rfl, rfl, rfl, rfl⟩ rfl rfl rfl rfl rfl (by kernel_rfl) Try.func3 jf_all
    (of_decide_eq_true (by kernel_rfl)) (by unfold Func.isWrapper; first | (rw [if_pos (by decide +kernel)]; kernel_rfl) | (rw [if_neg (by decide +kernel)]; exact ⟨rfl, rfl⟩))
    (fun os started H enc _ => fnExactClashesOf_lifted os started H enc)
end Go.Proofs.Ytlcdahaihlflaaa
