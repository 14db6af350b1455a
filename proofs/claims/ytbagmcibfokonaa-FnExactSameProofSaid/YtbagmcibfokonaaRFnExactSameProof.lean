/-
  FnExactSameProof returns true, whatever its arguments: its contract, and its row (no condition).
-/
import Derived.Test.YtbagmcibfokonaaRows
import Derived.Test.YtbagmcibfokonaaH
import Derived.Test.YtbagmcibfokonaaA29
import Derived.Test.YtbagmcibfokonaaLgRow
namespace Go.Proofs.Ytbagmcibfokonaa
open Go Go.Lg Go.RowKit Go.ChangeShapes Go.WideShapes Go.ChangeAt
set_option linter.unusedVariables false
set_option linter.unusedSimpArgs false
def RngInt64 (x : Int) : Prop := In64 x
def RngInt64S (xs : List Int) : Prop := ∀ x ∈ xs, RngInt64 x
def RngInt64SS (xs : List (List Int)) : Prop := ∀ x ∈ xs, RngInt64S x
def RngNode (x : NodeT) : Prop := RngInt64 x.kind ∧ RngInt64S x.nums ∧ RngInt64SS x.terms ∧ RngInt64S x.kids
def RngNodeS (xs : List NodeT) : Prop := ∀ x ∈ xs, RngNode x
def RngProof (x : List NodeT) : Prop := RngNodeS x
section
attribute [local irreducible] SW runL runQ runG runQG FC Ret1
def kp7 : List (Nat × List Nat) := [(0, [2, 3]), (1, [2, 3, 5]), (2, [2, 3, 5]), (3, [2, 3, 5, 14]), (4, [4]), (5, [2, 3, 5]), (6, [2, 3, 19]), (7, [4]), (8, [2, 3, 6]), (9, [2, 3, 6, 7]), (10, [2, 3, 6, 7, 8]), (11, [2, 3, 6, 7, 8, 9]), (12, [2, 3, 7, 8, 34]), (13, [4]), (14, [3, 8, 39]), (15, [4]), (16, [44]), (17, [4]), (18, [4])]
attribute [go_sem] kp7
theorem fnExactSameProof_fc (aA : List NodeT) (aB : List NodeT) (haA : RngProof aA) (haB : RngProof aB) : FC S 7 [] [] [] [ProofD aA, ProofD aB] (.bool true) [] [] := by
  refine fc_body Try.func7 rfl (by kernel_rfl) (by simp [Try.f7]) fun B => ?_
  simp only [Try.ntmps7, enumD, List.map_nil, List.map_cons, List.length_map, Nat.zero_add, Nat.reduceAdd]
  refine sw_bnd_agg 0 0 rfl rfl fun hb0_0 => ?_
  simp only [D.bnd, List.length_map] at hb0_0
  refine sw_bnd_agg 1 0 rfl rfl fun hb1_0 => ?_
  simp only [D.bnd, List.length_map] at hb1_0
  repeat' first
    | exact Bool.noConfusion h
    | refine sw_seq ?_
    | refine sw_block ?_
    | refine sw_skip ?_
    | refine sw_inBlock ?_
    | refine sw_go 0 kp7 fun K hK => ?_
    | refine sw_goD kp7 (by kernel_rfl) fun K hK => ?_
    | ((first | refine runL_go ?_ | refine runQ_go ?_); simp (disch := (refine Om.mk ?_; omega)) only [go_sem, Nat.reduceAdd, Nat.reduceMul, Nat.reduceLT, Nat.reduceLeDiff, Nat.reduceEqDiff, Nat.reduceBEq, Nat.reduceSub, ↓reduceIte, reduceCtorEq])
    | (refine hK.nil ?_; clear hK K; simp only [go_sem, Nat.reduceAdd, Nat.reduceMul, Nat.reduceLT, Nat.reduceLeDiff, Nat.reduceEqDiff, Nat.reduceBEq, Nat.reduceSub, ↓reduceIte, reduceCtorEq])
    | (refine runG_fork rfl rfl rfl rfl rfl (fun h => ?_) (fun h => ?_) <;> (try simp (disch := (refine Om.mk ?_; omega)) only [go_sem, Nat.reduceAdd, Nat.reduceMul, Nat.reduceLT, Nat.reduceLeDiff, Nat.reduceEqDiff, Nat.reduceBEq, Nat.reduceSub, ↓reduceIte, reduceCtorEq] at h))
    | (refine runQG_fork rfl rfl rfl rfl rfl (fun h => ?_) (fun h => ?_) <;> (try simp (disch := (refine Om.mk ?_; omega)) only [go_sem, Nat.reduceAdd, Nat.reduceMul, Nat.reduceLT, Nat.reduceLeDiff, Nat.reduceEqDiff, Nat.reduceBEq, Nat.reduceSub, ↓reduceIte, reduceCtorEq] at h))
    | (refine hK.skip rfl (by simp only [dstOk, Nat.reduceLT]) ?_)
    | (refine sw_cond rfl (fun h => ?_) (fun h => ?_) <;> (try simp (disch := (refine Om.mk ?_; omega)) only [go_sem, Nat.reduceAdd, Nat.reduceMul, Nat.reduceLT, Nat.reduceLeDiff, Nat.reduceEqDiff, Nat.reduceBEq, Nat.reduceSub, ↓reduceIte, reduceCtorEq] at h))
    | (refine sw_exit rfl ?_)
    | (refine sw_loopEnd ?_)
    | (refine sw_ret ?_; simp (disch := (refine Om.mk ?_; omega)) only [go_sem, Nat.reduceAdd, Nat.reduceMul, Nat.reduceLT, Nat.reduceLeDiff, Nat.reduceEqDiff, Nat.reduceBEq, Nat.reduceSub, ↓reduceIte, reduceCtorEq, Try.results7])
    | refine hK.call rfl rfl rfl (szProof_fc _ _ (by repeat' (first|apply szd_rng|(constructor <;> omega)))) ⟨(by intro p hp; cases hp), rfl, rfl, (by simp only [dstOk, Nat.reduceLT])⟩ ?_
    | refine hK.call rfl rfl rfl (toProof_fc _ (by first|(simp only [cntInt64S]; omega)|grind [szd])) ⟨(by intro p hp; cases hp), rfl, rfl, (by simp only [dstOk, Nat.reduceLT])⟩ ?_
    | refine hK.call rfl rfl rfl (eqProof_fc _ _) ⟨(by intro p hp; cases hp), rfl, rfl, (by simp only [dstOk, Nat.reduceLT])⟩ ?_
    | refine hK.call rfl rfl rfl (specSameProof_fc aA aB) ⟨(by intro p hp; cases hp), rfl, rfl, (by simp only [dstOk, Nat.reduceLT])⟩ ?_
    | refine hK.call rfl rfl rfl (implSameProof_fc aA aB) ⟨(by intro p hp; cases hp), rfl, rfl, (by simp only [dstOk, Nat.reduceLT])⟩ ?_
    | (refine hK.fork rfl rfl rfl (fun h => ?_) (fun h => ?_) <;> (try simp (disch := (refine Om.mk ?_; omega)) only [go_sem, Nat.reduceAdd, Nat.reduceMul, Nat.reduceLT, Nat.reduceLeDiff, Nat.reduceEqDiff, Nat.reduceBEq, Nat.reduceSub, ↓reduceIte, reduceCtorEq] at h))
    | (with_reducible refine And.intro (by omega) ?_)
    | fail
  all_goals first | exact h trivial | exact absurd rfl h | exact absurd Iff.rfl h | (simp at h; done)
end
theorem own : ownKnob Try.prog.godebug = none := by kernel_rfl
theorem laidOut : laidOutB Try.prog = true := by kernel_rfl
theorem wc_Int64S {cs : List D} (h : WC S 22 cs) : ∃ xs : List Int, cs = [.sl .any (xs.map (.int .i64))] ∧ RngInt64S xs := wc_ints rfl rfl h
theorem wc_Int64SS {cs : List D} (h : WC S 33 cs) : ∃ xs : List (List Int), cs = [.sl .any (xs.map IntsD)] ∧ RngInt64SS xs := by
  refine wc_list rfl tab22 h IntsD RngInt64S fun ds _ hw => ?_
  obtain ⟨x, rfl, hx⟩ := wc_Int64S hw
  exact ⟨x, rfl, hx⟩
theorem wc_Node {cs : List D} (h : WC S 35 cs) : ∃ x : NodeT, cs = [.int .i64 x.kind, .sl .any (x.nums.map (.int .i64)), .sl .any (x.terms.map IntsD), .sl .any (x.kids.map (.int .i64))] ∧ RngNode x := by
  obtain ⟨css, rfl, hl, hc⟩ := wc_st (fs := [(0, 2), (1, 22), (2, 33), (3, 22)]) rfl h
  match css, hl with
  | [c0, c1, c2, c3], _ =>
    obtain ⟨x0, rfl, h0⟩ := wc_int rfl (hc 0 _ c0 rfl rfl)
    obtain ⟨x1, rfl, h1⟩ := wc_Int64S (hc 1 _ c1 rfl rfl)
    obtain ⟨x2, rfl, h2⟩ := wc_Int64SS (hc 2 _ c2 rfl rfl)
    obtain ⟨x3, rfl, h3⟩ := wc_Int64S (hc 3 _ c3 rfl rfl)
    exact ⟨⟨x0, x1, x2, x3⟩, rfl, ⟨in64_wf h0, h1, h2, h3⟩⟩
theorem wc_NodeS {cs : List D} (h : WC S 50 cs) : ∃ xs : List NodeT, cs = [.sl .any (xs.map NodeD)] ∧ RngNodeS xs := by
  refine wc_list rfl tab35 h NodeD RngNode fun ds _ hw => ?_
  obtain ⟨x, rfl, hx⟩ := wc_Node hw
  exact ⟨x, rfl, hx⟩
theorem wc_Proof {cs : List D} (h : WC S 52 cs) : ∃ x : List NodeT, cs = [.sl .any (x.map NodeD)] ∧ RngProof x := by
  obtain ⟨css, rfl, hl, hc⟩ := wc_st (fs := [(0, 50)]) rfl h
  match css, hl with
  | [c0], _ =>
    obtain ⟨x0, rfl, h0⟩ := wc_NodeS (hc 0 _ c0 rfl rfl)
    exact ⟨x0, rfl, h0⟩
set_option maxRecDepth 100000 in
theorem fnExactSameProof_lifted (os : Os) (started : os.Started) (H : Type) (enc : TypeId × Value → H) :
    ReturnsInHanded {} Try.checked os 7 .any (Rows.fnExactSameProofSpec.pre6 enc Try.prog Try.f7 Rows.fnExactSameProofRow.domain false) (Rows.fnExactSameProofSpec.post enc Try.prog Try.f7 false true false false) := by
  refine returnsInHanded_of_change (C := Try.checked) own started (by kernel_rfl) Try.func7
    (ChangeSpec.witness6 (enc := enc) (C := Try.checked) false ⟨#[], #[.agg #[.slice none 0 0], .agg #[.slice none 0 0]], []⟩ 12 (by kernel_rfl) (by kernel_rfl) (by kernel_rfl) (by kernel_rfl)) ?_
  intro W base args ds gs before hval hW _ _
  refine law_contract S (fn := Try.f7) (ts := [52, 52]) (tb := 4) (m := 20) laidOut (by kernel_rfl) (of_decide_eq_true (by kernel_rfl)) (of_decide_eq_true (by kernel_rfl)) (by kernel_rfl) (by kernel_rfl) rfl (fun ds hd => ?_) (fun al hl h => ?_) hval hW
  · match ds, hd with
    | [_, _], _ => rfl
  · match al, hl with
    | [a0, a1], _ =>
      obtain ⟨i0, c0, e0, _, w0, rfl⟩ := h 0 _ a0 rfl rfl
      cases tab52.symm.trans e0
      obtain ⟨i1, c1, e1, _, w1, rfl⟩ := h 1 _ a1 rfl rfl
      cases tab52.symm.trans e1
      obtain ⟨x0, rfl, r0⟩ := wc_Proof w0
      obtain ⟨x1, rfl, r1⟩ := wc_Proof w1
      exact fnExactSameProof_fc x0 x1 r0 r1
set_option maxRecDepth 100000 in
theorem fnExactSameProof_holds : Rows.FnExactSameProofSaid :=
  OpenClaim.holds_of_wide 7 Try.f7 rfl rfl rfl rfl rfl rfl rfl ⟨rfl, rfl, rfl, rfl, rfl⟩ rfl rfl rfl rfl rfl (by kernel_rfl) Try.func7 (by kernel_rfl)
    (of_decide_eq_true (by kernel_rfl)) (by unfold Func.isWrapper; first | (rw [if_pos (by decide +kernel)]; kernel_rfl) | (rw [if_neg (by decide +kernel)]; exact ⟨rfl, rfl⟩))
    (fun os started H enc _ => fnExactSameProof_lifted os started H enc)
end Go.Proofs.Ytbagmcibfokonaa
