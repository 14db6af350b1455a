/-
  Unravelled systems: the plain law; the specification's side.
-/
import Derived.Test.YtgbcnhbmfjkhmaaA27j
namespace Go.Proofs.Ytgbcnhbmfjkhmaa
open Go Go.Lg
set_option linter.unusedSimpArgs false
set_option linter.unusedVariables false
set_option maxHeartbeats 4000000
attribute [local irreducible] SW runL runQ runG runQG FC Ret1 toF redoL
def termU (sym : Int) (t vars : List Int) : List Int := sym :: t ++ vars.map fun v => -1 - v
theorem termU_len (sym : Int) (t vars : List Int) : (termU sym t vars).length = 1 + t.length + vars.length := by simp [termU]; omega
def leftU (r : CRuleT) (sym : Int) : Nat → List Int
  | 0 => r.l
  | i + 1 => termU (sym + i) (r.conds.getD i default).r (heldR0 r i)
def rightU (r : CRuleT) (sym : Int) (i : Nat) : List Int := if i < r.conds.length then termU (sym + i) (r.conds.getD i default).l (heldR0 r i) else r.r
def ruleU (r : CRuleT) (sym : Int) (i : Nat) : RuleT := ⟨leftU r sym i, rightU r sym i⟩
def rulesU (r : CRuleT) (sym : Int) (i : Nat) : List RuleT := (List.range i).map (ruleU r sym)
theorem rulesU_len (r : CRuleT) (sym : Int) (i : Nat) : (rulesU r sym i).length = i := by simp [rulesU]
theorem rulesU_succ (r : CRuleT) (sym : Int) (i : Nat) : rulesU r sym (i + 1) = rulesU r sym i ++ [ruleU r sym i] := by
  unfold rulesU; rw [List.range_succ, List.map_append]; rfl
theorem heldR0_in {r : CRuleT} {k : Nat} (h : HeldP r k) : ∀ v ∈ heldR0 r k, 0 ≤ v ∧ v < 24 := fun v hv => by
  rw [held_eq h] at hv
  have h1 := (List.mem_filter.1 hv).1
  have h2 := List.mem_of_mem_take h1
  have h3 := (List.mem_filter.1 h2).1
  have := (mem_upTo 24 v).1 h3
  omega
theorem heldR0_len {r : CRuleT} {k : Nat} (h : HeldP r k) : (heldR0 r k).length ≤ 24 := by
  rw [held_eq h]
  have h4 := heldG_len r k (heldV r k).length
  have h5 : (heldV r k).length ≤ 24 := varsI_len _ 24
  omega
def kp207 : List (Nat × List Nat) := [(0, [0, 1, 2]), (1, [2, 7]), (2, [2, 7, 8]), (3, [2, 7, 8, 16]), (5, [2, 7, 8]), (4, [2, 7, 8]), (6, [6])]
attribute [go_sem] kp207
theorem l27Term_fc (tk tk1 : Tk) (sym : Int) (t vars : List Int) (hs : -1000 ≤ sym ∧ sym ≤ 1000) (h1 : 1 ≤ t.length) (ht : t.length ≤ 1000) (hv : vars.length ≤ 1000) (hr : ∀ v ∈ vars, 0 ≤ v ∧ v < 24) : FC S 207 [] [] [] [.int .i64 sym, .sl tk (t.map (.int .i64)), .sl tk1 (vars.map (.int .i64))] (.sl .any ((termU sym t vars).map (.int .i64))) [] [] := by
  have hne : t.map (D.int .i64) ≠ [] := fun e => by rw [List.map_eq_nil_iff] at e; rw [e] at h1; simp at h1
  refine FC.args (args' := [.int .i64 sym, .sl .any (t.map (.int .i64)), .sl .any (vars.map (.int .i64))]) ?_ (by simp only [go_sem, Nat.reduceAdd, Nat.reduceMul, Nat.reduceLT, Nat.reduceLeDiff, Nat.reduceEqDiff, Nat.reduceBEq, Nat.reduceSub, ↓reduceIte, reduceCtorEq])
  refine fc_body Try.func207 rfl (by kernel_rfl) (by simp [Try.f207]) fun B => ?_
  simp only [Try.ntmps207, enumD, List.map_nil, List.map_cons, List.length_map, Nat.zero_add, Nat.reduceAdd]
  repeat' first
    | ((refine And.intro hne ?_))
    | exact Bool.noConfusion h
    | refine sw_seq ?_
    | refine sw_block ?_
    | refine sw_skip ?_
    | refine sw_inBlock ?_
    | refine sw_go 0 kp207 fun K hK => ?_
    | refine fun (K : List Oper → LS → Prop) (hK : KOk S 0 _ _ _ K) => ?_
    | ((first | refine runL_go ?_ | refine runQ_go ?_); simp (disch := (refine Om.mk ?_; omega)) only [go_sem, Nat.reduceAdd, Nat.reduceMul, Nat.reduceLT, Nat.reduceLeDiff, Nat.reduceEqDiff, Nat.reduceBEq, Nat.reduceSub, ↓reduceIte, reduceCtorEq])
    | (refine hK.nil ?_; clear hK K; simp only [go_sem, Nat.reduceAdd, Nat.reduceMul, Nat.reduceLT, Nat.reduceLeDiff, Nat.reduceEqDiff, Nat.reduceBEq, Nat.reduceSub, ↓reduceIte, reduceCtorEq])
    | (refine sw_cond rfl (fun h => ?_) (fun h => ?_) <;> (try simp (disch := (refine Om.mk ?_; omega)) only [go_sem, Nat.reduceAdd, Nat.reduceMul, Nat.reduceLT, Nat.reduceLeDiff, Nat.reduceEqDiff, Nat.reduceBEq, Nat.reduceSub, ↓reduceIte, reduceCtorEq] at h))
    | (refine sw_exit rfl ?_)
    | (refine sw_loopEnd ?_)
    | ((first | refine sw_ret (ret0 ?_) | refine sw_ret ?_); simp (disch := (refine Om.mk ?_; omega)) only [go_sem, Nat.reduceAdd, Nat.reduceMul, Nat.reduceLT, Nat.reduceLeDiff, Nat.reduceEqDiff, Nat.reduceBEq, Nat.reduceSub, ↓reduceIte, reduceCtorEq, Try.results207])
    | (with_reducible refine And.intro (by first | omega | (simp only [List.length_append, List.length_take, List.length_drop, List.length_cons, List.length_nil]; omega)) ?_)
    | ((with_reducible refine And.intro ?_ ?_); · first | (intro x hx; subst hx; rfl) | exact upR_mem fun _ _ => rfl | exact mapR_mem fun _ _ => rfl | (intro x; refine And.intro ?_ ?_ <;> (intros; subst_vars; rfl)))
    | fail
  refine sw_renC 13000 27000 rfl rfl ?_
  simp only [go_sem, Nat.reduceAdd, Nat.reduceMul, Nat.reduceLT, Nat.reduceLeDiff, Nat.reduceEqDiff, Nat.reduceBEq, Nat.reduceSub, ↓reduceIte, reduceCtorEq]
  refine sw_loopT (ι := Nat) (fun i => [(8, .int .i64 i), (7, .sl (.own 27000 2 1) ((termU sym t (vars.take i)).map (.int .i64)))]) (fun _ => []) (fun _ => [27000]) (fun i => i ≤ vars.length) (fun i => vars.length - i) 0 (by (refine covers_mk0 rfl rfl ?_ ?_ ?_ ?_ <;> simp (disch := (refine Om.mk ?_; omega)) only [go_sem, Nat.reduceAdd, Nat.reduceMul, Nat.reduceLT, Nat.reduceLeDiff, Nat.reduceEqDiff, Nat.reduceBEq, Nat.reduceSub, ↓reduceIte, reduceCtorEq] <;> (try omega)); all_goals first | rfl | (simp [termU]; done)) (by omega) (fun i hi => ?_)
  simp only [go_sem, Nat.reduceAdd, Nat.reduceMul, Nat.reduceLT, Nat.reduceLeDiff, Nat.reduceEqDiff, Nat.reduceBEq, Nat.reduceSub, ↓reduceIte, reduceCtorEq]
  have htl := termU_len sym t (vars.take i)
  have htk : (vars.take i).length ≤ 1000 := by rw [List.length_take]; omega
  by_cases hil : i < vars.length
  · have hr1 := hr _ (getD_mem vars i hil)
    have hsn : termU sym t (vars.take (i + 1)) = termU sym t (vars.take i) ++ [-1 - vars.getD i default] := by
      unfold termU
      rw [List.take_succ_eq_append_getElem hil, List.map_append, ← List.append_assoc]
      congr 1
      simp [List.getD, hil]
    repeat' first
      | ((exfalso; omega))
      | exact Bool.noConfusion h
      | refine sw_seq ?_
      | refine sw_block ?_
      | refine sw_skip ?_
      | refine sw_inBlock ?_
      | refine sw_go 0 kp207 fun K hK => ?_
      | refine fun (K : List Oper → LS → Prop) (hK : KOk S 0 _ _ _ K) => ?_
      | ((first | refine runL_go ?_ | refine runQ_go ?_); simp (disch := (refine Om.mk ?_; omega)) only [go_sem, Nat.reduceAdd, Nat.reduceMul, Nat.reduceLT, Nat.reduceLeDiff, Nat.reduceEqDiff, Nat.reduceBEq, Nat.reduceSub, ↓reduceIte, reduceCtorEq])
      | (refine hK.nil ?_; clear hK K; simp only [go_sem, Nat.reduceAdd, Nat.reduceMul, Nat.reduceLT, Nat.reduceLeDiff, Nat.reduceEqDiff, Nat.reduceBEq, Nat.reduceSub, ↓reduceIte, reduceCtorEq])
      | (refine sw_cond rfl (fun h => ?_) (fun h => ?_) <;> (try simp (disch := (refine Om.mk ?_; omega)) only [go_sem, Nat.reduceAdd, Nat.reduceMul, Nat.reduceLT, Nat.reduceLeDiff, Nat.reduceEqDiff, Nat.reduceBEq, Nat.reduceSub, ↓reduceIte, reduceCtorEq] at h))
      | (refine sw_exit rfl ?_)
      | (refine sw_loopEnd ?_)
      | ((first | refine sw_ret (ret0 ?_) | refine sw_ret ?_); simp (disch := (refine Om.mk ?_; omega)) only [go_sem, Nat.reduceAdd, Nat.reduceMul, Nat.reduceLT, Nat.reduceLeDiff, Nat.reduceEqDiff, Nat.reduceBEq, Nat.reduceSub, ↓reduceIte, reduceCtorEq, Try.results207])
      | (with_reducible refine And.intro (by first | omega | (simp only [List.length_append, List.length_take, List.length_drop, List.length_cons, List.length_nil]; omega)) ?_)
      | ((with_reducible refine And.intro ?_ ?_); · first | (intro x hx; subst hx; rfl) | exact upR_mem fun _ _ => rfl | exact mapR_mem fun _ _ => rfl | (intro x; refine And.intro ?_ ?_ <;> (intros; subst_vars; rfl)))
      | fail
    exact ⟨i + 1, (by (refine covers_mk0 rfl rfl ?_ ?_ ?_ ?_ <;> simp (disch := (refine Om.mk ?_; omega)) only [go_sem, Nat.reduceAdd, Nat.reduceMul, Nat.reduceLT, Nat.reduceLeDiff, Nat.reduceEqDiff, Nat.reduceBEq, Nat.reduceSub, ↓reduceIte, reduceCtorEq] <;> (try omega)); rw [hsn]; all_goals first | exact ⟨rfl, by omega⟩ | (rw [List.map_append]; exact ⟨rfl, by omega⟩)), by omega, by omega⟩
  · repeat' first
      | ((exfalso; omega))
      | exact Bool.noConfusion h
      | refine sw_seq ?_
      | refine sw_block ?_
      | refine sw_skip ?_
      | refine sw_inBlock ?_
      | refine sw_go 0 kp207 fun K hK => ?_
      | refine fun (K : List Oper → LS → Prop) (hK : KOk S 0 _ _ _ K) => ?_
      | ((first | refine runL_go ?_ | refine runQ_go ?_); simp (disch := (refine Om.mk ?_; omega)) only [go_sem, Nat.reduceAdd, Nat.reduceMul, Nat.reduceLT, Nat.reduceLeDiff, Nat.reduceEqDiff, Nat.reduceBEq, Nat.reduceSub, ↓reduceIte, reduceCtorEq])
      | (refine hK.nil ?_; clear hK K; simp only [go_sem, Nat.reduceAdd, Nat.reduceMul, Nat.reduceLT, Nat.reduceLeDiff, Nat.reduceEqDiff, Nat.reduceBEq, Nat.reduceSub, ↓reduceIte, reduceCtorEq])
      | (refine sw_cond rfl (fun h => ?_) (fun h => ?_) <;> (try simp (disch := (refine Om.mk ?_; omega)) only [go_sem, Nat.reduceAdd, Nat.reduceMul, Nat.reduceLT, Nat.reduceLeDiff, Nat.reduceEqDiff, Nat.reduceBEq, Nat.reduceSub, ↓reduceIte, reduceCtorEq] at h))
      | (refine sw_exit rfl ?_)
      | (refine sw_loopEnd ?_)
      | ((first | refine sw_ret (ret0 ?_) | refine sw_ret ?_); simp (disch := (refine Om.mk ?_; omega)) only [go_sem, Nat.reduceAdd, Nat.reduceMul, Nat.reduceLT, Nat.reduceLeDiff, Nat.reduceEqDiff, Nat.reduceBEq, Nat.reduceSub, ↓reduceIte, reduceCtorEq, Try.results207])
      | (with_reducible refine And.intro (by first | omega | (simp only [List.length_append, List.length_take, List.length_drop, List.length_cons, List.length_nil]; omega)) ?_)
      | ((with_reducible refine And.intro ?_ ?_); · first | (intro x hx; subst hx; rfl) | exact upR_mem fun _ _ => rfl | exact mapR_mem fun _ _ => rfl | (intro x; refine And.intro ?_ ?_ <;> (intros; subst_vars; rfl)))
      | fail
    rw [List.take_of_length_le (by omega)]
structure CLen (r : CRuleT) : Prop where
  hl : 1 ≤ r.l.length ∧ r.l.length ≤ 60
  hr : 1 ≤ r.r.length ∧ r.r.length ≤ 60
  hn : r.conds.length ≤ 2
  hc : ∀ k < r.conds.length, (1 ≤ (r.conds.getD k default).l.length ∧ (r.conds.getD k default).l.length ≤ 60) ∧ (1 ≤ (r.conds.getD k default).r.length ∧ (r.conds.getD k default).r.length ≤ 60)
  hh : ∀ k < r.conds.length, HeldP r k
theorem copyU_fc (tk : Tk) (xs : List Int) (hl : xs.length ≤ 17592186044416) : FC S 125 [] [] [] [.sl tk (xs.map (.int .i64))] (.sl .any (xs.map (.int .i64))) [] [] :=
  (l1Copy_fc tk xs hl).weak .any (by simp) (by simp)
def kp126 : List (Nat × List Nat) := [(0, [1, 2]), (1, [1, 2, 12]), (2, [4]), (3, [1, 2, 5]), (4, [1, 2, 5, 6]), (5, [1, 2, 5, 6, 39]), (7, [1, 2, 5, 6, 7]), (8, [1, 2, 5, 6, 7, 8]), (9, [1, 2, 5, 6, 7, 8, 63]), (10, [1, 2, 5, 6, 7, 8]), (11, [1, 2, 5, 6]), (6, [1, 2, 5, 6]), (12, [4])]
attribute [go_sem] kp126
theorem l27Rules_fc (r : CRuleT) (hC : CLen r) (sym : Int) (hs : 0 ≤ sym ∧ sym ≤ 500) : FC S 126 [] [] [] [CRuleD r, .int .i64 sym] (.sl .any ((rulesU r sym (r.conds.length + 1)).map RuleD)) [] [] := by
  have hl := hC.hl
  have hr := hC.hr
  have hn := hC.hn
  rcases Nat.eq_zero_or_pos r.conds.length with h0 | h0
  · have e : rulesU r sym (r.conds.length + 1) = [⟨r.l, r.r⟩] := by
      rw [h0]; simp [rulesU, ruleU, leftU, rightU, h0]
    rw [e]
    refine fc_body Try.func126 rfl (by kernel_rfl) (by simp [Try.f126]) fun B => ?_
    simp only [Try.ntmps126, enumD, List.map_nil, List.map_cons, List.length_map, Nat.zero_add, Nat.reduceAdd]
    refine sw_bnd_agg 0 2 rfl rfl fun hb0_2 => ?_
    simp only [D.bnd, List.length_map] at hb0_2
    repeat' first
      | ((exfalso; omega))
      | exact Bool.noConfusion h
      | refine sw_seq ?_
      | refine sw_block ?_
      | refine sw_skip ?_
      | refine sw_inBlock ?_
      | refine sw_go 0 kp126 fun K hK => ?_
      | refine fun (K : List Oper → LS → Prop) (hK : KOk S 0 _ _ _ K) => ?_
      | refine sw_goD kp126 (by kernel_rfl) fun K hK => ?_
      | ((first | refine runL_go ?_ | refine runQ_go ?_); simp (disch := (refine Om.mk ?_; omega)) only [go_sem, Nat.reduceAdd, Nat.reduceMul, Nat.reduceLT, Nat.reduceLeDiff, Nat.reduceEqDiff, Nat.reduceBEq, Nat.reduceSub, ↓reduceIte, reduceCtorEq])
      | (refine hK.nil ?_; clear hK K; simp only [go_sem, Nat.reduceAdd, Nat.reduceMul, Nat.reduceLT, Nat.reduceLeDiff, Nat.reduceEqDiff, Nat.reduceBEq, Nat.reduceSub, ↓reduceIte, reduceCtorEq])
      | (refine sw_cond rfl (fun h => ?_) (fun h => ?_) <;> (try simp (disch := (refine Om.mk ?_; omega)) only [go_sem, Nat.reduceAdd, Nat.reduceMul, Nat.reduceLT, Nat.reduceLeDiff, Nat.reduceEqDiff, Nat.reduceBEq, Nat.reduceSub, ↓reduceIte, reduceCtorEq] at h))
      | (refine sw_exit rfl ?_)
      | (refine sw_loopEnd ?_)
      | ((first | refine sw_ret (ret0 ?_) | refine sw_ret ?_); simp (disch := (refine Om.mk ?_; omega)) only [go_sem, Nat.reduceAdd, Nat.reduceMul, Nat.reduceLT, Nat.reduceLeDiff, Nat.reduceEqDiff, Nat.reduceBEq, Nat.reduceSub, ↓reduceIte, reduceCtorEq, Try.results126])
      | refine hK.call rfl rfl rfl (copyU_fc _ r.l (by omega)) ⟨(by intro p hp; cases hp), rfl, rfl, (by simp only [dstOk, Nat.reduceLT])⟩ ?_
      | refine hK.call rfl rfl rfl (copyU_fc _ r.r (by omega)) ⟨(by intro p hp; cases hp), rfl, rfl, (by simp only [dstOk, Nat.reduceLT])⟩ ?_
      | (with_reducible refine And.intro (by first | omega | (simp only [List.length_append, List.length_take, List.length_drop, List.length_cons, List.length_nil]; omega)) ?_)
      | ((with_reducible refine And.intro ?_ ?_); · first | (intro x hx; subst hx; rfl) | exact upR_mem fun _ _ => rfl | exact mapR_mem fun _ _ => rfl | (intro x; refine And.intro ?_ ?_ <;> (intros; subst_vars; rfl)))
      | fail
    all_goals trace_state
  · have hc0 := hC.hc 0 h0
    have hh0 := hC.hh 0 h0
    have hl0 := heldR0_len hh0
    have hi0 := heldR0_in hh0
    refine fc_body Try.func126 rfl (by kernel_rfl) (by simp [Try.f126]) fun B => ?_
    simp only [Try.ntmps126, enumD, List.map_nil, List.map_cons, List.length_map, Nat.zero_add, Nat.reduceAdd]
    refine sw_bnd_agg 0 2 rfl rfl fun hb0_2 => ?_
    simp only [D.bnd, List.length_map] at hb0_2
    repeat' first
      | ((exfalso; omega))
      | exact Bool.noConfusion h
      | refine sw_seq ?_
      | refine sw_block ?_
      | refine sw_skip ?_
      | refine sw_inBlock ?_
      | refine sw_go 0 kp126 fun K hK => ?_
      | refine fun (K : List Oper → LS → Prop) (hK : KOk S 0 _ _ _ K) => ?_
      | refine sw_goD kp126 (by kernel_rfl) fun K hK => ?_
      | ((first | refine runL_go ?_ | refine runQ_go ?_); simp (disch := (refine Om.mk ?_; omega)) only [go_sem, Nat.reduceAdd, Nat.reduceMul, Nat.reduceLT, Nat.reduceLeDiff, Nat.reduceEqDiff, Nat.reduceBEq, Nat.reduceSub, ↓reduceIte, reduceCtorEq])
      | (refine hK.nil ?_; clear hK K; simp only [go_sem, Nat.reduceAdd, Nat.reduceMul, Nat.reduceLT, Nat.reduceLeDiff, Nat.reduceEqDiff, Nat.reduceBEq, Nat.reduceSub, ↓reduceIte, reduceCtorEq])
      | (refine sw_cond rfl (fun h => ?_) (fun h => ?_) <;> (try simp (disch := (refine Om.mk ?_; omega)) only [go_sem, Nat.reduceAdd, Nat.reduceMul, Nat.reduceLT, Nat.reduceLeDiff, Nat.reduceEqDiff, Nat.reduceBEq, Nat.reduceSub, ↓reduceIte, reduceCtorEq] at h))
      | (refine sw_exit rfl ?_)
      | (refine sw_loopEnd ?_)
      | ((first | refine sw_ret (ret0 ?_) | refine sw_ret ?_); simp (disch := (refine Om.mk ?_; omega)) only [go_sem, Nat.reduceAdd, Nat.reduceMul, Nat.reduceLT, Nat.reduceLeDiff, Nat.reduceEqDiff, Nat.reduceBEq, Nat.reduceSub, ↓reduceIte, reduceCtorEq, Try.results126])
      | refine hK.call rfl rfl rfl (copyU_fc _ r.l (by omega)) ⟨(by intro p hp; cases hp), rfl, rfl, (by simp only [dstOk, Nat.reduceLT])⟩ ?_
      | refine hK.call rfl rfl rfl (l27Held_fc r 0 hh0) ⟨(by intro p hp; cases hp), rfl, rfl, (by simp only [dstOk, Nat.reduceLT])⟩ ?_
      | refine hK.call rfl rfl rfl (l27Term_fc _ _ sym (r.conds.getD 0 default).l (heldR0 r 0) (by omega) hc0.1.1 (by omega) (by omega) hi0) ⟨(by intro p hp; cases hp), rfl, rfl, (by simp only [dstOk, Nat.reduceLT])⟩ ?_
      | (with_reducible refine And.intro (by first | omega | (simp only [List.length_append, List.length_take, List.length_drop, List.length_cons, List.length_nil]; omega)) ?_)
      | ((with_reducible refine And.intro ?_ ?_); · first | (intro x hx; subst hx; rfl) | exact upR_mem fun _ _ => rfl | exact mapR_mem fun _ _ => rfl | (intro x; refine And.intro ?_ ?_ <;> (intros; subst_vars; rfl)))
      | fail
    have e1 : [D.agg [D.sl .any (r.l.map (.int .i64)), D.sl .any ((termU sym (r.conds.getD 0 default).l (heldR0 r 0)).map (.int .i64))]] = (rulesU r sym 1).map RuleD := by
      simp [rulesU, ruleU, leftU, rightU, h0, RuleD]
    refine sw_loopT (ι := Nat) (fun i => [(6, .int .i64 i), (5, .sl (match i with | 0 => .full | _ + 1 => .own 86000 75 2) ((rulesU r sym (i + 1)).map RuleD))]) (fun _ => []) (fun i => match i with | 0 => [] | _ + 1 => [86000]) (fun i => i ≤ r.conds.length) (fun i => r.conds.length - i) 0 (by (refine covers_mk0 rfl rfl ?_ ?_ ?_ ?_ <;> simp (disch := (refine Om.mk ?_; omega)) only [go_sem, Nat.reduceAdd, Nat.reduceMul, Nat.reduceLT, Nat.reduceLeDiff, Nat.reduceEqDiff, Nat.reduceBEq, Nat.reduceSub, ↓reduceIte, reduceCtorEq] <;> (try omega)); all_goals first | exact e1 | exact ⟨e1, rfl⟩ | exact ⟨rfl, e1⟩ | trace_state) (by omega) (fun i hi => ?_)
    have hcl := rulesU_len r sym (i + 1)
    have hcl1 := rulesU_len r sym 1
    have hsu := rulesU_succ r sym (i + 1)
    by_cases hil : i < r.conds.length
    · have hci := hC.hc i hil
      have hhi := hC.hh i hil
      have hli := heldR0_len hhi
      have hii := heldR0_in hhi
      have el : leftU r sym (i + 1) = termU (sym + i) (r.conds.getD i default).r (heldR0 r i) := rfl
      by_cases hil2 : i + 1 < r.conds.length
      · have hcj := hC.hc (i + 1) hil2
        have hhj := hC.hh (i + 1) hil2
        have hlj := heldR0_len hhj
        have hij := heldR0_in hhj
        have ez : (((i + 1 : Nat)) : Int) = (i : Int) + 1 := by omega
        have er : rightU r sym (i + 1) = termU (sym + i + 1) (r.conds.getD (i + 1) default).l (heldR0 r (i + 1)) := by
          unfold rightU; rw [if_pos hil2, ez, Int.add_assoc]
        have c1 := l27Held_fc r (i + 1) hhj
        rw [ez] at c1
        have c2 := l27Term_fc .any .any (sym + i + 1) (r.conds.getD (i + 1) default).l (heldR0 r (i + 1)) (by omega) hcj.1.1 (by omega) (by omega) hij
        have c3 := l27Term_fc .any .any (sym + i) (r.conds.getD i default).r (heldR0 r i) (by omega) hci.2.1 (by omega) (by omega) hii
        have eu : ruleU r sym (i + 1) = ⟨termU (sym + i) (r.conds.getD i default).r (heldR0 r i), termU (sym + i + 1) (r.conds.getD (i + 1) default).l (heldR0 r (i + 1))⟩ := by
          unfold ruleU; rw [el, er]
        rcases i with _ | i
        all_goals
          simp only [go_sem, Nat.reduceAdd, Nat.reduceMul, Nat.reduceLT, Nat.reduceLeDiff, Nat.reduceEqDiff, Nat.reduceBEq, Nat.reduceSub, ↓reduceIte, reduceCtorEq]
          repeat' first
            | ((exfalso; omega))
            | exact Bool.noConfusion h
            | refine sw_seq ?_
            | refine sw_block ?_
            | refine sw_skip ?_
            | refine sw_inBlock ?_
            | refine sw_go 0 kp126 fun K hK => ?_
            | refine fun (K : List Oper → LS → Prop) (hK : KOk S 0 _ _ _ K) => ?_
            | refine sw_goD kp126 (by kernel_rfl) fun K hK => ?_
            | ((first | refine runL_go ?_ | refine runQ_go ?_); simp (disch := (refine Om.mk ?_; omega)) only [go_sem, Nat.reduceAdd, Nat.reduceMul, Nat.reduceLT, Nat.reduceLeDiff, Nat.reduceEqDiff, Nat.reduceBEq, Nat.reduceSub, ↓reduceIte, reduceCtorEq])
            | (refine hK.nil ?_; clear hK K; simp only [go_sem, Nat.reduceAdd, Nat.reduceMul, Nat.reduceLT, Nat.reduceLeDiff, Nat.reduceEqDiff, Nat.reduceBEq, Nat.reduceSub, ↓reduceIte, reduceCtorEq])
            | (refine sw_cond rfl (fun h => ?_) (fun h => ?_) <;> (try simp (disch := (refine Om.mk ?_; omega)) only [go_sem, Nat.reduceAdd, Nat.reduceMul, Nat.reduceLT, Nat.reduceLeDiff, Nat.reduceEqDiff, Nat.reduceBEq, Nat.reduceSub, ↓reduceIte, reduceCtorEq] at h))
            | (refine sw_exit rfl ?_)
            | (refine sw_loopEnd ?_)
            | ((first | refine sw_ret (ret0 ?_) | refine sw_ret ?_); simp (disch := (refine Om.mk ?_; omega)) only [go_sem, Nat.reduceAdd, Nat.reduceMul, Nat.reduceLT, Nat.reduceLeDiff, Nat.reduceEqDiff, Nat.reduceBEq, Nat.reduceSub, ↓reduceIte, reduceCtorEq, Try.results126])
            | refine hK.call rfl rfl rfl (l27Held_fc r _ hhi) ⟨(by intro p hp; cases hp), rfl, rfl, (by simp only [dstOk, Nat.reduceLT])⟩ ?_
            | refine hK.call rfl rfl rfl (c1) ⟨(by intro p hp; cases hp), rfl, rfl, (by simp only [dstOk, Nat.reduceLT])⟩ ?_
            | refine hK.call rfl rfl rfl (c2) ⟨(by intro p hp; cases hp), rfl, rfl, (by simp only [dstOk, Nat.reduceLT])⟩ ?_
            | refine hK.call rfl rfl rfl (c3) ⟨(by intro p hp; cases hp), rfl, rfl, (by simp only [dstOk, Nat.reduceLT])⟩ ?_
            | refine hK.call rfl rfl rfl (copyU_fc _ r.r (by omega)) ⟨(by intro p hp; cases hp), rfl, rfl, (by simp only [dstOk, Nat.reduceLT])⟩ ?_
            | (with_reducible refine And.intro (by first | omega | (simp only [List.length_append, List.length_take, List.length_drop, List.length_cons, List.length_nil]; omega)) ?_)
            | ((with_reducible refine And.intro ?_ ?_); · first | (intro x hx; subst hx; rfl) | exact upR_mem fun _ _ => rfl | exact mapR_mem fun _ _ => rfl | (intro x; refine And.intro ?_ ?_ <;> (intros; subst_vars; rfl)))
            | fail
          first
            | exact ⟨1, (by rw [show rulesU r sym (1 + 1) = rulesU r sym 1 ++ [ruleU r sym 1] from hsu, show ruleU r sym 1 = _ from eu]; (refine covers_mk0 rfl rfl ?_ ?_ ?_ ?_ <;> simp (disch := (refine Om.mk ?_; omega)) only [go_sem, Nat.reduceAdd, Nat.reduceMul, Nat.reduceLT, Nat.reduceLeDiff, Nat.reduceEqDiff, Nat.reduceBEq, Nat.reduceSub, ↓reduceIte, reduceCtorEq] <;> (try omega)); rw [List.map_append]; exact ⟨rfl, by omega⟩), by omega, by omega⟩
            | exact ⟨i + 1 + 1, (by rw [hsu, eu]; (refine covers_mk0 rfl rfl ?_ ?_ ?_ ?_ <;> simp (disch := (refine Om.mk ?_; omega)) only [go_sem, Nat.reduceAdd, Nat.reduceMul, Nat.reduceLT, Nat.reduceLeDiff, Nat.reduceEqDiff, Nat.reduceBEq, Nat.reduceSub, ↓reduceIte, reduceCtorEq] <;> (try omega)); rw [List.map_append]; exact ⟨rfl, by omega⟩), by omega, by omega⟩
            | trace_state
      · have c3 := l27Term_fc .any .any (sym + i) (r.conds.getD i default).r (heldR0 r i) (by omega) hci.2.1 (by omega) (by omega) hii
        have eu : ruleU r sym (i + 1) = ⟨termU (sym + i) (r.conds.getD i default).r (heldR0 r i), r.r⟩ := by
          unfold ruleU; rw [el]; unfold rightU; rw [if_neg hil2]
        rcases i with _ | i
        all_goals
          simp only [go_sem, Nat.reduceAdd, Nat.reduceMul, Nat.reduceLT, Nat.reduceLeDiff, Nat.reduceEqDiff, Nat.reduceBEq, Nat.reduceSub, ↓reduceIte, reduceCtorEq]
          repeat' first
            | ((exfalso; omega))
            | exact Bool.noConfusion h
            | refine sw_seq ?_
            | refine sw_block ?_
            | refine sw_skip ?_
            | refine sw_inBlock ?_
            | refine sw_go 0 kp126 fun K hK => ?_
            | refine fun (K : List Oper → LS → Prop) (hK : KOk S 0 _ _ _ K) => ?_
            | refine sw_goD kp126 (by kernel_rfl) fun K hK => ?_
            | ((first | refine runL_go ?_ | refine runQ_go ?_); simp (disch := (refine Om.mk ?_; omega)) only [go_sem, Nat.reduceAdd, Nat.reduceMul, Nat.reduceLT, Nat.reduceLeDiff, Nat.reduceEqDiff, Nat.reduceBEq, Nat.reduceSub, ↓reduceIte, reduceCtorEq])
            | (refine hK.nil ?_; clear hK K; simp only [go_sem, Nat.reduceAdd, Nat.reduceMul, Nat.reduceLT, Nat.reduceLeDiff, Nat.reduceEqDiff, Nat.reduceBEq, Nat.reduceSub, ↓reduceIte, reduceCtorEq])
            | (refine sw_cond rfl (fun h => ?_) (fun h => ?_) <;> (try simp (disch := (refine Om.mk ?_; omega)) only [go_sem, Nat.reduceAdd, Nat.reduceMul, Nat.reduceLT, Nat.reduceLeDiff, Nat.reduceEqDiff, Nat.reduceBEq, Nat.reduceSub, ↓reduceIte, reduceCtorEq] at h))
            | (refine sw_exit rfl ?_)
            | (refine sw_loopEnd ?_)
            | ((first | refine sw_ret (ret0 ?_) | refine sw_ret ?_); simp (disch := (refine Om.mk ?_; omega)) only [go_sem, Nat.reduceAdd, Nat.reduceMul, Nat.reduceLT, Nat.reduceLeDiff, Nat.reduceEqDiff, Nat.reduceBEq, Nat.reduceSub, ↓reduceIte, reduceCtorEq, Try.results126])
            | refine hK.call rfl rfl rfl (l27Held_fc r _ hhi) ⟨(by intro p hp; cases hp), rfl, rfl, (by simp only [dstOk, Nat.reduceLT])⟩ ?_
            | refine hK.call rfl rfl rfl (c3) ⟨(by intro p hp; cases hp), rfl, rfl, (by simp only [dstOk, Nat.reduceLT])⟩ ?_
            | refine hK.call rfl rfl rfl (copyU_fc _ r.r (by omega)) ⟨(by intro p hp; cases hp), rfl, rfl, (by simp only [dstOk, Nat.reduceLT])⟩ ?_
            | (with_reducible refine And.intro (by first | omega | (simp only [List.length_append, List.length_take, List.length_drop, List.length_cons, List.length_nil]; omega)) ?_)
            | ((with_reducible refine And.intro ?_ ?_); · first | (intro x hx; subst hx; rfl) | exact upR_mem fun _ _ => rfl | exact mapR_mem fun _ _ => rfl | (intro x; refine And.intro ?_ ?_ <;> (intros; subst_vars; rfl)))
            | fail
          first
            | exact ⟨1, (by rw [show rulesU r sym (1 + 1) = rulesU r sym 1 ++ [ruleU r sym 1] from hsu, show ruleU r sym 1 = _ from eu]; (refine covers_mk0 rfl rfl ?_ ?_ ?_ ?_ <;> simp (disch := (refine Om.mk ?_; omega)) only [go_sem, Nat.reduceAdd, Nat.reduceMul, Nat.reduceLT, Nat.reduceLeDiff, Nat.reduceEqDiff, Nat.reduceBEq, Nat.reduceSub, ↓reduceIte, reduceCtorEq] <;> (try omega)); rw [List.map_append]; exact ⟨rfl, by omega⟩), by omega, by omega⟩
            | exact ⟨i + 1 + 1, (by rw [hsu, eu]; (refine covers_mk0 rfl rfl ?_ ?_ ?_ ?_ <;> simp (disch := (refine Om.mk ?_; omega)) only [go_sem, Nat.reduceAdd, Nat.reduceMul, Nat.reduceLT, Nat.reduceLeDiff, Nat.reduceEqDiff, Nat.reduceBEq, Nat.reduceSub, ↓reduceIte, reduceCtorEq] <;> (try omega)); rw [List.map_append]; exact ⟨rfl, by omega⟩), by omega, by omega⟩
            | trace_state
    · have hie : i = r.conds.length := by omega
      rcases i with _ | i
      all_goals
        simp only [go_sem, Nat.reduceAdd, Nat.reduceMul, Nat.reduceLT, Nat.reduceLeDiff, Nat.reduceEqDiff, Nat.reduceBEq, Nat.reduceSub, ↓reduceIte, reduceCtorEq]
        repeat' first
          | ((exfalso; omega))
          | exact Bool.noConfusion h
          | refine sw_seq ?_
          | refine sw_block ?_
          | refine sw_skip ?_
          | refine sw_inBlock ?_
          | refine sw_go 0 kp126 fun K hK => ?_
          | refine fun (K : List Oper → LS → Prop) (hK : KOk S 0 _ _ _ K) => ?_
          | refine sw_goD kp126 (by kernel_rfl) fun K hK => ?_
          | ((first | refine runL_go ?_ | refine runQ_go ?_); simp (disch := (refine Om.mk ?_; omega)) only [go_sem, Nat.reduceAdd, Nat.reduceMul, Nat.reduceLT, Nat.reduceLeDiff, Nat.reduceEqDiff, Nat.reduceBEq, Nat.reduceSub, ↓reduceIte, reduceCtorEq])
          | (refine hK.nil ?_; clear hK K; simp only [go_sem, Nat.reduceAdd, Nat.reduceMul, Nat.reduceLT, Nat.reduceLeDiff, Nat.reduceEqDiff, Nat.reduceBEq, Nat.reduceSub, ↓reduceIte, reduceCtorEq])
          | (refine sw_cond rfl (fun h => ?_) (fun h => ?_) <;> (try simp (disch := (refine Om.mk ?_; omega)) only [go_sem, Nat.reduceAdd, Nat.reduceMul, Nat.reduceLT, Nat.reduceLeDiff, Nat.reduceEqDiff, Nat.reduceBEq, Nat.reduceSub, ↓reduceIte, reduceCtorEq] at h))
          | (refine sw_exit rfl ?_)
          | (refine sw_loopEnd ?_)
          | ((first | refine sw_ret (ret0 ?_) | refine sw_ret ?_); simp (disch := (refine Om.mk ?_; omega)) only [go_sem, Nat.reduceAdd, Nat.reduceMul, Nat.reduceLT, Nat.reduceLeDiff, Nat.reduceEqDiff, Nat.reduceBEq, Nat.reduceSub, ↓reduceIte, reduceCtorEq, Try.results126])
          | (with_reducible refine And.intro (by first | omega | (simp only [List.length_append, List.length_take, List.length_drop, List.length_cons, List.length_nil]; omega)) ?_)
          | ((with_reducible refine And.intro ?_ ?_); · first | (intro x hx; subst hx; rfl) | exact upR_mem fun _ _ => rfl | exact mapR_mem fun _ _ => rfl | (intro x; refine And.intro ?_ ?_ <;> (intros; subst_vars; rfl)))
          | fail
        try rw [hie]
end Go.Proofs.Ytgbcnhbmfjkhmaa
