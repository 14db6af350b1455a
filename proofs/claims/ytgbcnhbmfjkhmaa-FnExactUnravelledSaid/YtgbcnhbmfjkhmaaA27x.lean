/-
  Unravelled systems: the program's side.
-/
import Derived.Test.YtgbcnhbmfjkhmaaA27w
namespace Go.Proofs.Ytgbcnhbmfjkhmaa
open Go Go.Lg
set_option linter.unusedSimpArgs false
set_option linter.unusedVariables false
set_option maxHeartbeats 4000000
attribute [local irreducible] SW runL runQ runG runQG FC Ret1 toF redoL
theorem pu_intsU (f : Nat → Bool) (ys : List Int) : (ys.map (D.int .i64)).map (D.pu1 f) = ys.map (.int .i64) := by
  rw [List.map_map]; rfl
attribute [local go_sem] upR_length pu_intsU List.filter_cons
theorem cloneOwnU_fc (tk : Tk) (xs : List Int) (hl : xs.length ≤ 17592186044416) : FC S 94 [] [] [] [.sl tk (xs.map (.int .i64))] (.sl (.own 0 2 1) (xs.map (.int .i64))) [] [0] := by
  refine FC.args (args' := [.sl .any (xs.map (.int .i64))]) ?_ (by simp only [go_sem, Nat.reduceAdd, Nat.reduceMul, Nat.reduceLT, Nat.reduceLeDiff, Nat.reduceEqDiff, Nat.reduceBEq, Nat.reduceSub, ↓reduceIte, reduceCtorEq])
  refine fc_body1 Try.func94 rfl (by kernel_rfl) (by simp [Try.f94]) fun B => ?_
  simp only [Try.ntmps94, enumD, List.map_nil, List.map_cons, List.length_map, Nat.zero_add, Nat.reduceAdd]
  refine sw_bnd 0 rfl fun hb0 => ?_
  simp only [D.bnd, List.length_map] at hb0
  refine sw_nilcase 0 rfl (fun hx => ?_) ?_ <;> simp only [go_sem, Nat.reduceAdd, Nat.reduceMul, Nat.reduceLT, Nat.reduceLeDiff, Nat.reduceEqDiff, Nat.reduceBEq, Nat.reduceSub, ↓reduceIte, reduceCtorEq]
  · have hx : xs = [] := by simpa using hx
    subst hx
    repeat' first
      | (refine sw_tok 2 5000 2 1 rfl (.inl rfl) rfl ?_; simp only [go_sem, Nat.reduceAdd, Nat.reduceMul, Nat.reduceLT, Nat.reduceLeDiff, Nat.reduceEqDiff, Nat.reduceBEq, Nat.reduceSub, ↓reduceIte, reduceCtorEq])
      | exact Bool.noConfusion h
      | refine sw_seq ?_
      | refine sw_block ?_
      | refine sw_skip ?_
      | refine sw_inBlock ?_
      | refine sw_go 0 kp94 fun K hK => ?_
      | refine fun (K : List Oper → LS → Prop) (hK : KOk S 0 _ _ _ K) => ?_
      | ((first | refine runL_go ?_ | refine runQ_go ?_); simp (disch := (refine Om.mk ?_; omega)) only [go_sem, Nat.reduceAdd, Nat.reduceMul, Nat.reduceLT, Nat.reduceLeDiff, Nat.reduceEqDiff, Nat.reduceBEq, Nat.reduceSub, ↓reduceIte, reduceCtorEq])
      | (refine hK.nil ?_; clear hK K; simp only [go_sem, Nat.reduceAdd, Nat.reduceMul, Nat.reduceLT, Nat.reduceLeDiff, Nat.reduceEqDiff, Nat.reduceBEq, Nat.reduceSub, ↓reduceIte, reduceCtorEq])
      | (refine sw_cond rfl (fun h => ?_) (fun h => ?_) <;> (try simp (disch := (refine Om.mk ?_; omega)) only [go_sem, Nat.reduceAdd, Nat.reduceMul, Nat.reduceLT, Nat.reduceLeDiff, Nat.reduceEqDiff, Nat.reduceBEq, Nat.reduceSub, ↓reduceIte, reduceCtorEq] at h))
      | (refine sw_exit rfl ?_)
      | (refine sw_loopEnd ?_)
      | ((first | refine sw_ret (ret0 ?_) | refine sw_ret ?_); simp (disch := (refine Om.mk ?_; omega)) only [go_sem, Nat.reduceAdd, Nat.reduceMul, Nat.reduceLT, Nat.reduceLeDiff, Nat.reduceEqDiff, Nat.reduceBEq, Nat.reduceSub, ↓reduceIte, reduceCtorEq, Try.results94])
      | (with_reducible refine And.intro (by first | omega | (simp only [List.length_append, List.length_take, List.length_drop, List.length_cons, List.length_nil]; omega)) ?_)
      | ((with_reducible refine And.intro ?_ ?_); · first | (intro x hx; subst hx; rfl) | exact upR_mem fun _ _ => rfl | exact mapR_mem fun _ _ => rfl | (intro x; refine And.intro ?_ ?_ <;> (intros; subst_vars; rfl)))
      | fail
    exact ret1_own rfl (by simp)
  · repeat' first
      | exact Bool.noConfusion h
      | refine sw_seq ?_
      | refine sw_block ?_
      | refine sw_skip ?_
      | refine sw_inBlock ?_
      | refine sw_go 0 kp94 fun K hK => ?_
      | refine fun (K : List Oper → LS → Prop) (hK : KOk S 0 _ _ _ K) => ?_
      | ((first | refine runL_go ?_ | refine runQ_go ?_); simp (disch := (refine Om.mk ?_; omega)) only [go_sem, Nat.reduceAdd, Nat.reduceMul, Nat.reduceLT, Nat.reduceLeDiff, Nat.reduceEqDiff, Nat.reduceBEq, Nat.reduceSub, ↓reduceIte, reduceCtorEq])
      | (refine hK.nil ?_; clear hK K; simp only [go_sem, Nat.reduceAdd, Nat.reduceMul, Nat.reduceLT, Nat.reduceLeDiff, Nat.reduceEqDiff, Nat.reduceBEq, Nat.reduceSub, ↓reduceIte, reduceCtorEq])
      | (refine sw_cond rfl (fun h => ?_) (fun h => ?_) <;> (try simp (disch := (refine Om.mk ?_; omega)) only [go_sem, Nat.reduceAdd, Nat.reduceMul, Nat.reduceLT, Nat.reduceLeDiff, Nat.reduceEqDiff, Nat.reduceBEq, Nat.reduceSub, ↓reduceIte, reduceCtorEq] at h))
      | (refine sw_exit rfl ?_)
      | (refine sw_loopEnd ?_)
      | ((first | refine sw_ret (ret0 ?_) | refine sw_ret ?_); simp (disch := (refine Om.mk ?_; omega)) only [go_sem, Nat.reduceAdd, Nat.reduceMul, Nat.reduceLT, Nat.reduceLeDiff, Nat.reduceEqDiff, Nat.reduceBEq, Nat.reduceSub, ↓reduceIte, reduceCtorEq, Try.results94])
      | (with_reducible refine And.intro (by first | omega | (simp only [List.length_append, List.length_take, List.length_drop, List.length_cons, List.length_nil]; omega)) ?_)
      | ((with_reducible refine And.intro ?_ ?_); · first | (intro x hx; subst hx; rfl) | exact upR_mem fun _ _ => rfl | exact mapR_mem fun _ _ => rfl | (intro x; refine And.intro ?_ ?_ <;> (intros; subst_vars; rfl)))
      | fail
    exact ret1_own rfl (by simp)
theorem heldQ_fc (r : CRuleT) (k : Nat) (h0 : HeldP r k) : FC S 215 [] [] [] [CRuleD r, .int .i64 k] (.sl .any ((heldR0 r k).map (.int .i64))) [] [] := by
  rw [held_eq h0]
  exact (held_fc' [0] (by simp) r k h0).weak .any (by simp) (by simp)
def kp131 : List (Nat × List Nat) := [(0, [1, 2]), (1, [1, 2, 4]), (2, [2, 4, 19, 20, 21]), (3, [2, 4, 19, 20, 21, 22]), (4, [2, 4, 6, 19, 20, 21]), (5, [2, 4, 6, 7, 19, 20, 21]), (6, [2, 4, 6, 7, 19, 20, 21, 29, 30, 31]), (7, [2, 4, 6, 7, 19, 20, 21, 29, 30, 31, 32]), (8, [2, 4, 6, 7, 8, 9, 19, 20, 21, 29, 30, 31]), (9, [2, 4, 6, 7, 9, 10, 11, 19, 20, 21, 29, 30, 31]), (10, [2, 4, 6, 7, 9, 10, 11, 19, 20, 21, 29, 30, 31]), (11, [2, 4, 6, 9, 10, 11, 19, 20, 21, 29, 30, 31]), (12, [2, 4, 6, 7, 19, 20, 21, 29, 30, 31]), (13, [2, 4, 6, 7, 19, 20, 21, 29, 30, 31]), (14, [2, 4, 19, 20, 21]), (15, [2, 4, 19, 20, 21]), (16, [2, 3])]
attribute [go_sem] kp131
theorem unravel_fc (p : List Nat) (hp : p ≠ []) (cs : CSystemT) (hs : CSystemOkP cs) : FC S 131 [] [] [] [CSystemD cs] (.tup [SystemL p (unS cs), .bool (tst (SystemOkP (unS cs)))]) [] [] := by
  have hn := hs.1.2
  have hsg := hs.1.1.1
  have hul := unLen hs
  refine fc_body Try.func131 rfl (by kernel_rfl) (by simp [Try.f131]) fun B => ?_
  simp only [Try.ntmps131, enumD, List.map_nil, List.map_cons, List.length_map, Nat.zero_add, Nat.reduceAdd]
  refine sw_bnd_agg 0 1 rfl rfl fun hb0_1 => ?_
  simp only [D.bnd, List.length_map] at hb0_1
  repeat' first
    | exact Bool.noConfusion h
    | refine sw_seq ?_
    | refine sw_block ?_
    | refine sw_skip ?_
    | refine sw_inBlock ?_
    | refine sw_go 0 kp131 fun K hK => ?_
    | refine sw_goT 0 kp131 10 (id := 11) (by kernel_rfl) fun K hK => ?_
    | refine sw_goT 0 kp131 8 (id := 14) (by kernel_rfl) fun K hK => ?_
    | refine sw_goT 0 kp131 3 (id := 16) (by kernel_rfl) fun K hK => ?_
    | refine fun (K : List Oper → LS → Prop) (hK : KOk S 0 _ _ _ K) => ?_
    | refine sw_goD kp131 (by kernel_rfl) fun K hK => ?_
    | ((first | refine runL_go ?_ | refine runQ_go ?_); simp (disch := (refine Om.mk ?_; omega)) only [go_sem, Nat.reduceAdd, Nat.reduceMul, Nat.reduceLT, Nat.reduceLeDiff, Nat.reduceEqDiff, Nat.reduceBEq, Nat.reduceSub, ↓reduceIte, reduceCtorEq])
    | (refine hK.nil ?_; clear hK K; simp only [go_sem, Nat.reduceAdd, Nat.reduceMul, Nat.reduceLT, Nat.reduceLeDiff, Nat.reduceEqDiff, Nat.reduceBEq, Nat.reduceSub, ↓reduceIte, reduceCtorEq])
    | (refine sw_cond rfl (fun h => ?_) (fun h => ?_) <;> (try simp (disch := (refine Om.mk ?_; omega)) only [go_sem, Nat.reduceAdd, Nat.reduceMul, Nat.reduceLT, Nat.reduceLeDiff, Nat.reduceEqDiff, Nat.reduceBEq, Nat.reduceSub, ↓reduceIte, reduceCtorEq] at h))
    | (refine sw_exit rfl ?_)
    | (refine sw_loopEnd ?_)
    | ((first | refine sw_ret (ret0 ?_) | refine sw_ret ?_); simp (disch := (refine Om.mk ?_; omega)) only [go_sem, Nat.reduceAdd, Nat.reduceMul, Nat.reduceLT, Nat.reduceLeDiff, Nat.reduceEqDiff, Nat.reduceBEq, Nat.reduceSub, ↓reduceIte, reduceCtorEq, Try.results131])
    | (refine hK.callB rfl rfl rfl (cloneOwnU_fc _ cs.sig (by omega)) ⟨⟨by simp only [Nat.reduceLT], (by first | (simp; all_goals fail) | (simp [LS.getBox, Lg.look]; all_goals fail)), by (simp [Lg.look]; all_goals fail), by (simp; all_goals fail), by (simp; all_goals fail)⟩, ⟨by (simp [D.ids, D.idsL]; all_goals fail), by (simp [D.ids, D.idsL]; all_goals fail), by (simp [D.tks, D.tksL]; all_goals fail), by (simp [D.tks, D.tksL]; all_goals fail), by (simp; all_goals fail)⟩, rfl⟩ ?_; simp (disch := (refine Om.mk ?_; omega)) only [go_sem, Nat.reduceAdd, Nat.reduceMul, Nat.reduceLT, Nat.reduceLeDiff, Nat.reduceEqDiff, Nat.reduceBEq, Nat.reduceSub, ↓reduceIte, reduceCtorEq])
    | (with_reducible refine And.intro (by first | omega | (simp only [List.length_append, List.length_take, List.length_drop, List.length_cons, List.length_nil]; omega)) ?_)
    | ((with_reducible refine And.intro ?_ ?_); · first | (intro x hx; subst hx; rfl) | exact upR_mem fun _ _ => rfl | exact mapR_mem fun _ _ => rfl | (intro x; refine And.intro ?_ ?_ <;> (intros; subst_vars; rfl)))
    | fail
  refine sw_renC 16000 5 rfl rfl ?_
  simp only [go_sem, Nat.reduceAdd, Nat.reduceMul, Nat.reduceLT, Nat.reduceLeDiff, Nat.reduceEqDiff, Nat.reduceBEq, Nat.reduceSub, ↓reduceIte, reduceCtorEq]
  refine sw_tokBox 4 1 6 75 2 rfl rfl rfl ?_
  simp only [go_sem, Nat.reduceAdd, Nat.reduceMul, Nat.reduceLT, Nat.reduceLeDiff, Nat.reduceEqDiff, Nat.reduceBEq, Nat.reduceSub, ↓reduceIte, reduceCtorEq]
  refine sw_loopT (ι := Nat) (fun j => [(21, .int .i64 j)]) (fun j => [(4, [.sl (.own 5 2 1) ((sigU cs j).map (.int .i64)), .sl (.own 6 75 2) (upR (fun i y => RuleL (p ++ [1] ++ [i]) y) (unS cs).rules (rulU cs j).length)])]) (fun _ => [5, 6]) (fun j => j ≤ cs.rules.length) (fun j => cs.rules.length - j) 0 (by (refine covers_mk0 rfl rfl ?_ ?_ ?_ ?_ <;> simp (disch := (refine Om.mk ?_; omega)) only [go_sem, Nat.reduceAdd, Nat.reduceMul, Nat.reduceLT, Nat.reduceLeDiff, Nat.reduceEqDiff, Nat.reduceBEq, Nat.reduceSub, ↓reduceIte, reduceCtorEq] <;> (try omega)); all_goals first | rfl | exact ⟨rfl, rfl⟩ | trace_state) (by omega) (fun j hj => ?_)
  simp only [go_sem, Nat.reduceAdd, Nat.reduceMul, Nat.reduceLT, Nat.reduceLeDiff, Nat.reduceEqDiff, Nat.reduceBEq, Nat.reduceSub, ↓reduceIte, reduceCtorEq]
  have hulj := hul j hj
  by_cases hjl : j < cs.rules.length
  · have hC := clen_of hs hjl
    have hC1 := hC.hn
    have hCl := hC.hl
    have hCr := hC.hr
    have hget := fun k hk => rulU_get cs hjl (k := k) hk
    have hsu : sigU cs (j + 1) = sigU cs j ++ condsSig (cs.rules.getD j default) (cs.rules.getD j default).conds.length := rfl
    have hrl : (rulU cs (j + 1)).length = (rulU cs j).length + ((cs.rules.getD j default).conds.length + 1) := by
      show (rulU cs j ++ rulesU _ _ _).length = _
      rw [List.length_append, rulesU_len]
    generalize hm : (rulU cs j).length = m at *
    have nl : (cs.rules.getD j default).l ≠ [] := fun e => by rw [e] at hCl; simp at hCl
    repeat' first
      | ((exfalso; omega))
      | exact Bool.noConfusion h
      | refine sw_seq ?_
      | refine sw_block ?_
      | refine sw_skip ?_
      | refine sw_inBlock ?_
      | refine sw_go 0 kp131 fun K hK => ?_
      | refine sw_goT 0 kp131 10 (id := 11) (by kernel_rfl) fun K hK => ?_
      | refine sw_goT 0 kp131 8 (id := 14) (by kernel_rfl) fun K hK => ?_
      | refine sw_goT 0 kp131 3 (id := 16) (by kernel_rfl) fun K hK => ?_
      | refine fun (K : List Oper → LS → Prop) (hK : KOk S 0 _ _ _ K) => ?_
      | refine sw_goD kp131 (by kernel_rfl) fun K hK => ?_
      | ((first | refine runL_go ?_ | refine runQ_go ?_); simp (disch := (refine Om.mk ?_; omega)) only [go_sem, Nat.reduceAdd, Nat.reduceMul, Nat.reduceLT, Nat.reduceLeDiff, Nat.reduceEqDiff, Nat.reduceBEq, Nat.reduceSub, ↓reduceIte, reduceCtorEq])
      | (refine hK.nil ?_; clear hK K; simp only [go_sem, Nat.reduceAdd, Nat.reduceMul, Nat.reduceLT, Nat.reduceLeDiff, Nat.reduceEqDiff, Nat.reduceBEq, Nat.reduceSub, ↓reduceIte, reduceCtorEq])
      | (refine sw_cond rfl (fun h => ?_) (fun h => ?_) <;> (try simp (disch := (refine Om.mk ?_; omega)) only [go_sem, Nat.reduceAdd, Nat.reduceMul, Nat.reduceLT, Nat.reduceLeDiff, Nat.reduceEqDiff, Nat.reduceBEq, Nat.reduceSub, ↓reduceIte, reduceCtorEq] at h))
      | (refine sw_exit rfl ?_)
      | (refine sw_loopEnd ?_)
      | ((first | refine sw_ret (ret0 ?_) | refine sw_ret ?_); simp (disch := (refine Om.mk ?_; omega)) only [go_sem, Nat.reduceAdd, Nat.reduceMul, Nat.reduceLT, Nat.reduceLeDiff, Nat.reduceEqDiff, Nat.reduceBEq, Nat.reduceSub, ↓reduceIte, reduceCtorEq, Try.results131])
      | refine hK.call rfl rfl rfl (cloneL_fc (p ++ [1] ++ [m] ++ [0]) (by simp) _ (cs.rules.getD j default).l nl (by omega)) ⟨(by intro p hp; cases hp), rfl, rfl, (by simp only [dstOk, Nat.reduceLT])⟩ ?_
      | (with_reducible refine And.intro (by first | omega | (simp only [List.length_append, List.length_take, List.length_drop, List.length_cons, List.length_nil]; omega)) ?_)
      | ((with_reducible refine And.intro ?_ ?_); · first | (intro x hx; subst hx; rfl) | exact upR_mem fun _ _ => rfl | exact mapR_mem fun _ _ => rfl | (intro x; refine And.intro ?_ ?_ <;> (intros; subst_vars; rfl)))
      | fail
    refine sw_loopT (ι := Nat) (fun k => [(31, .int .i64 k), (7, Int64SL (p ++ [1] ++ [m + k] ++ [0]) (leftU (cs.rules.getD j default) (sigU cs j).length k))]) (fun k => [(4, [.sl (.own 5 2 1) ((sigU cs j ++ condsSig (cs.rules.getD j default) k).map (.int .i64)), .sl (.own 6 75 2) (upR (fun i y => RuleL (p ++ [1] ++ [i]) y) (unS cs).rules (m + k))])]) (fun _ => [5, 6]) (fun k => k ≤ (cs.rules.getD j default).conds.length) (fun k => (cs.rules.getD j default).conds.length - k) 0 (by (refine covers_mk0 rfl rfl ?_ ?_ ?_ ?_ <;> simp (disch := (refine Om.mk ?_; omega)) only [go_sem, Nat.reduceAdd, Nat.reduceMul, Nat.reduceLT, Nat.reduceLeDiff, Nat.reduceEqDiff, Nat.reduceBEq, Nat.reduceSub, ↓reduceIte, reduceCtorEq] <;> (try omega)); all_goals first | rfl | exact ⟨rfl, rfl⟩ | (simp [condsSig, leftU]; done) | trace_state) (by omega) (fun k hk => ?_)
    simp only [go_sem, Nat.reduceAdd, Nat.reduceMul, Nat.reduceLT, Nat.reduceLeDiff, Nat.reduceEqDiff, Nat.reduceBEq, Nat.reduceSub, ↓reduceIte, reduceCtorEq]
    have hcl := condsSig_len (cs.rules.getD j default) k
    have hcu := condsSig_succ (cs.rules.getD j default) k
    have hsl : (sigU cs j ++ condsSig (cs.rules.getD j default) k).length = (sigU cs j).length + k := by rw [List.length_append]; omega
    have hgk := hget k hk
    have hus := upR_succ (fun i y => RuleL (p ++ [1] ++ [i]) y) (unS cs).rules (m + k)
    rw [hgk.1] at hus
    by_cases hkl : k < (cs.rules.getD j default).conds.length
    · have hh := hC.hh k hkl
      have hck := hC.hc k hkl
      have hhl := heldR0_len hh
      have hhi := heldR0_in hh
      have ez : (((sigU cs j ++ condsSig (cs.rules.getD j default) k).length : Nat) : Int) = (sigU cs j).length + k := by rw [hsl]; omega
      have eL : leftU (cs.rules.getD j default) (sigU cs j).length (k + 1) = termU (((sigU cs j ++ condsSig (cs.rules.getD j default) k).length : Nat) : Int) ((cs.rules.getD j default).conds.getD k default).r (heldR0 (cs.rules.getD j default) k) := by rw [ez]; rfl
      have eu : ruleU (cs.rules.getD j default) (sigU cs j).length k = ⟨leftU (cs.rules.getD j default) (sigU cs j).length k, termU (((sigU cs j ++ condsSig (cs.rules.getD j default) k).length : Nat) : Int) ((cs.rules.getD j default).conds.getD k default).l (heldR0 (cs.rules.getD j default) k)⟩ := by
        rw [ez]; unfold ruleU rightU; rw [if_pos hkl]
      rw [eu] at hus
      simp only [RuleL, Int64SL] at hus
      have c1 := storeL_fc (p ++ [1] ++ [m + k] ++ [1]) (by simp) .any .any (((sigU cs j ++ condsSig (cs.rules.getD j default) k).length : Nat) : Int) ((cs.rules.getD j default).conds.getD k default).l (heldR0 (cs.rules.getD j default) k) (by omega) hck.1.1 (by omega) (by omega) hhi
      have c2 := storeL_fc (p ++ [1] ++ [m + (k + 1)] ++ [0]) (by simp) .any .any (((sigU cs j ++ condsSig (cs.rules.getD j default) k).length : Nat) : Int) ((cs.rules.getD j default).conds.getD k default).r (heldR0 (cs.rules.getD j default) k) (by omega) hck.2.1 (by omega) (by omega) hhi
      repeat' first
        | ((refine sw_renC 51000 5 rfl rfl ?_; simp only [go_sem, Nat.reduceAdd, Nat.reduceMul, Nat.reduceLT, Nat.reduceLeDiff, Nat.reduceEqDiff, Nat.reduceBEq, Nat.reduceSub, ↓reduceIte, reduceCtorEq]))
        | ((refine sw_renC 64000 6 rfl rfl ?_; simp only [go_sem, Nat.reduceAdd, Nat.reduceMul, Nat.reduceLT, Nat.reduceLeDiff, Nat.reduceEqDiff, Nat.reduceBEq, Nat.reduceSub, ↓reduceIte, reduceCtorEq]))
        | ((exfalso; omega))
        | exact Bool.noConfusion h
        | refine sw_seq ?_
        | refine sw_block ?_
        | refine sw_skip ?_
        | refine sw_inBlock ?_
        | refine sw_go 0 kp131 fun K hK => ?_
        | refine sw_goT 0 kp131 10 (id := 11) (by kernel_rfl) fun K hK => ?_
        | refine sw_goT 0 kp131 8 (id := 14) (by kernel_rfl) fun K hK => ?_
        | refine sw_goT 0 kp131 3 (id := 16) (by kernel_rfl) fun K hK => ?_
        | refine fun (K : List Oper → LS → Prop) (hK : KOk S 0 _ _ _ K) => ?_
        | refine sw_goD kp131 (by kernel_rfl) fun K hK => ?_
        | ((first | refine runL_go ?_ | refine runQ_go ?_); simp (disch := (refine Om.mk ?_; omega)) only [go_sem, Nat.reduceAdd, Nat.reduceMul, Nat.reduceLT, Nat.reduceLeDiff, Nat.reduceEqDiff, Nat.reduceBEq, Nat.reduceSub, ↓reduceIte, reduceCtorEq])
        | (refine hK.nil ?_; clear hK K; simp only [go_sem, Nat.reduceAdd, Nat.reduceMul, Nat.reduceLT, Nat.reduceLeDiff, Nat.reduceEqDiff, Nat.reduceBEq, Nat.reduceSub, ↓reduceIte, reduceCtorEq])
        | (refine sw_cond rfl (fun h => ?_) (fun h => ?_) <;> (try simp (disch := (refine Om.mk ?_; omega)) only [go_sem, Nat.reduceAdd, Nat.reduceMul, Nat.reduceLT, Nat.reduceLeDiff, Nat.reduceEqDiff, Nat.reduceBEq, Nat.reduceSub, ↓reduceIte, reduceCtorEq] at h))
        | (refine sw_exit rfl ?_)
        | (refine sw_loopEnd ?_)
        | ((first | refine sw_ret (ret0 ?_) | refine sw_ret ?_); simp (disch := (refine Om.mk ?_; omega)) only [go_sem, Nat.reduceAdd, Nat.reduceMul, Nat.reduceLT, Nat.reduceLeDiff, Nat.reduceEqDiff, Nat.reduceBEq, Nat.reduceSub, ↓reduceIte, reduceCtorEq, Try.results131])
        | refine hK.call rfl rfl rfl (heldQ_fc (cs.rules.getD j default) k hh) ⟨(by intro p hp; cases hp), rfl, rfl, (by simp only [dstOk, Nat.reduceLT])⟩ ?_
        | refine hK.call rfl rfl rfl (c1) ⟨(by intro p hp; cases hp), rfl, rfl, (by simp only [dstOk, Nat.reduceLT])⟩ ?_
        | refine hK.call rfl rfl rfl (c2) ⟨(by intro p hp; cases hp), rfl, rfl, (by simp only [dstOk, Nat.reduceLT])⟩ ?_
        | (with_reducible refine And.intro (by first | omega | (simp only [List.length_append, List.length_take, List.length_drop, List.length_cons, List.length_nil]; omega)) ?_)
        | ((with_reducible refine And.intro ?_ ?_); · first | (intro x hx; subst hx; rfl) | exact upR_mem fun _ _ => rfl | exact mapR_mem fun _ _ => rfl | (intro x; refine And.intro ?_ ?_ <;> (intros; subst_vars; rfl)))
        | fail
      all_goals first | exact ⟨k + 1, (by rw [hcu, show m + (k + 1) = m + k + 1 by omega, hus, eL]; (refine covers_mk0 rfl rfl ?_ ?_ ?_ ?_ <;> simp (disch := (refine Om.mk ?_; omega)) only [go_sem, Nat.reduceAdd, Nat.reduceMul, Nat.reduceLT, Nat.reduceLeDiff, Nat.reduceEqDiff, Nat.reduceBEq, Nat.reduceSub, ↓reduceIte, reduceCtorEq] <;> (try omega)); all_goals first | rfl | exact ⟨rfl, by omega⟩ | (simp; done) | trace_state), by omega, by omega⟩ | trace_state
    · have nr : (cs.rules.getD j default).r ≠ [] := fun e => by rw [e] at hCr; simp at hCr
      have hke : k = (cs.rules.getD j default).conds.length := by omega
      have eu : ruleU (cs.rules.getD j default) (sigU cs j).length k = ⟨leftU (cs.rules.getD j default) (sigU cs j).length k, (cs.rules.getD j default).r⟩ := by
        unfold ruleU rightU; rw [if_neg hkl]
      rw [eu] at hus
      simp only [RuleL, Int64SL] at hus
      have hrl' : (rulU cs (j + 1)).length = m + k + 1 := by omega
      have hsu' : sigU cs (j + 1) = sigU cs j ++ condsSig (cs.rules.getD j default) k := by rw [hke]; exact hsu
      repeat' first
        | ((refine sw_renC 80000 6 rfl rfl ?_; simp only [go_sem, Nat.reduceAdd, Nat.reduceMul, Nat.reduceLT, Nat.reduceLeDiff, Nat.reduceEqDiff, Nat.reduceBEq, Nat.reduceSub, ↓reduceIte, reduceCtorEq]))
        | ((exfalso; omega))
        | exact Bool.noConfusion h
        | refine sw_seq ?_
        | refine sw_block ?_
        | refine sw_skip ?_
        | refine sw_inBlock ?_
        | refine sw_go 0 kp131 fun K hK => ?_
        | refine sw_goT 0 kp131 10 (id := 11) (by kernel_rfl) fun K hK => ?_
        | refine sw_goT 0 kp131 8 (id := 14) (by kernel_rfl) fun K hK => ?_
        | refine sw_goT 0 kp131 3 (id := 16) (by kernel_rfl) fun K hK => ?_
        | refine fun (K : List Oper → LS → Prop) (hK : KOk S 0 _ _ _ K) => ?_
        | refine sw_goD kp131 (by kernel_rfl) fun K hK => ?_
        | ((first | refine runL_go ?_ | refine runQ_go ?_); simp (disch := (refine Om.mk ?_; omega)) only [go_sem, Nat.reduceAdd, Nat.reduceMul, Nat.reduceLT, Nat.reduceLeDiff, Nat.reduceEqDiff, Nat.reduceBEq, Nat.reduceSub, ↓reduceIte, reduceCtorEq])
        | (refine hK.nil ?_; clear hK K; simp only [go_sem, Nat.reduceAdd, Nat.reduceMul, Nat.reduceLT, Nat.reduceLeDiff, Nat.reduceEqDiff, Nat.reduceBEq, Nat.reduceSub, ↓reduceIte, reduceCtorEq])
        | (refine sw_cond rfl (fun h => ?_) (fun h => ?_) <;> (try simp (disch := (refine Om.mk ?_; omega)) only [go_sem, Nat.reduceAdd, Nat.reduceMul, Nat.reduceLT, Nat.reduceLeDiff, Nat.reduceEqDiff, Nat.reduceBEq, Nat.reduceSub, ↓reduceIte, reduceCtorEq] at h))
        | (refine sw_exit rfl ?_)
        | (refine sw_loopEnd ?_)
        | ((first | refine sw_ret (ret0 ?_) | refine sw_ret ?_); simp (disch := (refine Om.mk ?_; omega)) only [go_sem, Nat.reduceAdd, Nat.reduceMul, Nat.reduceLT, Nat.reduceLeDiff, Nat.reduceEqDiff, Nat.reduceBEq, Nat.reduceSub, ↓reduceIte, reduceCtorEq, Try.results131])
        | refine hK.call rfl rfl rfl (cloneL_fc (p ++ [1] ++ [m + k] ++ [1]) (by simp) _ (cs.rules.getD j default).r nr (by omega)) ⟨(by intro p hp; cases hp), rfl, rfl, (by simp only [dstOk, Nat.reduceLT])⟩ ?_
        | (with_reducible refine And.intro (by first | omega | (simp only [List.length_append, List.length_take, List.length_drop, List.length_cons, List.length_nil]; omega)) ?_)
        | ((with_reducible refine And.intro ?_ ?_); · first | (intro x hx; subst hx; rfl) | exact upR_mem fun _ _ => rfl | exact mapR_mem fun _ _ => rfl | (intro x; refine And.intro ?_ ?_ <;> (intros; subst_vars; rfl)))
        | fail
      all_goals first | exact ⟨j + 1, (by rw [hsu', hrl', hus]; (refine covers_mk0 rfl rfl ?_ ?_ ?_ ?_ <;> simp (disch := (refine Om.mk ?_; omega)) only [go_sem, Nat.reduceAdd, Nat.reduceMul, Nat.reduceLT, Nat.reduceLeDiff, Nat.reduceEqDiff, Nat.reduceBEq, Nat.reduceSub, ↓reduceIte, reduceCtorEq] <;> (try omega)); all_goals first | rfl | exact ⟨rfl, by omega⟩ | (simp; done) | trace_state), by omega, by omega⟩ | trace_state
  · have hje : j = cs.rules.length := by omega
    subst hje
    have c : FC S 161 [] [] [] [SystemL p (unS cs)] (.bool (tst (SystemOkP (unS cs)))) [] [] := FC.args (implSystemOk_fc (unS cs)) ⟨le_SystemL p (unS cs), trivial⟩
    simp only [SystemL, RuleSL, RuleL, Int64SL] at c
    have h1 : sigU cs cs.rules.length = (unS cs).sig := rfl
    have h2 : rulU cs cs.rules.length = (unS cs).rules := rfl
    simp only [h1, h2, upR_all]
    repeat' first
      | ((refine sw_labBoxAt 16 4 0 (p ++ [0]) (k := 5) rfl rfl (by simp) (by simp) ?_; simp only [go_sem, Nat.reduceAdd, Nat.reduceMul, Nat.reduceLT, Nat.reduceLeDiff, Nat.reduceEqDiff, Nat.reduceBEq, Nat.reduceSub, ↓reduceIte, reduceCtorEq]))
      | ((refine sw_labBoxAt 16 4 1 (p ++ [1]) (k := 6) rfl rfl (by simp) (by simp) ?_; simp only [go_sem, Nat.reduceAdd, Nat.reduceMul, Nat.reduceLT, Nat.reduceLeDiff, Nat.reduceEqDiff, Nat.reduceBEq, Nat.reduceSub, ↓reduceIte, reduceCtorEq]))
      | ((exfalso; omega))
      | exact Bool.noConfusion h
      | refine sw_seq ?_
      | refine sw_block ?_
      | refine sw_skip ?_
      | refine sw_inBlock ?_
      | refine sw_go 0 kp131 fun K hK => ?_
      | refine sw_goT 0 kp131 10 (id := 11) (by kernel_rfl) fun K hK => ?_
      | refine sw_goT 0 kp131 8 (id := 14) (by kernel_rfl) fun K hK => ?_
      | refine sw_goT 0 kp131 3 (id := 16) (by kernel_rfl) fun K hK => ?_
      | refine fun (K : List Oper → LS → Prop) (hK : KOk S 0 _ _ _ K) => ?_
      | refine sw_goD kp131 (by kernel_rfl) fun K hK => ?_
      | ((first | refine runL_go ?_ | refine runQ_go ?_); simp (disch := (refine Om.mk ?_; omega)) only [go_sem, Nat.reduceAdd, Nat.reduceMul, Nat.reduceLT, Nat.reduceLeDiff, Nat.reduceEqDiff, Nat.reduceBEq, Nat.reduceSub, ↓reduceIte, reduceCtorEq])
      | (refine hK.nil ?_; clear hK K; simp only [go_sem, Nat.reduceAdd, Nat.reduceMul, Nat.reduceLT, Nat.reduceLeDiff, Nat.reduceEqDiff, Nat.reduceBEq, Nat.reduceSub, ↓reduceIte, reduceCtorEq])
      | (refine sw_cond rfl (fun h => ?_) (fun h => ?_) <;> (try simp (disch := (refine Om.mk ?_; omega)) only [go_sem, Nat.reduceAdd, Nat.reduceMul, Nat.reduceLT, Nat.reduceLeDiff, Nat.reduceEqDiff, Nat.reduceBEq, Nat.reduceSub, ↓reduceIte, reduceCtorEq] at h))
      | (refine sw_exit rfl ?_)
      | (refine sw_loopEnd ?_)
      | ((first | refine sw_ret (ret0 ?_) | refine sw_ret ?_); simp (disch := (refine Om.mk ?_; omega)) only [go_sem, Nat.reduceAdd, Nat.reduceMul, Nat.reduceLT, Nat.reduceLeDiff, Nat.reduceEqDiff, Nat.reduceBEq, Nat.reduceSub, ↓reduceIte, reduceCtorEq, Try.results131])
      | refine hK.call rfl rfl rfl (c) ⟨(by intro p hp; cases hp), rfl, rfl, (by simp only [dstOk, Nat.reduceLT])⟩ ?_
      | (with_reducible refine And.intro (by first | omega | (simp only [List.length_append, List.length_take, List.length_drop, List.length_cons, List.length_nil]; omega)) ?_)
      | ((with_reducible refine And.intro ?_ ?_); · first | (intro x hx; subst hx; rfl) | exact upR_mem fun _ _ => rfl | exact mapR_mem fun _ _ => rfl | (intro x; refine And.intro ?_ ?_ <;> (intros; subst_vars; rfl)))
      | fail
    all_goals trace_state
def kp61 : List (Nat × List Nat) := [(0, [1, 2]), (1, [1, 2, 8]), (2, [2, 3]), (3, [2, 4, 5]), (4, [2, 4, 16]), (5, [2, 3]), (6, [2, 3])]
attribute [go_sem] kp61
theorem implUnravelled_fc (p : List Nat) (hp : p ≠ []) (cs : CSystemT) : FC S 61 [] [] [] [CSystemD cs] (.tup [SystemL p (unR cs), .bool (tst (UnP cs))]) [] [] := by
  rcases Classical.em (CSystemOkP cs) with hs | hs
  · rcases Classical.em (SystemOkP (unS cs)) with h2 | h2
    · have hU : UnP cs := ⟨hs, h2⟩
      have c := unravel_fc p hp cs hs
      rw [unR_yes hU, tst_true hU]
      rw [tst_true h2] at c
      refine fc_body Try.func61 rfl (by kernel_rfl) (by simp [Try.f61]) fun B => ?_
      simp only [Try.ntmps61, enumD, List.map_nil, List.map_cons, List.length_map, Nat.zero_add, Nat.reduceAdd]
      refine sw_bnd_agg 0 1 rfl rfl fun hb0_1 => ?_
      simp only [D.bnd, List.length_map] at hb0_1
      repeat' first
        | exact Bool.noConfusion h
        | refine sw_seq ?_
        | refine sw_block ?_
        | refine sw_skip ?_
        | refine sw_inBlock ?_
        | refine sw_go 0 kp61 fun K hK => ?_
        | refine fun (K : List Oper → LS → Prop) (hK : KOk S 0 _ _ _ K) => ?_
        | ((first | refine runL_go ?_ | refine runQ_go ?_); simp (disch := (refine Om.mk ?_; omega)) only [go_sem, Nat.reduceAdd, Nat.reduceMul, Nat.reduceLT, Nat.reduceLeDiff, Nat.reduceEqDiff, Nat.reduceBEq, Nat.reduceSub, ↓reduceIte, reduceCtorEq])
        | (refine hK.nil ?_; clear hK K; simp only [go_sem, Nat.reduceAdd, Nat.reduceMul, Nat.reduceLT, Nat.reduceLeDiff, Nat.reduceEqDiff, Nat.reduceBEq, Nat.reduceSub, ↓reduceIte, reduceCtorEq])
        | (refine sw_cond rfl (fun h => ?_) (fun h => ?_) <;> (try simp (disch := (refine Om.mk ?_; omega)) only [go_sem, Nat.reduceAdd, Nat.reduceMul, Nat.reduceLT, Nat.reduceLeDiff, Nat.reduceEqDiff, Nat.reduceBEq, Nat.reduceSub, ↓reduceIte, reduceCtorEq] at h))
        | (refine sw_exit rfl ?_)
        | (refine sw_loopEnd ?_)
        | ((first | refine sw_ret (ret0 ?_) | refine sw_ret ?_); simp (disch := (refine Om.mk ?_; omega)) only [go_sem, Nat.reduceAdd, Nat.reduceMul, Nat.reduceLT, Nat.reduceLeDiff, Nat.reduceEqDiff, Nat.reduceBEq, Nat.reduceSub, ↓reduceIte, reduceCtorEq, Try.results61])
        | refine hK.call rfl rfl rfl (implCSystemOk_fc cs) ⟨(by intro p hp; cases hp), rfl, rfl, (by simp only [dstOk, Nat.reduceLT])⟩ ?_
        | refine hK.call rfl rfl rfl (c) ⟨(by intro p hp; cases hp), rfl, rfl, (by simp only [dstOk, Nat.reduceLT])⟩ ?_
        | (with_reducible refine And.intro (by first | omega | (simp only [List.length_append, List.length_take, List.length_drop, List.length_cons, List.length_nil]; omega)) ?_)
        | ((with_reducible refine And.intro ?_ ?_); · first | (intro x hx; subst hx; rfl) | exact upR_mem fun _ _ => rfl | exact mapR_mem fun _ _ => rfl | (intro x; refine And.intro ?_ ?_ <;> (intros; subst_vars; rfl)))
        | fail
      all_goals first | exact absurd hs (by assumption) | trace_state
    · have hU : ¬ UnP cs := fun h => h2 h.2
      have c := unravel_fc p hp cs hs
      rw [unR_no hU, tst_false hU]
      rw [tst_false h2] at c
      refine fc_body Try.func61 rfl (by kernel_rfl) (by simp [Try.f61]) fun B => ?_
      simp only [Try.ntmps61, enumD, List.map_nil, List.map_cons, List.length_map, Nat.zero_add, Nat.reduceAdd]
      refine sw_bnd_agg 0 1 rfl rfl fun hb0_1 => ?_
      simp only [D.bnd, List.length_map] at hb0_1
      repeat' first
        | exact Bool.noConfusion h
        | refine sw_seq ?_
        | refine sw_block ?_
        | refine sw_skip ?_
        | refine sw_inBlock ?_
        | refine sw_go 0 kp61 fun K hK => ?_
        | refine fun (K : List Oper → LS → Prop) (hK : KOk S 0 _ _ _ K) => ?_
        | ((first | refine runL_go ?_ | refine runQ_go ?_); simp (disch := (refine Om.mk ?_; omega)) only [go_sem, Nat.reduceAdd, Nat.reduceMul, Nat.reduceLT, Nat.reduceLeDiff, Nat.reduceEqDiff, Nat.reduceBEq, Nat.reduceSub, ↓reduceIte, reduceCtorEq])
        | (refine hK.nil ?_; clear hK K; simp only [go_sem, Nat.reduceAdd, Nat.reduceMul, Nat.reduceLT, Nat.reduceLeDiff, Nat.reduceEqDiff, Nat.reduceBEq, Nat.reduceSub, ↓reduceIte, reduceCtorEq])
        | (refine sw_cond rfl (fun h => ?_) (fun h => ?_) <;> (try simp (disch := (refine Om.mk ?_; omega)) only [go_sem, Nat.reduceAdd, Nat.reduceMul, Nat.reduceLT, Nat.reduceLeDiff, Nat.reduceEqDiff, Nat.reduceBEq, Nat.reduceSub, ↓reduceIte, reduceCtorEq] at h))
        | (refine sw_exit rfl ?_)
        | (refine sw_loopEnd ?_)
        | ((first | refine sw_ret (ret0 ?_) | refine sw_ret ?_); simp (disch := (refine Om.mk ?_; omega)) only [go_sem, Nat.reduceAdd, Nat.reduceMul, Nat.reduceLT, Nat.reduceLeDiff, Nat.reduceEqDiff, Nat.reduceBEq, Nat.reduceSub, ↓reduceIte, reduceCtorEq, Try.results61])
        | refine hK.call rfl rfl rfl (implCSystemOk_fc cs) ⟨(by intro p hp; cases hp), rfl, rfl, (by simp only [dstOk, Nat.reduceLT])⟩ ?_
        | refine hK.call rfl rfl rfl (c) ⟨(by intro p hp; cases hp), rfl, rfl, (by simp only [dstOk, Nat.reduceLT])⟩ ?_
        | (with_reducible refine And.intro (by first | omega | (simp only [List.length_append, List.length_take, List.length_drop, List.length_cons, List.length_nil]; omega)) ?_)
        | ((with_reducible refine And.intro ?_ ?_); · first | (intro x hx; subst hx; rfl) | exact upR_mem fun _ _ => rfl | exact mapR_mem fun _ _ => rfl | (intro x; refine And.intro ?_ ?_ <;> (intros; subst_vars; rfl)))
        | fail
      all_goals first | exact absurd hs (by assumption) | (simp [mapR, le0]; done) | trace_state
  · have hU : ¬ UnP cs := fun h => hs h.1
    rw [unR_no hU, tst_false hU]
    refine fc_body Try.func61 rfl (by kernel_rfl) (by simp [Try.f61]) fun B => ?_
    simp only [Try.ntmps61, enumD, List.map_nil, List.map_cons, List.length_map, Nat.zero_add, Nat.reduceAdd]
    refine sw_bnd_agg 0 1 rfl rfl fun hb0_1 => ?_
    simp only [D.bnd, List.length_map] at hb0_1
    repeat' first
      | ((exact absurd (by assumption) hs))
      | exact Bool.noConfusion h
      | refine sw_seq ?_
      | refine sw_block ?_
      | refine sw_skip ?_
      | refine sw_inBlock ?_
      | refine sw_go 0 kp61 fun K hK => ?_
      | refine fun (K : List Oper → LS → Prop) (hK : KOk S 0 _ _ _ K) => ?_
      | ((first | refine runL_go ?_ | refine runQ_go ?_); simp (disch := (refine Om.mk ?_; omega)) only [go_sem, Nat.reduceAdd, Nat.reduceMul, Nat.reduceLT, Nat.reduceLeDiff, Nat.reduceEqDiff, Nat.reduceBEq, Nat.reduceSub, ↓reduceIte, reduceCtorEq])
      | (refine hK.nil ?_; clear hK K; simp only [go_sem, Nat.reduceAdd, Nat.reduceMul, Nat.reduceLT, Nat.reduceLeDiff, Nat.reduceEqDiff, Nat.reduceBEq, Nat.reduceSub, ↓reduceIte, reduceCtorEq])
      | (refine sw_cond rfl (fun h => ?_) (fun h => ?_) <;> (try simp (disch := (refine Om.mk ?_; omega)) only [go_sem, Nat.reduceAdd, Nat.reduceMul, Nat.reduceLT, Nat.reduceLeDiff, Nat.reduceEqDiff, Nat.reduceBEq, Nat.reduceSub, ↓reduceIte, reduceCtorEq] at h))
      | (refine sw_exit rfl ?_)
      | (refine sw_loopEnd ?_)
      | ((first | refine sw_ret (ret0 ?_) | refine sw_ret ?_); simp (disch := (refine Om.mk ?_; omega)) only [go_sem, Nat.reduceAdd, Nat.reduceMul, Nat.reduceLT, Nat.reduceLeDiff, Nat.reduceEqDiff, Nat.reduceBEq, Nat.reduceSub, ↓reduceIte, reduceCtorEq, Try.results61])
      | refine hK.call rfl rfl rfl (implCSystemOk_fc cs) ⟨(by intro p hp; cases hp), rfl, rfl, (by simp only [dstOk, Nat.reduceLT])⟩ ?_
      | (with_reducible refine And.intro (by first | omega | (simp only [List.length_append, List.length_take, List.length_drop, List.length_cons, List.length_nil]; omega)) ?_)
      | ((with_reducible refine And.intro ?_ ?_); · first | (intro x hx; subst hx; rfl) | exact upR_mem fun _ _ => rfl | exact mapR_mem fun _ _ => rfl | (intro x; refine And.intro ?_ ?_ <;> (intros; subst_vars; rfl)))
      | fail
    all_goals first | exact absurd (by assumption) hs | (simp [mapR, le0]; done) | trace_state
end Go.Proofs.Ytgbcnhbmfjkhmaa
