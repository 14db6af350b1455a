/-
  Unravelled systems: the question, the specification's side.
-/
import Derived.Test.YtgbcnhbmfjkhmaaA27u
import Derived.Test.YtgbcnhbmfjkhmaaA27p
namespace Go.Proofs.Ytgbcnhbmfjkhmaa
open Go Go.Lg
set_option linter.unusedSimpArgs false
set_option linter.unusedVariables false
set_option maxHeartbeats 4000000
attribute [local irreducible] SW runL runQ runG runQG FC Ret1 toF redoL
theorem clen_of {cs : CSystemT} (h : CSystemOkP cs) {i : Nat} (hi : i < cs.rules.length) : CLen (cs.rules.getD i default) := by
  have h1 := h.2 i hi
  exact ⟨h1.1.1.2.1, h1.1.2.1.2.1, h1.1.2.2.2, fun j hj => ⟨(h1.2.1 j hj).1.1.2.1, (h1.2.1 j hj).1.2.2.1⟩, fun j hj => heldP_of h hi hj⟩
def condsSig (r : CRuleT) (i : Nat) : List Int := (List.range i).map fun k => 1 + ((heldR0 r k).length : Int)
theorem condsSig_len (r : CRuleT) (i : Nat) : (condsSig r i).length = i := by simp [condsSig]
theorem condsSig_succ (r : CRuleT) (i : Nat) : condsSig r (i + 1) = condsSig r i ++ [1 + ((heldR0 r i).length : Int)] := by
  unfold condsSig; rw [List.range_succ, List.map_append]; rfl
def sigU (cs : CSystemT) : Nat → List Int
  | 0 => cs.sig
  | j + 1 => sigU cs j ++ condsSig (cs.rules.getD j default) (cs.rules.getD j default).conds.length
def rulU (cs : CSystemT) : Nat → List RuleT
  | 0 => []
  | j + 1 => rulU cs j ++ rulesU (cs.rules.getD j default) (sigU cs j).length ((cs.rules.getD j default).conds.length + 1)
theorem unLen {cs : CSystemT} (h : CSystemOkP cs) : ∀ j ≤ cs.rules.length, cs.sig.length ≤ (sigU cs j).length ∧ (sigU cs j).length ≤ 8 + 2 * j ∧ (rulU cs j).length ≤ 3 * j
  | 0, _ => by have := h.1.1.1.2; simp only [sigU, rulU, List.length_nil]; omega
  | j + 1, hj => by
    have ih := unLen h j (by omega)
    have h1 := (clen_of h (show j < cs.rules.length by omega)).hn
    simp only [sigU, rulU, List.length_append, condsSig_len, rulesU_len]
    omega
def unS (cs : CSystemT) : SystemT := ⟨sigU cs cs.rules.length, rulU cs cs.rules.length⟩
def UnP (cs : CSystemT) : Prop := CSystemOkP cs ∧ SystemOkP (unS cs)
open Classical in
noncomputable def unR (cs : CSystemT) : SystemT := if UnP cs then unS cs else ⟨[], []⟩
theorem unR_yes {cs : CSystemT} (h : UnP cs) : unR cs = unS cs := if_pos h
theorem unR_no {cs : CSystemT} (h : ¬ UnP cs) : unR cs = ⟨[], []⟩ := if_neg h
def kp59 : List (Nat × List Nat) := [(0, [1, 2]), (1, [1, 2, 10]), (2, [2, 3]), (3, [1, 2, 4]), (4, [1, 2, 4, 5]), (5, [1, 2, 4, 5, 22]), (7, [1, 2, 4, 5, 6]), (8, [1, 2, 4, 5, 6]), (9, [1, 2, 4, 5, 6, 7]), (10, [1, 2, 4, 5, 6, 7, 44]), (12, [1, 2, 4, 5, 6, 7]), (11, [1, 2, 4, 5, 6, 7]), (6, [1, 2, 4, 5]), (13, [2, 4, 61]), (14, [2, 3]), (15, [2, 3])]
attribute [go_sem] kp59
theorem specUnravelled_fc (cs : CSystemT) : FC S 59 [] [] [] [CSystemD cs] (.tup [SystemD (unR cs), .bool (tst (UnP cs))]) [] [] := by
  rcases Classical.em (CSystemOkP cs) with hs | hs
  · have hn := hs.1.2
    have hsg := hs.1.1.1
    have hul := unLen hs
    refine fc_body Try.func59 rfl (by kernel_rfl) (by simp [Try.f59]) fun B => ?_
    simp only [Try.ntmps59, enumD, List.map_nil, List.map_cons, List.length_map, Nat.zero_add, Nat.reduceAdd]
    refine sw_bnd_agg 0 1 rfl rfl fun hb0_1 => ?_
    simp only [D.bnd, List.length_map] at hb0_1
    repeat' first
      | exact Bool.noConfusion h
      | refine sw_seq ?_
      | refine sw_block ?_
      | refine sw_skip ?_
      | refine sw_inBlock ?_
      | refine sw_go 0 kp59 fun K hK => ?_
      | refine sw_goT 0 kp59 8 (id := 8) (by kernel_rfl) fun K hK => ?_
      | refine sw_goT 0 kp59 9 (id := 12) (by kernel_rfl) fun K hK => ?_
      | refine fun (K : List Oper → LS → Prop) (hK : KOk S 0 _ _ _ K) => ?_
      | refine sw_goD kp59 (by kernel_rfl) fun K hK => ?_
      | ((first | refine runL_go ?_ | refine runQ_go ?_); simp (disch := (refine Om.mk ?_; omega)) only [go_sem, Nat.reduceAdd, Nat.reduceMul, Nat.reduceLT, Nat.reduceLeDiff, Nat.reduceEqDiff, Nat.reduceBEq, Nat.reduceSub, ↓reduceIte, reduceCtorEq])
      | (refine hK.nil ?_; clear hK K; simp only [go_sem, Nat.reduceAdd, Nat.reduceMul, Nat.reduceLT, Nat.reduceLeDiff, Nat.reduceEqDiff, Nat.reduceBEq, Nat.reduceSub, ↓reduceIte, reduceCtorEq])
      | (refine sw_cond rfl (fun h => ?_) (fun h => ?_) <;> (try simp (disch := (refine Om.mk ?_; omega)) only [go_sem, Nat.reduceAdd, Nat.reduceMul, Nat.reduceLT, Nat.reduceLeDiff, Nat.reduceEqDiff, Nat.reduceBEq, Nat.reduceSub, ↓reduceIte, reduceCtorEq] at h))
      | (refine sw_exit rfl ?_)
      | (refine sw_loopEnd ?_)
      | ((first | refine sw_ret (ret0 ?_) | refine sw_ret ?_); simp (disch := (refine Om.mk ?_; omega)) only [go_sem, Nat.reduceAdd, Nat.reduceMul, Nat.reduceLT, Nat.reduceLeDiff, Nat.reduceEqDiff, Nat.reduceBEq, Nat.reduceSub, ↓reduceIte, reduceCtorEq, Try.results59])
      | refine hK.call rfl rfl rfl (specCSystemOk_fc cs) ⟨(by intro p hp; cases hp), rfl, rfl, (by simp only [dstOk, Nat.reduceLT])⟩ ?_
      | (refine hK.callB rfl rfl rfl (l1Copy_fc _ cs.sig (by omega)) ⟨⟨by simp only [Nat.reduceLT], (by first | (simp; all_goals fail) | (simp [LS.getBox, Lg.look]; all_goals fail)), by (simp [Lg.look]; all_goals fail), by (simp; all_goals fail), by (simp; all_goals fail)⟩, ⟨by (simp [D.ids, D.idsL]; all_goals fail), by (simp [D.ids, D.idsL]; all_goals fail), by (simp [D.tks, D.tksL]; all_goals fail), by (simp [D.tks, D.tksL]; all_goals fail), by (simp; all_goals fail)⟩, rfl⟩ ?_; simp (disch := (refine Om.mk ?_; omega)) only [go_sem, Nat.reduceAdd, Nat.reduceMul, Nat.reduceLT, Nat.reduceLeDiff, Nat.reduceEqDiff, Nat.reduceBEq, Nat.reduceSub, ↓reduceIte, reduceCtorEq])
      | (with_reducible refine And.intro (by first | omega | (simp only [List.length_append, List.length_take, List.length_drop, List.length_cons, List.length_nil]; omega)) ?_)
      | ((with_reducible refine And.intro ?_ ?_); · first | (intro x hx; subst hx; rfl) | exact upR_mem fun _ _ => rfl | exact mapR_mem fun _ _ => rfl | (intro x; refine And.intro ?_ ?_ <;> (intros; subst_vars; rfl)))
      | fail
    · exact absurd hs h
    refine sw_renC 16000 57000 rfl rfl ?_
    simp only [go_sem, Nat.reduceAdd, Nat.reduceMul, Nat.reduceLT, Nat.reduceLeDiff, Nat.reduceEqDiff, Nat.reduceBEq, Nat.reduceSub, ↓reduceIte, reduceCtorEq]
    refine sw_tokBox 4 1 39000 75 2 rfl rfl rfl ?_
    simp only [go_sem, Nat.reduceAdd, Nat.reduceMul, Nat.reduceLT, Nat.reduceLeDiff, Nat.reduceEqDiff, Nat.reduceBEq, Nat.reduceSub, ↓reduceIte, reduceCtorEq]
    refine sw_loopT (ι := Nat) (fun j => [(5, .int .i64 j)]) (fun j => [(4, [.sl (.own 57000 2 1) ((sigU cs j).map (.int .i64)), .sl (.own 39000 75 2) ((rulU cs j).map RuleD)])]) (fun _ => [57000, 39000]) (fun j => j ≤ cs.rules.length) (fun j => cs.rules.length - j) 0 (by (refine covers_mk0 rfl rfl ?_ ?_ ?_ ?_ <;> simp (disch := (refine Om.mk ?_; omega)) only [go_sem, Nat.reduceAdd, Nat.reduceMul, Nat.reduceLT, Nat.reduceLeDiff, Nat.reduceEqDiff, Nat.reduceBEq, Nat.reduceSub, ↓reduceIte, reduceCtorEq] <;> (try omega)); all_goals first | rfl | exact ⟨rfl, rfl⟩ | trace_state) (by omega) (fun j hj => ?_)
    simp only [go_sem, Nat.reduceAdd, Nat.reduceMul, Nat.reduceLT, Nat.reduceLeDiff, Nat.reduceEqDiff, Nat.reduceBEq, Nat.reduceSub, ↓reduceIte, reduceCtorEq]
    have hulj := hul j hj
    by_cases hjl : j < cs.rules.length
    · have hC := clen_of hs hjl
      have hC1 := hC.hn
      have cr := l27Rules_fc (cs.rules.getD j default) hC (sigU cs j).length (by omega)
      have hrl := rulesU_len (cs.rules.getD j default) ((sigU cs j).length : Int) ((cs.rules.getD j default).conds.length + 1)
      have hru : rulU cs (j + 1) = rulU cs j ++ rulesU (cs.rules.getD j default) ((sigU cs j).length : Int) ((cs.rules.getD j default).conds.length + 1) := rfl
      have hsu : sigU cs (j + 1) = sigU cs j ++ condsSig (cs.rules.getD j default) (cs.rules.getD j default).conds.length := rfl
      have hulk := hul (j + 1) (by omega)
      repeat' first
        | ((exfalso; omega))
        | exact Bool.noConfusion h
        | refine sw_seq ?_
        | refine sw_block ?_
        | refine sw_skip ?_
        | refine sw_inBlock ?_
        | refine sw_go 0 kp59 fun K hK => ?_
        | refine sw_goT 0 kp59 8 (id := 8) (by kernel_rfl) fun K hK => ?_
        | refine sw_goT 0 kp59 9 (id := 12) (by kernel_rfl) fun K hK => ?_
        | refine fun (K : List Oper → LS → Prop) (hK : KOk S 0 _ _ _ K) => ?_
        | refine sw_goD kp59 (by kernel_rfl) fun K hK => ?_
        | ((first | refine runL_go ?_ | refine runQ_go ?_); simp (disch := (refine Om.mk ?_; omega)) only [go_sem, Nat.reduceAdd, Nat.reduceMul, Nat.reduceLT, Nat.reduceLeDiff, Nat.reduceEqDiff, Nat.reduceBEq, Nat.reduceSub, ↓reduceIte, reduceCtorEq])
        | (refine hK.nil ?_; clear hK K; simp only [go_sem, Nat.reduceAdd, Nat.reduceMul, Nat.reduceLT, Nat.reduceLeDiff, Nat.reduceEqDiff, Nat.reduceBEq, Nat.reduceSub, ↓reduceIte, reduceCtorEq])
        | (refine sw_cond rfl (fun h => ?_) (fun h => ?_) <;> (try simp (disch := (refine Om.mk ?_; omega)) only [go_sem, Nat.reduceAdd, Nat.reduceMul, Nat.reduceLT, Nat.reduceLeDiff, Nat.reduceEqDiff, Nat.reduceBEq, Nat.reduceSub, ↓reduceIte, reduceCtorEq] at h))
        | (refine sw_exit rfl ?_)
        | (refine sw_loopEnd ?_)
        | ((first | refine sw_ret (ret0 ?_) | refine sw_ret ?_); simp (disch := (refine Om.mk ?_; omega)) only [go_sem, Nat.reduceAdd, Nat.reduceMul, Nat.reduceLT, Nat.reduceLeDiff, Nat.reduceEqDiff, Nat.reduceBEq, Nat.reduceSub, ↓reduceIte, reduceCtorEq, Try.results59])
        | refine hK.call rfl rfl rfl (cr) ⟨(by intro p hp; cases hp), rfl, rfl, (by simp only [dstOk, Nat.reduceLT])⟩ ?_
        | (with_reducible refine And.intro (by first | omega | (simp only [List.length_append, List.length_take, List.length_drop, List.length_cons, List.length_nil]; omega)) ?_)
        | ((with_reducible refine And.intro ?_ ?_); · first | (intro x hx; subst hx; rfl) | exact upR_mem fun _ _ => rfl | exact mapR_mem fun _ _ => rfl | (intro x; refine And.intro ?_ ?_ <;> (intros; subst_vars; rfl)))
        | fail
      refine sw_loopT (ι := Nat) (fun k => [(7, .int .i64 k)]) (fun k => [(4, [.sl (.own 57000 2 1) ((sigU cs j ++ condsSig (cs.rules.getD j default) k).map (.int .i64)), .sl (.own 39000 75 2) ((rulU cs (j + 1)).map RuleD)])]) (fun _ => [39000, 57000]) (fun k => k ≤ (cs.rules.getD j default).conds.length) (fun k => (cs.rules.getD j default).conds.length - k) 0 (by (refine covers_mk0 rfl rfl ?_ ?_ ?_ ?_ <;> simp (disch := (refine Om.mk ?_; omega)) only [go_sem, Nat.reduceAdd, Nat.reduceMul, Nat.reduceLT, Nat.reduceLeDiff, Nat.reduceEqDiff, Nat.reduceBEq, Nat.reduceSub, ↓reduceIte, reduceCtorEq] <;> (try omega)); all_goals first | rfl | (rw [hru, List.map_append]; simp [condsSig]; done) | (simp [condsSig, hru]; done) | trace_state) (by omega) (fun k hk => ?_)
      simp only [go_sem, Nat.reduceAdd, Nat.reduceMul, Nat.reduceLT, Nat.reduceLeDiff, Nat.reduceEqDiff, Nat.reduceBEq, Nat.reduceSub, ↓reduceIte, reduceCtorEq]
      have hcl := condsSig_len (cs.rules.getD j default) k
      have hcu := condsSig_succ (cs.rules.getD j default) k
      have hsl : (sigU cs j ++ condsSig (cs.rules.getD j default) k).length ≤ 100 := by rw [List.length_append]; omega
      by_cases hkl : k < (cs.rules.getD j default).conds.length
      · have hh := hC.hh k hkl
        have hhl := heldR0_len hh
        repeat' first
          | ((exfalso; omega))
          | exact Bool.noConfusion h
          | refine sw_seq ?_
          | refine sw_block ?_
          | refine sw_skip ?_
          | refine sw_inBlock ?_
          | refine sw_go 0 kp59 fun K hK => ?_
          | refine sw_goT 0 kp59 8 (id := 8) (by kernel_rfl) fun K hK => ?_
          | refine sw_goT 0 kp59 9 (id := 12) (by kernel_rfl) fun K hK => ?_
          | refine fun (K : List Oper → LS → Prop) (hK : KOk S 0 _ _ _ K) => ?_
          | refine sw_goD kp59 (by kernel_rfl) fun K hK => ?_
          | ((first | refine runL_go ?_ | refine runQ_go ?_); simp (disch := (refine Om.mk ?_; omega)) only [go_sem, Nat.reduceAdd, Nat.reduceMul, Nat.reduceLT, Nat.reduceLeDiff, Nat.reduceEqDiff, Nat.reduceBEq, Nat.reduceSub, ↓reduceIte, reduceCtorEq])
          | (refine hK.nil ?_; clear hK K; simp only [go_sem, Nat.reduceAdd, Nat.reduceMul, Nat.reduceLT, Nat.reduceLeDiff, Nat.reduceEqDiff, Nat.reduceBEq, Nat.reduceSub, ↓reduceIte, reduceCtorEq])
          | (refine sw_cond rfl (fun h => ?_) (fun h => ?_) <;> (try simp (disch := (refine Om.mk ?_; omega)) only [go_sem, Nat.reduceAdd, Nat.reduceMul, Nat.reduceLT, Nat.reduceLeDiff, Nat.reduceEqDiff, Nat.reduceBEq, Nat.reduceSub, ↓reduceIte, reduceCtorEq] at h))
          | (refine sw_exit rfl ?_)
          | (refine sw_loopEnd ?_)
          | ((first | refine sw_ret (ret0 ?_) | refine sw_ret ?_); simp (disch := (refine Om.mk ?_; omega)) only [go_sem, Nat.reduceAdd, Nat.reduceMul, Nat.reduceLT, Nat.reduceLeDiff, Nat.reduceEqDiff, Nat.reduceBEq, Nat.reduceSub, ↓reduceIte, reduceCtorEq, Try.results59])
          | refine hK.call rfl rfl rfl (l27Held_fc (cs.rules.getD j default) k hh) ⟨(by intro p hp; cases hp), rfl, rfl, (by simp only [dstOk, Nat.reduceLT])⟩ ?_
          | (with_reducible refine And.intro (by first | omega | (simp only [List.length_append, List.length_take, List.length_drop, List.length_cons, List.length_nil]; omega)) ?_)
          | ((with_reducible refine And.intro ?_ ?_); · first | (intro x hx; subst hx; rfl) | exact upR_mem fun _ _ => rfl | exact mapR_mem fun _ _ => rfl | (intro x; refine And.intro ?_ ?_ <;> (intros; subst_vars; rfl)))
          | fail
        all_goals first | exact ⟨k + 1, (by rw [hcu]; (refine covers_mk0 rfl rfl ?_ ?_ ?_ ?_ <;> simp (disch := (refine Om.mk ?_; omega)) only [go_sem, Nat.reduceAdd, Nat.reduceMul, Nat.reduceLT, Nat.reduceLeDiff, Nat.reduceEqDiff, Nat.reduceBEq, Nat.reduceSub, ↓reduceIte, reduceCtorEq] <;> (try omega)); all_goals first | rfl | (simp; done) | trace_state), by omega, by omega⟩ | trace_state
      · repeat' first
          | ((exfalso; omega))
          | exact Bool.noConfusion h
          | refine sw_seq ?_
          | refine sw_block ?_
          | refine sw_skip ?_
          | refine sw_inBlock ?_
          | refine sw_go 0 kp59 fun K hK => ?_
          | refine sw_goT 0 kp59 8 (id := 8) (by kernel_rfl) fun K hK => ?_
          | refine sw_goT 0 kp59 9 (id := 12) (by kernel_rfl) fun K hK => ?_
          | refine fun (K : List Oper → LS → Prop) (hK : KOk S 0 _ _ _ K) => ?_
          | refine sw_goD kp59 (by kernel_rfl) fun K hK => ?_
          | ((first | refine runL_go ?_ | refine runQ_go ?_); simp (disch := (refine Om.mk ?_; omega)) only [go_sem, Nat.reduceAdd, Nat.reduceMul, Nat.reduceLT, Nat.reduceLeDiff, Nat.reduceEqDiff, Nat.reduceBEq, Nat.reduceSub, ↓reduceIte, reduceCtorEq])
          | (refine hK.nil ?_; clear hK K; simp only [go_sem, Nat.reduceAdd, Nat.reduceMul, Nat.reduceLT, Nat.reduceLeDiff, Nat.reduceEqDiff, Nat.reduceBEq, Nat.reduceSub, ↓reduceIte, reduceCtorEq])
          | (refine sw_cond rfl (fun h => ?_) (fun h => ?_) <;> (try simp (disch := (refine Om.mk ?_; omega)) only [go_sem, Nat.reduceAdd, Nat.reduceMul, Nat.reduceLT, Nat.reduceLeDiff, Nat.reduceEqDiff, Nat.reduceBEq, Nat.reduceSub, ↓reduceIte, reduceCtorEq] at h))
          | (refine sw_exit rfl ?_)
          | (refine sw_loopEnd ?_)
          | ((first | refine sw_ret (ret0 ?_) | refine sw_ret ?_); simp (disch := (refine Om.mk ?_; omega)) only [go_sem, Nat.reduceAdd, Nat.reduceMul, Nat.reduceLT, Nat.reduceLeDiff, Nat.reduceEqDiff, Nat.reduceBEq, Nat.reduceSub, ↓reduceIte, reduceCtorEq, Try.results59])
          | (with_reducible refine And.intro (by first | omega | (simp only [List.length_append, List.length_take, List.length_drop, List.length_cons, List.length_nil]; omega)) ?_)
          | ((with_reducible refine And.intro ?_ ?_); · first | (intro x hx; subst hx; rfl) | exact upR_mem fun _ _ => rfl | exact mapR_mem fun _ _ => rfl | (intro x; refine And.intro ?_ ?_ <;> (intros; subst_vars; rfl)))
          | fail
        rw [show k = (cs.rules.getD j default).conds.length by omega, ← hsu]
        all_goals first | exact ⟨j + 1, (by (refine covers_mk0 rfl rfl ?_ ?_ ?_ ?_ <;> simp (disch := (refine Om.mk ?_; omega)) only [go_sem, Nat.reduceAdd, Nat.reduceMul, Nat.reduceLT, Nat.reduceLeDiff, Nat.reduceEqDiff, Nat.reduceBEq, Nat.reduceSub, ↓reduceIte, reduceCtorEq] <;> (try omega)); all_goals first | rfl | (simp; done) | trace_state), by omega, by omega⟩ | trace_state
    · have hje : j = cs.rules.length := by omega
      subst hje
      have c : FC S 128 [] [] [] [.agg [.sl (.own 57000 2 1) ((sigU cs cs.rules.length).map (.int .i64)), .sl (.own 39000 75 2) ((rulU cs cs.rules.length).map RuleD)]] (.bool (tst (SystemOkP (unS cs)))) [] [] := FC.args (specSystemOk_fc (unS cs)) (by simp only [go_sem, Nat.reduceAdd, Nat.reduceMul, Nat.reduceLT, Nat.reduceLeDiff, Nat.reduceEqDiff, Nat.reduceBEq, Nat.reduceSub, ↓reduceIte, reduceCtorEq, unS])
      repeat' first
        | ((exfalso; omega))
        | exact Bool.noConfusion h
        | refine sw_seq ?_
        | refine sw_block ?_
        | refine sw_skip ?_
        | refine sw_inBlock ?_
        | refine sw_go 0 kp59 fun K hK => ?_
        | refine sw_goT 0 kp59 8 (id := 8) (by kernel_rfl) fun K hK => ?_
        | refine sw_goT 0 kp59 9 (id := 12) (by kernel_rfl) fun K hK => ?_
        | refine fun (K : List Oper → LS → Prop) (hK : KOk S 0 _ _ _ K) => ?_
        | refine sw_goD kp59 (by kernel_rfl) fun K hK => ?_
        | ((first | refine runL_go ?_ | refine runQ_go ?_); simp (disch := (refine Om.mk ?_; omega)) only [go_sem, Nat.reduceAdd, Nat.reduceMul, Nat.reduceLT, Nat.reduceLeDiff, Nat.reduceEqDiff, Nat.reduceBEq, Nat.reduceSub, ↓reduceIte, reduceCtorEq])
        | (refine hK.nil ?_; clear hK K; simp only [go_sem, Nat.reduceAdd, Nat.reduceMul, Nat.reduceLT, Nat.reduceLeDiff, Nat.reduceEqDiff, Nat.reduceBEq, Nat.reduceSub, ↓reduceIte, reduceCtorEq])
        | (refine sw_cond rfl (fun h => ?_) (fun h => ?_) <;> (try simp (disch := (refine Om.mk ?_; omega)) only [go_sem, Nat.reduceAdd, Nat.reduceMul, Nat.reduceLT, Nat.reduceLeDiff, Nat.reduceEqDiff, Nat.reduceBEq, Nat.reduceSub, ↓reduceIte, reduceCtorEq] at h))
        | (refine sw_exit rfl ?_)
        | (refine sw_loopEnd ?_)
        | ((first | refine sw_ret (ret0 ?_) | refine sw_ret ?_); simp (disch := (refine Om.mk ?_; omega)) only [go_sem, Nat.reduceAdd, Nat.reduceMul, Nat.reduceLT, Nat.reduceLeDiff, Nat.reduceEqDiff, Nat.reduceBEq, Nat.reduceSub, ↓reduceIte, reduceCtorEq, Try.results59])
        | refine hK.call rfl rfl rfl (c) ⟨(by intro p hp; cases hp), rfl, rfl, (by simp only [dstOk, Nat.reduceLT])⟩ ?_
        | (with_reducible refine And.intro (by first | omega | (simp only [List.length_append, List.length_take, List.length_drop, List.length_cons, List.length_nil]; omega)) ?_)
        | ((with_reducible refine And.intro ?_ ?_); · first | (intro x hx; subst hx; rfl) | exact upR_mem fun _ _ => rfl | exact mapR_mem fun _ _ => rfl | (intro x; refine And.intro ?_ ?_ <;> (intros; subst_vars; rfl)))
        | fail
      · have hnp : ¬ UnP cs := fun e => h e.2
        rw [unR_no hnp]; exact ⟨⟨rfl, rfl⟩, hnp⟩
      · have hp : UnP cs := ⟨hs, h⟩
        rw [unR_yes hp]; exact ⟨⟨rfl, rfl⟩, hp⟩
  · have hnp : ¬ UnP cs := fun hp => hs hp.1
    rw [unR_no hnp, tst_false hnp]
    refine fc_body Try.func59 rfl (by kernel_rfl) (by simp [Try.f59]) fun B => ?_
    simp only [Try.ntmps59, enumD, List.map_nil, List.map_cons, List.length_map, Nat.zero_add, Nat.reduceAdd]
    refine sw_bnd_agg 0 1 rfl rfl fun hb0_1 => ?_
    simp only [D.bnd, List.length_map] at hb0_1
    repeat' first
      | ((exact absurd (by assumption) hs))
      | exact Bool.noConfusion h
      | refine sw_seq ?_
      | refine sw_block ?_
      | refine sw_skip ?_
      | refine sw_inBlock ?_
      | refine sw_go 0 kp59 fun K hK => ?_
      | refine sw_goT 0 kp59 8 (id := 8) (by kernel_rfl) fun K hK => ?_
      | refine sw_goT 0 kp59 9 (id := 12) (by kernel_rfl) fun K hK => ?_
      | refine fun (K : List Oper → LS → Prop) (hK : KOk S 0 _ _ _ K) => ?_
      | refine sw_goD kp59 (by kernel_rfl) fun K hK => ?_
      | ((first | refine runL_go ?_ | refine runQ_go ?_); simp (disch := (refine Om.mk ?_; omega)) only [go_sem, Nat.reduceAdd, Nat.reduceMul, Nat.reduceLT, Nat.reduceLeDiff, Nat.reduceEqDiff, Nat.reduceBEq, Nat.reduceSub, ↓reduceIte, reduceCtorEq])
      | (refine hK.nil ?_; clear hK K; simp only [go_sem, Nat.reduceAdd, Nat.reduceMul, Nat.reduceLT, Nat.reduceLeDiff, Nat.reduceEqDiff, Nat.reduceBEq, Nat.reduceSub, ↓reduceIte, reduceCtorEq])
      | (refine sw_cond rfl (fun h => ?_) (fun h => ?_) <;> (try simp (disch := (refine Om.mk ?_; omega)) only [go_sem, Nat.reduceAdd, Nat.reduceMul, Nat.reduceLT, Nat.reduceLeDiff, Nat.reduceEqDiff, Nat.reduceBEq, Nat.reduceSub, ↓reduceIte, reduceCtorEq] at h))
      | (refine sw_exit rfl ?_)
      | (refine sw_loopEnd ?_)
      | ((first | refine sw_ret (ret0 ?_) | refine sw_ret ?_); simp (disch := (refine Om.mk ?_; omega)) only [go_sem, Nat.reduceAdd, Nat.reduceMul, Nat.reduceLT, Nat.reduceLeDiff, Nat.reduceEqDiff, Nat.reduceBEq, Nat.reduceSub, ↓reduceIte, reduceCtorEq, Try.results59])
      | refine hK.call rfl rfl rfl (specCSystemOk_fc cs) ⟨(by intro p hp; cases hp), rfl, rfl, (by simp only [dstOk, Nat.reduceLT])⟩ ?_
      | (with_reducible refine And.intro (by first | omega | (simp only [List.length_append, List.length_take, List.length_drop, List.length_cons, List.length_nil]; omega)) ?_)
      | ((with_reducible refine And.intro ?_ ?_); · first | (intro x hx; subst hx; rfl) | exact upR_mem fun _ _ => rfl | exact mapR_mem fun _ _ => rfl | (intro x; refine And.intro ?_ ?_ <;> (intros; subst_vars; rfl)))
      | fail
    all_goals first | exact absurd (by assumption) hs | rfl | exact ⟨rfl, rfl⟩ | trace_state
end Go.Proofs.Ytgbcnhbmfjkhmaa
