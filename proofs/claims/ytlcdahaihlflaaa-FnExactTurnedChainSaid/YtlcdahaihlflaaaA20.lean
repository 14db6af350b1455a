/-
  Contracts of the chapter on conversions: equations.
-/
import Derived.Test.YtlcdahaihlflaaaSet
import Derived.Test.YtlcdahaihlflaaaA01
import Derived.Test.YtlcdahaihlflaaaSl
namespace Go.Proofs.Ytlcdahaihlflaaa
open Go Go.Lg
set_option linter.unusedSimpArgs false
set_option maxHeartbeats 4000000
attribute [local irreducible] SW runL runQ runG runQG FC Ret1
def EqOkP (rs : List Int) (e : EqT) : Prop := TermOkP rs e.l ∧ TermOkP rs e.r
def EqsOkP (rs : List Int) (es : List EqT) : Prop := (SigOkP rs ∧ es.length ≤ 12) ∧ ∀ j < es.length, EqOkP rs (es.getD j default)
def kp136 : List (Nat × List Nat) := [(0, [2, 3]), (1, [4])]
attribute [go_sem] kp136
theorem specEqOk_fc (tk : Tk) (rs : List Int) (e : EqT) : FC S 136 [] [] [] [.agg [.sl tk (rs.map (.int .i64))], EqD e] (.bool (tst (EqOkP rs e))) [] [] := by
  refine fc_body Try.func136 rfl (by kernel_rfl) (by simp [Try.f136]) fun B => ?_
  simp only [Try.ntmps136, enumD, List.map_nil, List.map_cons, List.length_map, Nat.zero_add, Nat.reduceAdd]
  repeat' first
    | exact Bool.noConfusion h
    | refine sw_seq ?_
    | refine sw_block ?_
    | refine sw_skip ?_
    | refine sw_inBlock ?_
    | refine sw_go 0 kp136 fun K hK => ?_
    | refine fun (K : List Oper → LS → Prop) (hK : KOk S 0 _ _ _ K) => ?_
    | ((first | refine runL_go ?_ | refine runQ_go ?_); simp (disch := (refine Om.mk ?_; omega)) only [go_sem])
    | (refine hK.nil ?_; clear hK K; simp only [go_sem])
    | (refine runG_fork rfl rfl rfl rfl rfl (fun h => ?_) (fun h => ?_) <;> (try simp (disch := (refine Om.mk ?_; omega)) only [go_sem] at h))
    | (refine hK.skip rfl (by simp only [dstOk, Nat.reduceLT]) ?_)
    | (refine sw_cond rfl (fun h => ?_) (fun h => ?_) <;> (try simp (disch := (refine Om.mk ?_; omega)) only [go_sem] at h))
    | (refine sw_exit rfl ?_)
    | (refine sw_loopEnd ?_)
    | ((first | refine sw_ret (ret0 ?_) | refine sw_ret ?_); simp (disch := (refine Om.mk ?_; omega)) only [go_sem, Try.results136])
    | refine hK.call rfl rfl rfl (specTermOk_fc _ _ _ _) ⟨(by intro p hp; cases hp), rfl, rfl, (by simp only [dstOk, Nat.reduceLT])⟩ ?_
    | (refine hK.fork rfl rfl rfl (fun h => ?_) (fun h => ?_) <;> (try simp (disch := (refine Om.mk ?_; omega)) only [go_sem] at h))
    | (with_reducible refine And.intro (by first | omega | (simp only [List.length_append, List.length_take, List.length_drop, List.length_cons, List.length_nil, List.length_map]; omega)) ?_)
    | ((with_reducible refine And.intro ?_ ?_); · first | (intro x hx; subst hx; rfl) | exact upR_mem fun _ _ => rfl | exact mapR_mem fun _ _ => rfl | (intro x; refine And.intro ?_ ?_ <;> (intros; subst_vars; rfl)))
    | fail
  all_goals (simp only [EqOkP]; grind)
def kp143 : List (Nat × List Nat) := [(0, [2, 3]), (1, [4])]
attribute [go_sem] kp143
theorem implEqOk_fc (tk : Tk) (rs : List Int) (e : EqT) : FC S 143 [] [] [] [.agg [.sl tk (rs.map (.int .i64))], EqD e] (.bool (tst (EqOkP rs e))) [] [] := by
  refine fc_body Try.func143 rfl (by kernel_rfl) (by simp [Try.f143]) fun B => ?_
  simp only [Try.ntmps143, enumD, List.map_nil, List.map_cons, List.length_map, Nat.zero_add, Nat.reduceAdd]
  repeat' first
    | exact Bool.noConfusion h
    | refine sw_seq ?_
    | refine sw_block ?_
    | refine sw_skip ?_
    | refine sw_inBlock ?_
    | refine sw_go 0 kp143 fun K hK => ?_
    | refine fun (K : List Oper → LS → Prop) (hK : KOk S 0 _ _ _ K) => ?_
    | ((first | refine runL_go ?_ | refine runQ_go ?_); simp (disch := (refine Om.mk ?_; omega)) only [go_sem])
    | (refine hK.nil ?_; clear hK K; simp only [go_sem])
    | (refine runG_fork rfl rfl rfl rfl rfl (fun h => ?_) (fun h => ?_) <;> (try simp (disch := (refine Om.mk ?_; omega)) only [go_sem] at h))
    | (refine hK.skip rfl (by simp only [dstOk, Nat.reduceLT]) ?_)
    | (refine sw_cond rfl (fun h => ?_) (fun h => ?_) <;> (try simp (disch := (refine Om.mk ?_; omega)) only [go_sem] at h))
    | (refine sw_exit rfl ?_)
    | (refine sw_loopEnd ?_)
    | ((first | refine sw_ret (ret0 ?_) | refine sw_ret ?_); simp (disch := (refine Om.mk ?_; omega)) only [go_sem, Try.results143])
    | refine hK.call rfl rfl rfl (implTermOk_fc _ _ _ _) ⟨(by intro p hp; cases hp), rfl, rfl, (by simp only [dstOk, Nat.reduceLT])⟩ ?_
    | (refine hK.fork rfl rfl rfl (fun h => ?_) (fun h => ?_) <;> (try simp (disch := (refine Om.mk ?_; omega)) only [go_sem] at h))
    | (with_reducible refine And.intro (by first | omega | (simp only [List.length_append, List.length_take, List.length_drop, List.length_cons, List.length_nil, List.length_map]; omega)) ?_)
    | ((with_reducible refine And.intro ?_ ?_); · first | (intro x hx; subst hx; rfl) | exact upR_mem fun _ _ => rfl | exact mapR_mem fun _ _ => rfl | (intro x; refine And.intro ?_ ?_ <;> (intros; subst_vars; rfl)))
    | fail
  all_goals (simp only [EqOkP]; grind)
def kp93 : List (Nat × List Nat) := [(0, [1, 2]), (1, [1, 2, 13]), (2, [4]), (3, [1, 2, 5]), (4, [1, 2, 5, 17]), (6, [1, 2, 5, 26]), (7, [4]), (5, [1, 2, 5]), (8, [4])]
attribute [go_sem] kp93
theorem specEqsOk_fc (tk tk' : Tk) (rs : List Int) (es : List EqT) : FC S 93 [] [] [] [.agg [.sl tk (rs.map (.int .i64))], .sl tk' (es.map EqD)] (.bool (tst (EqsOkP rs es))) [] [] := by
  refine fc_body Try.func93 rfl (by kernel_rfl) (by simp [Try.f93]) fun B => ?_
  simp only [Try.ntmps93, enumD, List.map_nil, List.map_cons, List.length_map, Nat.zero_add, Nat.reduceAdd]
  refine sw_bnd 1 rfl fun hb1 => ?_
  simp only [D.bnd, List.length_map] at hb1
  repeat' first
    | exact Bool.noConfusion h
    | refine sw_seq ?_
    | refine sw_block ?_
    | refine sw_skip ?_
    | refine sw_inBlock ?_
    | refine sw_go 0 kp93 fun K hK => ?_
    | refine fun (K : List Oper → LS → Prop) (hK : KOk S 0 _ _ _ K) => ?_
    | refine sw_goD kp93 (by kernel_rfl) fun K hK => ?_
    | ((first | refine runL_go ?_ | refine runQ_go ?_); simp (disch := (refine Om.mk ?_; omega)) only [go_sem])
    | (refine hK.nil ?_; clear hK K; simp only [go_sem])
    | (refine runG_fork rfl rfl rfl rfl rfl (fun h => ?_) (fun h => ?_) <;> (try simp (disch := (refine Om.mk ?_; omega)) only [go_sem] at h))
    | (refine runQG_fork rfl rfl rfl rfl rfl (fun h => ?_) (fun h => ?_) <;> (try simp (disch := (refine Om.mk ?_; omega)) only [go_sem] at h))
    | (refine hK.skip rfl (by simp only [dstOk, Nat.reduceLT]) ?_)
    | (refine sw_cond rfl (fun h => ?_) (fun h => ?_) <;> (try simp (disch := (refine Om.mk ?_; omega)) only [go_sem] at h))
    | (refine sw_exit rfl ?_)
    | (refine sw_loopEnd ?_)
    | ((first | refine sw_ret (ret0 ?_) | refine sw_ret ?_); simp (disch := (refine Om.mk ?_; omega)) only [go_sem, Try.results93])
    | refine hK.call rfl rfl rfl (specSigOk_fc _ _) ⟨(by intro p hp; cases hp), rfl, rfl, (by simp only [dstOk, Nat.reduceLT])⟩ ?_
    | (refine hK.fork rfl rfl rfl (fun h => ?_) (fun h => ?_) <;> (try simp (disch := (refine Om.mk ?_; omega)) only [go_sem] at h))
    | (with_reducible refine And.intro (by first | omega | (simp only [List.length_append, List.length_take, List.length_drop, List.length_cons, List.length_nil, List.length_map]; omega)) ?_)
    | ((with_reducible refine And.intro ?_ ?_); · first | (intro x hx; subst hx; rfl) | exact upR_mem fun _ _ => rfl | exact mapR_mem fun _ _ => rfl | (intro x; refine And.intro ?_ ?_ <;> (intros; subst_vars; rfl)))
    | fail
  · rintro ⟨⟨h1, _⟩, _⟩; contradiction
  · rintro ⟨⟨_, h1⟩, _⟩; omega
  refine sw_loopU (ι := Nat) (fun i => [(5, .int .i64 i)]) (fun _ => []) (fun i => i ≤ es.length ∧ (∀ j < i, EqOkP rs (es.getD j default))) (fun i => es.length - i) 0 (by (refine covers_mk0 rfl rfl ?_ ?_ ?_ ?_ <;> simp (disch := (refine Om.mk ?_; omega)) only [go_sem] <;> (try omega))) ⟨by omega, ?_⟩ (fun i ⟨hi, hj⟩ => ?_)
  rotate_left
  simp only [go_sem]
  repeat' first
    | exact Bool.noConfusion h
    | refine sw_seq ?_
    | refine sw_block ?_
    | refine sw_skip ?_
    | refine sw_inBlock ?_
    | refine sw_go 0 kp93 fun K hK => ?_
    | refine fun (K : List Oper → LS → Prop) (hK : KOk S 0 _ _ _ K) => ?_
    | refine sw_goD kp93 (by kernel_rfl) fun K hK => ?_
    | ((first | refine runL_go ?_ | refine runQ_go ?_); simp (disch := (refine Om.mk ?_; omega)) only [go_sem])
    | (refine hK.nil ?_; clear hK K; simp only [go_sem])
    | (refine runG_fork rfl rfl rfl rfl rfl (fun h => ?_) (fun h => ?_) <;> (try simp (disch := (refine Om.mk ?_; omega)) only [go_sem] at h))
    | (refine runQG_fork rfl rfl rfl rfl rfl (fun h => ?_) (fun h => ?_) <;> (try simp (disch := (refine Om.mk ?_; omega)) only [go_sem] at h))
    | (refine hK.skip rfl (by simp only [dstOk, Nat.reduceLT]) ?_)
    | (refine sw_cond rfl (fun h => ?_) (fun h => ?_) <;> (try simp (disch := (refine Om.mk ?_; omega)) only [go_sem] at h))
    | (refine sw_exit rfl ?_)
    | (refine sw_loopEnd ?_)
    | ((first | refine sw_ret (ret0 ?_) | refine sw_ret ?_); simp (disch := (refine Om.mk ?_; omega)) only [go_sem, Try.results93])
    | refine hK.call rfl rfl rfl (specEqOk_fc _ _ (es.getD i default)) ⟨(by intro p hp; cases hp), rfl, rfl, (by simp only [dstOk, Nat.reduceLT])⟩ ?_
    | (refine hK.fork rfl rfl rfl (fun h => ?_) (fun h => ?_) <;> (try simp (disch := (refine Om.mk ?_; omega)) only [go_sem] at h))
    | (with_reducible refine And.intro (by first | omega | (simp only [List.length_append, List.length_take, List.length_drop, List.length_cons, List.length_nil, List.length_map]; omega)) ?_)
    | ((with_reducible refine And.intro ?_ ?_); · first | (intro x hx; subst hx; rfl) | exact upR_mem fun _ _ => rfl | exact mapR_mem fun _ _ => rfl | (intro x; refine And.intro ?_ ?_ <;> (intros; subst_vars; rfl)))
    | fail
  · rintro ⟨_, h2⟩; exact h (h2 i (by omega))
  · exact ⟨i + 1, by (refine covers_mk0 rfl rfl ?_ ?_ ?_ ?_ <;> simp (disch := (refine Om.mk ?_; omega)) only [go_sem] <;> (try omega)), ⟨by omega, upto_succ hj h⟩, by omega⟩
  · exact ⟨⟨by assumption, by omega⟩, fun j hj' => hj j (by omega)⟩
  · intro j hj'; omega
def kp142 : List (Nat × List Nat) := [(0, [1, 2]), (1, [3])]
attribute [go_sem] kp142
theorem eqsOk1_fc (tk : Tk) (rs : List Int) (e : EqT) : FC S 142 [(2, [.sl tk (rs.map (.int .i64))])] [] [] ([EqD e] ++ [.box 2 0]) (.bool (tst (¬ EqOkP rs e))) [] [] := by
  refine fc_body Try.func142 rfl (by kernel_rfl) (by simp [Try.f142]) fun B => ?_
  simp only [Try.ntmps142, enumD, List.map_nil, List.map_cons, List.length_map, Nat.zero_add, Nat.reduceAdd]
  repeat' first
    | exact Bool.noConfusion h
    | refine sw_seq ?_
    | refine sw_block ?_
    | refine sw_skip ?_
    | refine sw_inBlock ?_
    | refine sw_go 100 kp142 fun K hK => ?_
    | refine fun (K : List Oper → LS → Prop) (hK : KOk S 100 _ _ _ K) => ?_
    | ((first | refine runL_go ?_ | refine runQ_go ?_); simp (disch := (refine Om.mk ?_; omega)) only [go_sem])
    | (refine hK.nil ?_; clear hK K; simp only [go_sem])
    | (refine sw_cond rfl (fun h => ?_) (fun h => ?_) <;> (try simp (disch := (refine Om.mk ?_; omega)) only [go_sem] at h))
    | (refine sw_exit rfl ?_)
    | (refine sw_loopEnd ?_)
    | ((first | refine sw_ret (ret0 ?_) | refine sw_ret ?_); simp (disch := (refine Om.mk ?_; omega)) only [go_sem, Try.results142])
    | refine hK.call rfl rfl rfl (implEqOk_fc _ _ _) ⟨(by intro p hp; cases hp), rfl, rfl, (by simp only [dstOk, Nat.reduceLT])⟩ ?_
    | (with_reducible refine And.intro (by first | omega | (simp only [List.length_append, List.length_take, List.length_drop, List.length_cons, List.length_nil, List.length_map]; omega)) ?_)
    | ((with_reducible refine And.intro ?_ ?_); · first | (intro x hx; subst hx; rfl) | exact upR_mem fun _ _ => rfl | exact mapR_mem fun _ _ => rfl | (intro x; refine And.intro ?_ ?_ <;> (intros; subst_vars; rfl)))
    | fail
  exact Classical.not_not.symm
def kp100 : List (Nat × List Nat) := [(0, [1, 2]), (1, [1, 2, 12]), (2, [4]), (3, [4])]
attribute [go_sem] kp100
theorem implEqsOk_fc (tk tk' : Tk) (rs : List Int) (es : List EqT) : FC S 100 [] [] [] [.agg [.sl tk (rs.map (.int .i64))], .sl tk' (es.map EqD)] (.bool (tst (EqsOkP rs es))) [] [] := by
  refine fc_body Try.func100 rfl (by kernel_rfl) (by simp [Try.f100]) fun B => ?_
  simp only [Try.ntmps100, enumD, List.map_nil, List.map_cons, List.length_map, Nat.zero_add, Nat.reduceAdd]
  refine sw_bnd 1 rfl fun hb1 => ?_
  simp only [D.bnd, List.length_map] at hb1
  repeat' first
    | exact Bool.noConfusion h
    | refine sw_seq ?_
    | refine sw_block ?_
    | refine sw_skip ?_
    | refine sw_inBlock ?_
    | refine sw_go 0 kp100 fun K hK => ?_
    | refine fun (K : List Oper → LS → Prop) (hK : KOk S 0 _ _ _ K) => ?_
    | ((first | refine runL_go ?_ | refine runQ_go ?_); simp (disch := (refine Om.mk ?_; omega)) only [go_sem])
    | (refine hK.nil ?_; clear hK K; simp only [go_sem])
    | (refine runG_fork rfl rfl rfl rfl rfl (fun h => ?_) (fun h => ?_) <;> (try simp (disch := (refine Om.mk ?_; omega)) only [go_sem] at h))
    | (refine hK.skip rfl (by simp only [dstOk, Nat.reduceLT]) ?_)
    | (refine sw_cond rfl (fun h => ?_) (fun h => ?_) <;> (try simp (disch := (refine Om.mk ?_; omega)) only [go_sem] at h))
    | (refine sw_exit rfl ?_)
    | (refine sw_loopEnd ?_)
    | ((first | refine sw_ret (ret0 ?_) | refine sw_ret ?_); simp (disch := (refine Om.mk ?_; omega)) only [go_sem, Try.results100])
    | refine hK.call rfl rfl rfl (implSigOk_fc _ _) ⟨(by intro p hp; cases hp), rfl, rfl, (by simp only [dstOk, Nat.reduceLT])⟩ ?_
    | refine hK.call rfl rfl rfl (containsFuncEq_fc _ _ (fun e => ¬ EqOkP rs e) _ _ [(2, [.sl tk (rs.map (.int .i64))])] (by simp [Lg.look]) (fun e _ => eqsOk1_fc tk rs e)) ⟨(by simp [LS.getBox, Lg.look]), rfl, rfl, (by simp only [dstOk, Nat.reduceLT])⟩ ?_
    | (refine hK.fork rfl rfl rfl (fun h => ?_) (fun h => ?_) <;> (try simp (disch := (refine Om.mk ?_; omega)) only [go_sem] at h))
    | (with_reducible refine And.intro (by first | omega | (simp only [List.length_append, List.length_take, List.length_drop, List.length_cons, List.length_nil, List.length_map]; omega)) ?_)
    | ((with_reducible refine And.intro ?_ ?_); · first | (intro x hx; subst hx; rfl) | exact upR_mem fun _ _ => rfl | exact mapR_mem fun _ _ => rfl | (intro x; refine And.intro ?_ ?_ <;> (intros; subst_vars; rfl)))
    | fail
  · rintro ⟨⟨h1, _⟩, _⟩; contradiction
  · rintro ⟨⟨_, h1⟩, _⟩; omega
  · constructor
    · rintro ⟨e, he, hn⟩ ⟨_, h2⟩
      exact hn ((forall_getD (P := EqOkP rs)).1 h2 e he)
    · intro h1
      refine Classical.byContradiction fun h2 => h1 ⟨⟨by assumption, by omega⟩, (forall_getD (P := EqOkP rs)).2 fun e he => ?_⟩
      exact Classical.byContradiction fun h3 => h2 ⟨e, he, h3⟩
end Go.Proofs.Ytlcdahaihlflaaa
