/-
  FnDefined: the functions of its law, but the drawing.
-/
import Derived.Test.YtfokjjlbdaabaaaF06p
import Derived.Test.YtfokjjlbdaabaaaA05m
import Derived.Test.YtfokjjlbdaabaaaA05n
import Derived.Test.YtfokjjlbdaabaaaA06d
import Derived.Test.YtfokjjlbdaabaaaA29
namespace Go.Proofs.Ytfokjjlbdaabaaa
open Go Go.Lg
set_option linter.unusedSimpArgs false
set_option linter.unusedVariables false
set_option maxHeartbeats 4000000
attribute [local irreducible] SW runL runQ runG runQG FC Ret1 toF redoL
def kp9 : List (Nat × List Nat) := [(0, [0, 1]), (1, [0, 1, 10]), (2, [4]), (3, [0, 1, 5]), (4, [0, 1, 5, 14]), (6, [0, 1, 5, 25]), (7, [4]), (5, [0, 1, 5]), (8, [4])]
attribute [go_sem] kp9
theorem likeInts_fc (tk tk' : Tk) (xs ys : List Int) : FC S 9 [] [] [] [.sl tk (xs.map (.int .i64)), .sl tk' (ys.map (.int .i64))] (.bool (tst (xs = ys))) [] [] := by
  refine fc_body Try.func9 rfl (by kernel_rfl) (by simp [Try.f9]) fun B => ?_
  simp only [Try.ntmps9, enumD, List.map_nil, List.map_cons, List.length_map, Nat.zero_add, Nat.reduceAdd]
  refine sw_bnd 0 rfl fun hb0 => ?_
  simp only [D.bnd, List.length_map] at hb0
  refine sw_bnd 1 rfl fun hb1 => ?_
  simp only [D.bnd, List.length_map] at hb1
  repeat' first
    | exact Bool.noConfusion h
    | refine sw_seq ?_
    | refine sw_block ?_
    | refine sw_skip ?_
    | refine sw_inBlock ?_
    | refine sw_go 0 kp9 fun K hK => ?_
    | refine fun (K : List Oper → LS → Prop) (hK : KOk S 0 _ _ _ K) => ?_
    | refine sw_goD kp9 (by kernel_rfl) fun K hK => ?_
    | ((first | refine runL_go ?_ | refine runQ_go ?_); simp (disch := (refine Om.mk ?_; omega)) only [go_sem])
    | (refine hK.nil ?_; clear hK K; simp only [go_sem])
    | (refine sw_cond rfl (fun h => ?_) (fun h => ?_) <;> (try simp (disch := (refine Om.mk ?_; omega)) only [go_sem] at h))
    | (refine sw_exit rfl ?_)
    | (refine sw_loopEnd ?_)
    | ((first | refine sw_ret (ret0 ?_) | refine sw_ret ?_); simp (disch := (refine Om.mk ?_; omega)) only [go_sem, Try.results9])
    | (with_reducible refine And.intro (by first | omega | (simp only [List.length_append, List.length_take, List.length_drop, List.length_cons, List.length_nil, List.length_map]; omega)) ?_)
    | ((with_reducible refine And.intro ?_ ?_); · first | (intro x hx; subst hx; rfl) | exact upR_mem fun _ _ => rfl | exact mapR_mem fun _ _ => rfl | (intro x; refine And.intro ?_ ?_ <;> (intros; subst_vars; rfl)))
    | fail
  · intro e; exact h (by rw [e])
  refine sw_loopU (ι := Nat) (fun i => [(5, .int .i64 i)]) (fun _ => []) (fun i => i ≤ xs.length ∧ (∀ j < i, xs.getD j default = ys.getD j default)) (fun i => xs.length - i) 0 (by (refine covers_mk0 rfl rfl ?_ ?_ ?_ ?_ <;> simp (disch := (refine Om.mk ?_; omega)) only [go_sem] <;> (try omega))) ⟨by omega, ?_⟩ (fun i ⟨hi, hj⟩ => ?_)
  rotate_left
  simp only [go_sem]
  repeat' first
    | exact Bool.noConfusion h
    | refine sw_seq ?_
    | refine sw_block ?_
    | refine sw_skip ?_
    | refine sw_inBlock ?_
    | refine sw_go 0 kp9 fun K hK => ?_
    | refine fun (K : List Oper → LS → Prop) (hK : KOk S 0 _ _ _ K) => ?_
    | refine sw_goD kp9 (by kernel_rfl) fun K hK => ?_
    | ((first | refine runL_go ?_ | refine runQ_go ?_); simp (disch := (refine Om.mk ?_; omega)) only [go_sem])
    | (refine hK.nil ?_; clear hK K; simp only [go_sem])
    | (refine sw_cond rfl (fun h => ?_) (fun h => ?_) <;> (try simp (disch := (refine Om.mk ?_; omega)) only [go_sem] at h))
    | (refine sw_exit rfl ?_)
    | (refine sw_loopEnd ?_)
    | ((first | refine sw_ret (ret0 ?_) | refine sw_ret ?_); simp (disch := (refine Om.mk ?_; omega)) only [go_sem, Try.results9])
    | (with_reducible refine And.intro (by first | omega | (simp only [List.length_append, List.length_take, List.length_drop, List.length_cons, List.length_nil, List.length_map]; omega)) ?_)
    | ((with_reducible refine And.intro ?_ ?_); · first | (intro x hx; subst hx; rfl) | exact upR_mem fun _ _ => rfl | exact mapR_mem fun _ _ => rfl | (intro x; refine And.intro ?_ ?_ <;> (intros; subst_vars; rfl)))
    | fail
  · intro e; exact h (by rw [e])
  · exact ⟨i + 1, by (refine covers_mk0 rfl rfl ?_ ?_ ?_ ?_ <;> simp (disch := (refine Om.mk ?_; omega)) only [go_sem] <;> (try omega)), ⟨by omega, upto_succ hj (by assumption)⟩, by omega⟩
  · exact ext_getD (by assumption) fun j hj' => hj j (by omega)
  · intro j hj'; omega
theorem toNat_lit1 : Int.toNat 1 = 1 := rfl
theorem getD_snd (a b d : D) : [a, b].getD 1 d = b := rfl
attribute [local go_sem] toNat_lit1 getD_snd
def kp33 : List (Nat × List Nat) := [(0, [1, 2]), (1, [2, 3]), (2, [2])]
attribute [go_sem] kp33
theorem renamedRule_fc (rs : List Int) (r : RuleT) (h : RuleP rs r) : FC S 33 [] [] [] [RuleD r] (RuleD (renR r)) [] [] := by
  have c := renumber_fc .full [r.l, r.r] (by simp) (fun u hu => by
    rcases List.mem_cons.1 hu with rfl | hu
    · exact h.1.1.2.1
    · rw [List.mem_singleton.1 hu]; exact h.1.2.1.2.1)
  rw [renL_rule h] at c
  refine fc_body Try.func33 rfl (by kernel_rfl) (by simp [Try.f33]) fun B => ?_
  simp only [Try.ntmps33, enumD, List.map_nil, List.map_cons, List.length_map, Nat.zero_add, Nat.reduceAdd]
  repeat' first
    | exact Bool.noConfusion h
    | refine sw_seq ?_
    | refine sw_block ?_
    | refine sw_skip ?_
    | refine sw_inBlock ?_
    | refine sw_go 0 kp33 fun K hK => ?_
    | refine sw_goT 0 kp33 7 (id := 2) (by kernel_rfl) fun K hK => ?_
    | refine fun (K : List Oper → LS → Prop) (hK : KOk S 0 _ _ _ K) => ?_
    | refine sw_goD kp33 (by kernel_rfl) fun K hK => ?_
    | ((first | refine runL_go ?_ | refine runQ_go ?_); simp (disch := (refine Om.mk ?_; omega)) only [go_sem])
    | (refine hK.nil ?_; clear hK K; simp only [go_sem])
    | (refine sw_cond rfl (fun h => ?_) (fun h => ?_) <;> (try simp (disch := (refine Om.mk ?_; omega)) only [go_sem] at h))
    | (refine sw_exit rfl ?_)
    | (refine sw_loopEnd ?_)
    | ((first | refine sw_ret (ret0 ?_) | refine sw_ret ?_); simp (disch := (refine Om.mk ?_; omega)) only [go_sem, Try.results33])
    | refine hK.call rfl rfl rfl (c) ⟨(by intro p hp; cases hp), rfl, rfl, (by simp only [dstOk, Nat.reduceLT])⟩ ?_
    | (with_reducible refine And.intro (by first | omega | (simp only [List.length_append, List.length_take, List.length_drop, List.length_cons, List.length_nil, List.length_map]; omega)) ?_)
    | ((with_reducible refine And.intro ?_ ?_); · first | (intro x hx; subst hx; rfl) | exact upR_mem fun _ _ => rfl | exact mapR_mem fun _ _ => rfl | (intro x; refine And.intro ?_ ?_ <;> (intros; subst_vars; rfl)))
    | fail
def kp14 : List (Nat × List Nat) := [(0, [2, 3, 4]), (1, [3, 4, 8]), (2, [4]), (3, [4])]
attribute [go_sem] kp14
theorem implRenamedRule_fc (rs : List Int) (r : RuleT) (hR : RuleP rs r) : FC S 14 [] [] [] [.agg [.sl .any (rs.map (.int .i64))], RuleD r] (RuleD (renR r)) [] [] := by
  refine fc_body Try.func14 rfl (by kernel_rfl) (by simp [Try.f14]) fun B => ?_
  simp only [Try.ntmps14, enumD, List.map_nil, List.map_cons, List.length_map, Nat.zero_add, Nat.reduceAdd]
  repeat' first
    | ((exact absurd hR (by assumption)))
    | exact Bool.noConfusion h
    | refine sw_seq ?_
    | refine sw_block ?_
    | refine sw_skip ?_
    | refine sw_inBlock ?_
    | refine sw_go 0 kp14 fun K hK => ?_
    | refine fun (K : List Oper → LS → Prop) (hK : KOk S 0 _ _ _ K) => ?_
    | ((first | refine runL_go ?_ | refine runQ_go ?_); simp (disch := (refine Om.mk ?_; omega)) only [go_sem])
    | (refine hK.nil ?_; clear hK K; simp only [go_sem])
    | (refine sw_cond rfl (fun h => ?_) (fun h => ?_) <;> (try simp (disch := (refine Om.mk ?_; omega)) only [go_sem] at h))
    | (refine sw_exit rfl ?_)
    | (refine sw_loopEnd ?_)
    | ((first | refine sw_ret (ret0 ?_) | refine sw_ret ?_); simp (disch := (refine Om.mk ?_; omega)) only [go_sem, Try.results14])
    | refine hK.call rfl rfl rfl (implRuleOk_fc _ _ _ rs r.l r.r) ⟨(by intro p hp; cases hp), rfl, rfl, (by simp only [dstOk, Nat.reduceLT])⟩ ?_
    | refine hK.call rfl rfl rfl (renamedRule_fc rs r hR) ⟨(by intro p hp; cases hp), rfl, rfl, (by simp only [dstOk, Nat.reduceLT])⟩ ?_
    | (with_reducible refine And.intro (by first | omega | (simp only [List.length_append, List.length_take, List.length_drop, List.length_cons, List.length_nil, List.length_map]; omega)) ?_)
    | ((with_reducible refine And.intro ?_ ?_); · first | (intro x hx; subst hx; rfl) | exact upR_mem fun _ _ => rfl | exact mapR_mem fun _ _ => rfl | (intro x; refine And.intro ?_ ?_ <;> (intros; subst_vars; rfl)))
    | fail
def kp16 : List (Nat × List Nat) := [(0, [1, 2, 3]), (1, [6])]
attribute [go_sem] kp16
theorem specVariantIn_fc (rs t : List Int) (hT : TermOkP rs t) : FC S 16 [] [] [] [.agg [.sl .any (rs.map (.int .i64))], .sl .any ((ren0 t).map (.int .i64)), .sl .any (t.map (.int .i64))] (.bool true) [] [] := by
  have h2 := ren0_ok hT
  have c1 := l2Renamed_fc rs (ren0 t) h2
  rw [ren0_idem] at c1
  refine fc_body Try.func16 rfl (by kernel_rfl) (by simp [Try.f16]) fun B => ?_
  simp only [Try.ntmps16, enumD, List.map_nil, List.map_cons, List.length_map, Nat.zero_add, Nat.reduceAdd]
  repeat' first
    | ((exact absurd hT (by assumption)))
    | ((exact absurd h2 (by assumption)))
    | exact Bool.noConfusion h
    | refine sw_seq ?_
    | refine sw_block ?_
    | refine sw_skip ?_
    | refine sw_inBlock ?_
    | refine sw_go 0 kp16 fun K hK => ?_
    | refine fun (K : List Oper → LS → Prop) (hK : KOk S 0 _ _ _ K) => ?_
    | ((first | refine runL_go ?_ | refine runQ_go ?_); simp (disch := (refine Om.mk ?_; omega)) only [go_sem])
    | (refine hK.nil ?_; clear hK K; simp only [go_sem])
    | (refine runG_fork rfl rfl rfl rfl rfl (fun h => ?_) (fun h => ?_) <;> (try simp (disch := (refine Om.mk ?_; omega)) only [go_sem] at h))
    | (refine hK.skip rfl (by simp only [dstOk, Nat.reduceLT]) ?_)
    | (refine sw_cond rfl (fun h => ?_) (fun h => ?_) <;> (try simp (disch := (refine Om.mk ?_; omega)) only [go_sem] at h))
    | (refine sw_exit rfl ?_)
    | (refine sw_loopEnd ?_)
    | ((first | refine sw_ret (ret0 ?_) | refine sw_ret ?_); simp (disch := (refine Om.mk ?_; omega)) only [go_sem, Try.results16])
    | refine hK.call rfl rfl rfl (specTermOk_fc _ _ _ _) ⟨(by intro p hp; cases hp), rfl, rfl, (by simp only [dstOk, Nat.reduceLT])⟩ ?_
    | refine hK.call rfl rfl rfl (c1) ⟨(by intro p hp; cases hp), rfl, rfl, (by simp only [dstOk, Nat.reduceLT])⟩ ?_
    | refine hK.call rfl rfl rfl (l2Renamed_fc rs t hT) ⟨(by intro p hp; cases hp), rfl, rfl, (by simp only [dstOk, Nat.reduceLT])⟩ ?_
    | refine hK.call rfl rfl rfl (specSameTerm_fc _ _ (ren0 t) (ren0 t)) ⟨(by intro p hp; cases hp), rfl, rfl, (by simp only [dstOk, Nat.reduceLT])⟩ ?_
    | (refine hK.fork rfl rfl rfl (fun h => ?_) (fun h => ?_) <;> (try simp (disch := (refine Om.mk ?_; omega)) only [go_sem] at h))
    | (with_reducible refine And.intro (by first | omega | (simp only [List.length_append, List.length_take, List.length_drop, List.length_cons, List.length_nil, List.length_map]; omega)) ?_)
    | ((with_reducible refine And.intro ?_ ?_); · first | (intro x hx; subst hx; rfl) | exact upR_mem fun _ _ => rfl | exact mapR_mem fun _ _ => rfl | (intro x; refine And.intro ?_ ?_ <;> (intros; subst_vars; rfl)))
    | fail
def kp68 : List (Nat × List Nat) := [(0, [2, 3]), (1, [4])]
attribute [go_sem] kp68
theorem sameRule_fc (a b : RuleT) : FC S 68 [] [] [] [RuleD a, RuleD b] (.bool (tst (a = b))) [] [] := by
  have e : a = b ↔ a.l = b.l ∧ a.r = b.r := by cases a; cases b; simp
  rw [tst_congr e]
  refine fc_body Try.func68 rfl (by kernel_rfl) (by simp [Try.f68]) fun B => ?_
  simp only [Try.ntmps68, enumD, List.map_nil, List.map_cons, List.length_map, Nat.zero_add, Nat.reduceAdd]
  repeat' first
    | exact Bool.noConfusion h
    | refine sw_seq ?_
    | refine sw_block ?_
    | refine sw_skip ?_
    | refine sw_inBlock ?_
    | refine sw_go 0 kp68 fun K hK => ?_
    | refine fun (K : List Oper → LS → Prop) (hK : KOk S 0 _ _ _ K) => ?_
    | ((first | refine runL_go ?_ | refine runQ_go ?_); simp (disch := (refine Om.mk ?_; omega)) only [go_sem])
    | (refine hK.nil ?_; clear hK K; simp only [go_sem])
    | (refine runG_fork rfl rfl rfl rfl rfl (fun h => ?_) (fun h => ?_) <;> (try simp (disch := (refine Om.mk ?_; omega)) only [go_sem] at h))
    | (refine hK.skip rfl (by simp only [dstOk, Nat.reduceLT]) ?_)
    | (refine sw_cond rfl (fun h => ?_) (fun h => ?_) <;> (try simp (disch := (refine Om.mk ?_; omega)) only [go_sem] at h))
    | (refine sw_exit rfl ?_)
    | (refine sw_loopEnd ?_)
    | ((first | refine sw_ret (ret0 ?_) | refine sw_ret ?_); simp (disch := (refine Om.mk ?_; omega)) only [go_sem, Try.results68])
    | refine hK.call rfl rfl rfl (equalInt64_fc _ _ _ _) ⟨(by intro p hp; cases hp), rfl, rfl, (by simp only [dstOk, Nat.reduceLT])⟩ ?_
    | (refine hK.fork rfl rfl rfl (fun h => ?_) (fun h => ?_) <;> (try simp (disch := (refine Om.mk ?_; omega)) only [go_sem] at h))
    | (with_reducible refine And.intro (by first | omega | (simp only [List.length_append, List.length_take, List.length_drop, List.length_cons, List.length_nil, List.length_map]; omega)) ?_)
    | ((with_reducible refine And.intro ?_ ?_); · first | (intro x hx; subst hx; rfl) | exact upR_mem fun _ _ => rfl | exact mapR_mem fun _ _ => rfl | (intro x; refine And.intro ?_ ?_ <;> (intros; subst_vars; rfl)))
    | fail
  · exact ⟨fun e => ⟨by assumption, e⟩, fun e => e.2⟩
  · exact fun e => absurd e.1 (by assumption)
def kp39 : List (Nat × List Nat) := [(0, [0, 1]), (1, [4])]
attribute [go_sem] kp39
theorem sameRules_fc (xs : List RuleT) : FC S 39 [] [] [] [.sl .any (xs.map RuleD), .sl .any (xs.map RuleD)] (.bool true) [] [] := by
  refine fc_body Try.func39 rfl (by kernel_rfl) (by simp [Try.f39]) fun B => ?_
  simp only [Try.ntmps39, enumD, List.map_nil, List.map_cons, List.length_map, Nat.zero_add, Nat.reduceAdd]
  repeat' first
    | exact Bool.noConfusion h
    | refine sw_seq ?_
    | refine sw_block ?_
    | refine sw_skip ?_
    | refine sw_inBlock ?_
    | refine sw_go 0 kp39 fun K hK => ?_
    | refine fun (K : List Oper → LS → Prop) (hK : KOk S 0 _ _ _ K) => ?_
    | ((first | refine runL_go ?_ | refine runQ_go ?_); simp (disch := (refine Om.mk ?_; omega)) only [go_sem])
    | (refine hK.nil ?_; clear hK K; simp only [go_sem])
    | (refine sw_cond rfl (fun h => ?_) (fun h => ?_) <;> (try simp (disch := (refine Om.mk ?_; omega)) only [go_sem] at h))
    | (refine sw_exit rfl ?_)
    | (refine sw_loopEnd ?_)
    | ((first | refine sw_ret (ret0 ?_) | refine sw_ret ?_); simp (disch := (refine Om.mk ?_; omega)) only [go_sem, Try.results39])
    | refine hK.call rfl rfl rfl (equalFuncRule_fc _ _ xs xs (fun a b => a = b) 68 (fun a _ b _ => sameRule_fc a b)) ⟨(by intro p hp; cases hp), rfl, rfl, (by simp only [dstOk, Nat.reduceLT])⟩ ?_
    | (with_reducible refine And.intro (by first | omega | (simp only [List.length_append, List.length_take, List.length_drop, List.length_cons, List.length_nil, List.length_map]; omega)) ?_)
    | ((with_reducible refine And.intro ?_ ?_); · first | (intro x hx; subst hx; rfl) | exact upR_mem fun _ _ => rfl | exact mapR_mem fun _ _ => rfl | (intro x; refine And.intro ?_ ?_ <;> (intros; subst_vars; rfl)))
    | fail
def kp17 : List (Nat × List Nat) := [(0, [2, 3]), (1, [4])]
attribute [go_sem] kp17
theorem sameSystem_fc (x : SystemT) (hx : SystemOkP x) : FC S 17 [] [] [] [SystemD x, SystemD x] (.bool true) [] [] := by
  refine fc_body Try.func17 rfl (by kernel_rfl) (by simp [Try.f17]) fun B => ?_
  simp only [Try.ntmps17, enumD, List.map_nil, List.map_cons, List.length_map, Nat.zero_add, Nat.reduceAdd]
  repeat' first
    | ((exact absurd hx (by assumption)))
    | exact Bool.noConfusion h
    | refine sw_seq ?_
    | refine sw_block ?_
    | refine sw_skip ?_
    | refine sw_inBlock ?_
    | refine sw_go 0 kp17 fun K hK => ?_
    | refine fun (K : List Oper → LS → Prop) (hK : KOk S 0 _ _ _ K) => ?_
    | ((first | refine runL_go ?_ | refine runQ_go ?_); simp (disch := (refine Om.mk ?_; omega)) only [go_sem])
    | (refine hK.nil ?_; clear hK K; simp only [go_sem])
    | (refine runG_fork rfl rfl rfl rfl rfl (fun h => ?_) (fun h => ?_) <;> (try simp (disch := (refine Om.mk ?_; omega)) only [go_sem] at h))
    | (refine hK.skip rfl (by simp only [dstOk, Nat.reduceLT]) ?_)
    | (refine sw_cond rfl (fun h => ?_) (fun h => ?_) <;> (try simp (disch := (refine Om.mk ?_; omega)) only [go_sem] at h))
    | (refine sw_exit rfl ?_)
    | (refine sw_loopEnd ?_)
    | ((first | refine sw_ret (ret0 ?_) | refine sw_ret ?_); simp (disch := (refine Om.mk ?_; omega)) only [go_sem, Try.results17])
    | refine hK.call rfl rfl rfl (implSystemOk_fc _) ⟨(by intro p hp; cases hp), rfl, rfl, (by simp only [dstOk, Nat.reduceLT])⟩ ?_
    | refine hK.call rfl rfl rfl (equalInt64_fc _ _ x.sig x.sig) ⟨(by intro p hp; cases hp), rfl, rfl, (by simp only [dstOk, Nat.reduceLT])⟩ ?_
    | refine hK.call rfl rfl rfl (sameRules_fc x.rules) ⟨(by intro p hp; cases hp), rfl, rfl, (by simp only [dstOk, Nat.reduceLT])⟩ ?_
    | (refine hK.fork rfl rfl rfl (fun h => ?_) (fun h => ?_) <;> (try simp (disch := (refine Om.mk ?_; omega)) only [go_sem] at h))
    | (with_reducible refine And.intro (by first | omega | (simp only [List.length_append, List.length_take, List.length_drop, List.length_cons, List.length_nil, List.length_map]; omega)) ?_)
    | ((with_reducible refine And.intro ?_ ?_); · first | (intro x hx; subst hx; rfl) | exact upR_mem fun _ _ => rfl | exact mapR_mem fun _ _ => rfl | (intro x; refine And.intro ?_ ?_ <;> (intros; subst_vars; rfl)))
    | fail
theorem sym_len (x : SystemT) : (symL x true).length + (symL x false).length = x.sig.length := by
  have e : ∀ xs : List Int, (notP (symP x.rules true) xs).length + (notP (symP x.rules false) xs).length = xs.length := by
    intro xs
    induction xs with
    | nil => rfl
    | cons a r ih =>
      have ht : tst (symP x.rules false a) = !(tst (symP x.rules true a)) := by
        unfold symP
        cases tst (∃ q ∈ x.rules, q.l.getD 0 default = a) <;> simp [tst]
      unfold notP at ih ⊢
      simp only [List.filter_cons, ht, List.length_cons]
      cases tst (symP x.rules true a) <;> simp <;> omega
  have := e (upTo x.sig.length)
  rwa [upTo_len] at this
end Go.Proofs.Ytfokjjlbdaabaaa
