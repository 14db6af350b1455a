/-
  Labelled encodings, what holds of them, the labelled copies. Made by L.gen.
-/
import Derived.Test.YtldlochhiiogbaaMFnExactBasicsOf
import Derived.Test.YtldlochhiiogbaaHFnExactBasicsOf
namespace Go.Proofs.Ytldlochhiiogbaa
open Go Go.Lg
set_option linter.unusedSimpArgs false
set_option linter.unusedVariables false
set_option maxHeartbeats 4000000
attribute [local irreducible] SW runL runQ runG runQG FC Ret Ret1
theorem toInt64SL_fc (p : List Nat) (hp : p ≠ []) (tk : Tk) (xs : List Int) (hn : cntInt64S xs ≤ 1048576) : FC S 25 [] [] [] [.sl tk (xs.map (.int .i64))] (Int64SL p xs) [] [] := by
  have hl : xs.length ≤ 1048576 := hn
  refine fc_body Try.func25 rfl (by kernel_rfl) (by simp [Try.f25]) fun B => ?_
  simp only [Try.ntmps25, enumD, List.map_nil, List.map_cons, List.length_map, Nat.zero_add, Nat.reduceAdd]
  refine sw_bnd 0 rfl fun hb0 => ?_
  simp only [D.bnd, List.length_map] at hb0
  repeat' first
    | exact Bool.noConfusion h
    | refine sw_seq ?_
    | refine sw_block ?_
    | refine sw_skip ?_
    | refine sw_inBlock ?_
    | refine sw_go 0 kp25 fun K hK => ?_
    | refine fun (K : List Oper → LS → Prop) (hK : KOk S 0 _ _ _ K) => ?_
    | ((first | refine runL_go ?_ | refine runQ_go ?_); simp (disch := (refine Om.mk ?_; omega)) only [go_sem])
    | (refine hK.nil ?_; clear hK K; simp only [go_sem])
    | (refine sw_cond rfl (fun h => ?_) (fun h => ?_) <;> (try simp (disch := (refine Om.mk ?_; omega)) only [go_sem] at h))
    | (refine sw_exit rfl ?_)
    | (refine sw_loopEnd ?_)
    | ((first | refine sw_ret (ret0 ?_) | refine sw_ret ?_); simp (disch := (refine Om.mk ?_; omega)) only [go_sem, Try.results25])
    | (with_reducible refine And.intro (by first | omega | (simp only [List.length_append, List.length_take, List.length_drop, List.length_cons, List.length_nil, List.length_map]; omega)) ?_)
    | ((with_reducible refine And.intro ?_ ?_); · first | (intro x hx; subst hx; rfl) | exact upR_mem fun _ _ => rfl | exact mapR_mem fun _ _ => rfl | (intro x; refine And.intro ?_ ?_ <;> (intros; subst_vars; rfl)))
    | fail
  refine sw_loopU (ι := Nat) (fun i => [(4, .int .i64 i)]) (fun i => [(7, fillL (fun j => .int .i64 (xs.getD j default)) (.int .i64 0) i xs.length)]) (fun i => i ≤ xs.length ∧ (True)) (fun i => xs.length - i) 0 (by (refine covers_mk0 rfl rfl ?_ ?_ ?_ ?_ <;> simp (disch := (refine Om.mk ?_; omega)) only [go_sem] <;> (try omega)); exact fillL_start _ _ _) ⟨by omega, ?_⟩ (fun i ⟨hi, hj⟩ => ?_)
  rotate_left
  simp only [go_sem]
  repeat' first
    | (refine sw_freezeLabAt 6 3 1 p (xs.map (.int .i64)) rfl rfl (by rw [show i = xs.length by omega]; exact (fillL_done (.int .i64) _ xs).trans (flat_ones _ _ (fun _ => rfl)).symm) (by rw [List.length_map]) (cells_one fun _ => rfl) (fillL_memOk (fun _ => rfl) rfl) hp (by simp) ?_; simp only [go_sem])
    | exact Bool.noConfusion h
    | refine sw_seq ?_
    | refine sw_block ?_
    | refine sw_skip ?_
    | refine sw_inBlock ?_
    | refine sw_go 0 kp25 fun K hK => ?_
    | refine fun (K : List Oper → LS → Prop) (hK : KOk S 0 _ _ _ K) => ?_
    | ((first | refine runL_go ?_ | refine runQ_go ?_); simp (disch := (refine Om.mk ?_; omega)) only [go_sem])
    | (refine hK.nil ?_; clear hK K; simp only [go_sem])
    | (refine sw_cond rfl (fun h => ?_) (fun h => ?_) <;> (try simp (disch := (refine Om.mk ?_; omega)) only [go_sem] at h))
    | (refine sw_exit rfl ?_)
    | (refine sw_loopEnd ?_)
    | ((first | refine sw_ret (ret0 ?_) | refine sw_ret ?_); simp (disch := (refine Om.mk ?_; omega)) only [go_sem, Try.results25])
    | (with_reducible refine And.intro (by first | omega | (simp only [List.length_append, List.length_take, List.length_drop, List.length_cons, List.length_nil, List.length_map]; omega)) ?_)
    | ((with_reducible refine And.intro ?_ ?_); · first | (intro x hx; subst hx; rfl) | exact upR_mem fun _ _ => rfl | exact mapR_mem fun _ _ => rfl | (intro x; refine And.intro ?_ ?_ <;> (intros; subst_vars; rfl)))
    | fail
  · exact ⟨i + 1, (by (refine covers_mk0 rfl rfl ?_ ?_ ?_ ?_ <;> simp (disch := (refine Om.mk ?_; omega)) only [go_sem] <;> (try omega)); exact fillL_set (fun j => .int .i64 (xs.getD j default)) _ _ _), by omega, by omega⟩
  · trivial
theorem toRuleL_fc (p : List Nat) (hp : p ≠ []) (x : RuleT) (hn : cntRule x ≤ 1048576) : FC S 55 [] [] [] [RuleD x] (RuleL p x) [] [] := by
  have hn' := hn
  simp only [cntRule] at hn'
  refine fc_body Try.func55 rfl (by kernel_rfl) (by simp [Try.f55]) fun B => ?_
  simp only [Try.ntmps55, enumD, List.map_nil, List.map_cons, List.length_map, Nat.zero_add, Nat.reduceAdd]
  repeat' first
    | exact Bool.noConfusion h
    | refine sw_seq ?_
    | refine sw_block ?_
    | refine sw_skip ?_
    | refine sw_inBlock ?_
    | refine sw_go 0 kp55 fun K hK => ?_
    | refine fun (K : List Oper → LS → Prop) (hK : KOk S 0 _ _ _ K) => ?_
    | ((first | refine runL_go ?_ | refine runQ_go ?_); simp (disch := (refine Om.mk ?_; omega)) only [go_sem])
    | (refine hK.nil ?_; clear hK K; simp only [go_sem])
    | (refine sw_cond rfl (fun h => ?_) (fun h => ?_) <;> (try simp (disch := (refine Om.mk ?_; omega)) only [go_sem] at h))
    | (refine sw_exit rfl ?_)
    | (refine sw_loopEnd ?_)
    | ((first | refine sw_ret (ret0 ?_) | refine sw_ret ?_); simp (disch := (refine Om.mk ?_; omega)) only [go_sem, Try.results55])
    | refine hK.call rfl rfl rfl (toInt64SL_fc (p ++ [0]) (by simp) _ (x.l) (by omega)) ⟨(by intro p hp; cases hp), rfl, rfl, (by simp only [dstOk, Nat.reduceLT])⟩ ?_
    | refine hK.call rfl rfl rfl (toInt64SL_fc (p ++ [1]) (by simp) _ (x.r) (by omega)) ⟨(by intro p hp; cases hp), rfl, rfl, (by simp only [dstOk, Nat.reduceLT])⟩ ?_
    | (with_reducible refine And.intro (by first | omega | (simp only [List.length_append, List.length_take, List.length_drop, List.length_cons, List.length_nil, List.length_map]; omega)) ?_)
    | ((with_reducible refine And.intro ?_ ?_); · first | (intro x hx; subst hx; rfl) | exact upR_mem fun _ _ => rfl | exact mapR_mem fun _ _ => rfl | (intro x; refine And.intro ?_ ?_ <;> (intros; subst_vars; rfl)))
    | fail
  all_goals exact D.le.refl _
theorem toSigL_fc (p : List Nat) (hp : p ≠ []) (x : List Int) (hn : cntSig x ≤ 1048576) : FC S 7 [] [] [] [SigD x] (SigL p x) [] [] := by
  have hn' := hn
  simp only [cntSig] at hn'
  refine fc_body Try.func7 rfl (by kernel_rfl) (by simp [Try.f7]) fun B => ?_
  simp only [Try.ntmps7, enumD, List.map_nil, List.map_cons, List.length_map, Nat.zero_add, Nat.reduceAdd]
  repeat' first
    | exact Bool.noConfusion h
    | refine sw_seq ?_
    | refine sw_block ?_
    | refine sw_skip ?_
    | refine sw_inBlock ?_
    | refine sw_go 0 kp7 fun K hK => ?_
    | refine fun (K : List Oper → LS → Prop) (hK : KOk S 0 _ _ _ K) => ?_
    | ((first | refine runL_go ?_ | refine runQ_go ?_); simp (disch := (refine Om.mk ?_; omega)) only [go_sem])
    | (refine hK.nil ?_; clear hK K; simp only [go_sem])
    | (refine sw_cond rfl (fun h => ?_) (fun h => ?_) <;> (try simp (disch := (refine Om.mk ?_; omega)) only [go_sem] at h))
    | (refine sw_exit rfl ?_)
    | (refine sw_loopEnd ?_)
    | ((first | refine sw_ret (ret0 ?_) | refine sw_ret ?_); simp (disch := (refine Om.mk ?_; omega)) only [go_sem, Try.results7])
    | refine hK.call rfl rfl rfl (toInt64SL_fc (p ++ [0]) (by simp) _ (x) (by omega)) ⟨(by intro p hp; cases hp), rfl, rfl, (by simp only [dstOk, Nat.reduceLT])⟩ ?_
    | (with_reducible refine And.intro (by first | omega | (simp only [List.length_append, List.length_take, List.length_drop, List.length_cons, List.length_nil, List.length_map]; omega)) ?_)
    | ((with_reducible refine And.intro ?_ ?_); · first | (intro x hx; subst hx; rfl) | exact upR_mem fun _ _ => rfl | exact mapR_mem fun _ _ => rfl | (intro x; refine And.intro ?_ ?_ <;> (intros; subst_vars; rfl)))
    | fail
  all_goals exact D.le.refl _
theorem toRuleSL_fc (p : List Nat) (hp : p ≠ []) (tk : Tk) (xs : List RuleT) (hn : cntRuleS xs ≤ 1048576) : FC S 39 [] [] [] [.sl tk (xs.map RuleD)] (RuleSL p xs) [] [] := by
  have hl : xs.length ≤ 1048576 := by unfold cntRuleS at hn; omega
  have hq : ∀ i < xs.length, cntRule (xs.getD i default) ≤ 1048576 := fun i hi => by
    have := f_le_sum cntRule xs i hi
    unfold cntRuleS at hn; omega
  refine fc_body Try.func39 rfl (by kernel_rfl) (by simp [Try.f39]) fun B => ?_
  simp only [Try.ntmps39, enumD, List.map_nil, List.map_cons, List.length_map, Nat.zero_add, Nat.reduceAdd]
  refine sw_bnd 0 rfl fun hb0 => ?_
  simp only [D.bnd, List.length_map] at hb0
  repeat' first
    | exact Bool.noConfusion h
    | refine sw_seq ?_
    | refine sw_block ?_
    | refine sw_skip ?_
    | refine sw_inBlock ?_
    | refine sw_go 0 kp39 fun K hK => ?_
    | refine fun (K : List Oper → LS → Prop) (hK : KOk S 0 _ _ _ K) => ?_
    | ((first | refine runL_go ?_ | refine runQ_go ?_); simp (disch := (refine Om.mk ?_; omega)) only [go_sem])
    | (refine hK.nil ?_; clear hK K; simp only [go_sem])
    | (refine sw_cond rfl (fun h => ?_) (fun h => ?_) <;> (try simp (disch := (refine Om.mk ?_; omega)) only [go_sem] at h))
    | (refine sw_exit rfl ?_)
    | (refine sw_loopEnd ?_)
    | ((first | refine sw_ret (ret0 ?_) | refine sw_ret ?_); simp (disch := (refine Om.mk ?_; omega)) only [go_sem, Try.results39])
    | (with_reducible refine And.intro (by first | omega | (simp only [List.length_append, List.length_take, List.length_drop, List.length_cons, List.length_nil, List.length_map]; omega)) ?_)
    | ((with_reducible refine And.intro ?_ ?_); · first | (intro x hx; subst hx; rfl) | exact upR_mem fun _ _ => rfl | exact mapR_mem fun _ _ => rfl | (intro x; refine And.intro ?_ ?_ <;> (intros; subst_vars; rfl)))
    | fail
  refine sw_loopU (ι := Nat) (fun i => [(4, .int .i64 i)]) (fun i => [(7, fillF (fun j => [Int64SL ((p ++ [j]) ++ [0]) (((xs.getD j default)).l), Int64SL ((p ++ [j]) ++ [1]) (((xs.getD j default)).r)]) [.sl .nil [], .sl .nil []] i xs.length)]) (fun i => i ≤ xs.length ∧ (True)) (fun i => xs.length - i) 0 (by (refine covers_mk0 rfl rfl ?_ ?_ ?_ ?_ <;> simp (disch := (refine Om.mk ?_; omega)) only [go_sem] <;> (try omega)); exact fillF_start _ _ _) ⟨by omega, ?_⟩ (fun i ⟨hi, hj⟩ => ?_)
  rotate_left
  simp only [go_sem]
  have hm : i * 2 + 2 ≤ 2 * xs.length ∨ xs.length ≤ i := by omega
  repeat' first
    | (refine sw_freezeLabAt 6 3 2 p (mapR (fun i y => RuleL (p ++ [i]) y) xs) rfl rfl (by rw [show i = xs.length by omega]; exact fillF_doneR (fun i y => RuleL (p ++ [i]) y) _ xs) (by rw [mapR_length]) (mapR_cells fun _ _ => rfl) (fillF_memOk (fun j d hd => by revert d hd; simp [D.memOk]) (by simp [D.memOk])) hp (by simp) ?_; simp only [go_sem])
    | exact Bool.noConfusion h
    | refine sw_seq ?_
    | refine sw_block ?_
    | refine sw_skip ?_
    | refine sw_inBlock ?_
    | refine sw_go 0 kp39 fun K hK => ?_
    | refine fun (K : List Oper → LS → Prop) (hK : KOk S 0 _ _ _ K) => ?_
    | ((first | refine runL_go ?_ | refine runQ_go ?_); simp (disch := (refine Om.mk ?_; omega)) only [go_sem])
    | (refine hK.nil ?_; clear hK K; simp only [go_sem])
    | (refine sw_cond rfl (fun h => ?_) (fun h => ?_) <;> (try simp (disch := (refine Om.mk ?_; omega)) only [go_sem] at h))
    | (refine sw_exit rfl ?_)
    | (refine sw_loopEnd ?_)
    | ((first | refine sw_ret (ret0 ?_) | refine sw_ret ?_); simp (disch := (refine Om.mk ?_; omega)) only [go_sem, Try.results39])
    | refine hK.call rfl rfl rfl (toRuleL_fc (p ++ [i]) (by simp) (xs.getD i default) (by exact hq i (by omega))) ⟨(by intro p hp; cases hp), rfl, rfl, (by simp only [dstOk, Nat.reduceLT])⟩ ?_
    | (with_reducible refine And.intro (by first | omega | (simp only [List.length_append, List.length_take, List.length_drop, List.length_cons, List.length_nil, List.length_map]; omega)) ?_)
    | ((with_reducible refine And.intro ?_ ?_); · first | (intro x hx; subst hx; rfl) | exact upR_mem fun _ _ => rfl | exact mapR_mem fun _ _ => rfl | (intro x; refine And.intro ?_ ?_ <;> (intros; subst_vars; rfl)))
    | fail
  · exact ⟨i + 1, (by (refine covers_mk0 rfl rfl ?_ ?_ ?_ ?_ <;> simp (disch := (refine Om.mk ?_; omega)) only [go_sem] <;> (try omega)); exact fillF_put (f := (fun j => [Int64SL ((p ++ [j]) ++ [0]) (((xs.getD j default)).l), Int64SL ((p ++ [j]) ++ [1]) (((xs.getD j default)).r)])) (fun _ => rfl) rfl (by omega)), by omega, by omega⟩
  · trivial
theorem toSystemL_fc (p : List Nat) (hp : p ≠ []) (x : SystemT) (hn : cntSystem x ≤ 1048576) : FC S 16 [] [] [] [SystemD x] (SystemL p x) [] [] := by
  have hn' := hn
  simp only [cntSystem] at hn'
  refine fc_body Try.func16 rfl (by kernel_rfl) (by simp [Try.f16]) fun B => ?_
  simp only [Try.ntmps16, enumD, List.map_nil, List.map_cons, List.length_map, Nat.zero_add, Nat.reduceAdd]
  repeat' first
    | exact Bool.noConfusion h
    | refine sw_seq ?_
    | refine sw_block ?_
    | refine sw_skip ?_
    | refine sw_inBlock ?_
    | refine sw_go 0 kp16 fun K hK => ?_
    | refine fun (K : List Oper → LS → Prop) (hK : KOk S 0 _ _ _ K) => ?_
    | ((first | refine runL_go ?_ | refine runQ_go ?_); simp (disch := (refine Om.mk ?_; omega)) only [go_sem])
    | (refine hK.nil ?_; clear hK K; simp only [go_sem])
    | (refine sw_cond rfl (fun h => ?_) (fun h => ?_) <;> (try simp (disch := (refine Om.mk ?_; omega)) only [go_sem] at h))
    | (refine sw_exit rfl ?_)
    | (refine sw_loopEnd ?_)
    | ((first | refine sw_ret (ret0 ?_) | refine sw_ret ?_); simp (disch := (refine Om.mk ?_; omega)) only [go_sem, Try.results16])
    | refine hK.call rfl rfl rfl (toSigL_fc p hp (x.sig) (by omega)) ⟨(by intro p hp; cases hp), rfl, rfl, (by simp only [dstOk, Nat.reduceLT])⟩ ?_
    | refine hK.call rfl rfl rfl (toRuleSL_fc (p ++ [1]) (by simp) _ (x.rules) (by omega)) ⟨(by intro p hp; cases hp), rfl, rfl, (by simp only [dstOk, Nat.reduceLT])⟩ ?_
    | (with_reducible refine And.intro (by first | omega | (simp only [List.length_append, List.length_take, List.length_drop, List.length_cons, List.length_nil, List.length_map]; omega)) ?_)
    | ((with_reducible refine And.intro ?_ ?_); · first | (intro x hx; subst hx; rfl) | exact upR_mem fun _ _ => rfl | exact mapR_mem fun _ _ => rfl | (intro x; refine And.intro ?_ ?_ <;> (intros; subst_vars; rfl)))
    | fail
  all_goals exact D.le.refl _
end Go.Proofs.Ytldlochhiiogbaa
