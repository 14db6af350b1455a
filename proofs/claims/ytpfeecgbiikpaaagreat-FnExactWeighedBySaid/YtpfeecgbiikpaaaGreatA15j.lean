/-
  Linear forms of terms: the form of a symbol with its arguments' forms (program's side).
-/
import Derived.Test.YtpfeecgbiikpaaaGreatA15i
namespace Go.Proofs.YtpfeecgbiikpaaaGreat
open Go Go.Lg
set_option linter.unusedSimpArgs false
set_option linter.unusedVariables false
set_option maxHeartbeats 4000000
attribute [local irreducible] SW runL runQ runG runQG FC Ret1 toF redoL anyB addJ sumF
attribute [local go_sem] PolyLb
def kp179 : List (Nat × List Nat) := [(0, [1, 2, 4]), (1, [1, 2, 4, 6]), (2, [2, 4, 6, 14, 15, 16]), (3, [2, 4, 6, 14, 15, 16, 17]), (4, [2, 4, 6, 7, 8, 14, 15, 16]), (5, [2, 4, 6, 7, 8, 14, 15, 16]), (6, [2, 4, 6, 7, 8, 14, 15, 16, 39]), (7, [2, 4, 6, 7, 8, 14, 15, 16]), (8, [2, 4, 6, 7, 14, 15, 16, 46, 47, 48]), (9, [2, 4, 6, 7, 14, 15, 16, 46, 47, 48, 49]), (10, [2, 4, 6, 7, 9, 10, 14, 15, 16, 46, 47, 48]), (11, [2, 4, 6, 7, 14, 15, 16, 46, 47, 48]), (12, [2, 4, 6, 7, 14, 15, 16, 46, 47, 48]), (13, [2, 4, 6, 14, 15, 16]), (14, [4, 6, 83]), (15, [4, 5]), (16, [4, 5])]
attribute [go_sem] kp179
theorem appliedL_fc (p : PolyT) (qs : List PolyT) (hp : PolyOkP qs.length p) (hn : qs.length ≤ 3) (hA : ∀ j < qs.length, GoodB MF (qs.getD j default)) : FC S 179 [] [] [] [.agg [.int .i64 p.const, .sl (.lab [1]) (p.coef.map (.int .i64))], .sl (.lab [1]) (qs.map PolyLb)] (.tup [PolyD (appF1 (fun j => (qs.getD j default, true)) p qs.length).1, .bool (appF1 (fun j => (qs.getD j default, true)) p qs.length).2]) [] [] := by
  have hpl := hp.1
  have hz : sumF (fun j => (qs.getD j default, true)) p 0 = ⟨p.const, []⟩ := by unfold sumF; rfl
  have hs : ∀ i, sumF (fun j => (qs.getD j default, true)) p (i + 1) = addF (sumF (fun j => (qs.getD j default, true)) p i) (qs.getD i default) (p.coef.getD i default) := fun i => by conv => lhs; unfold sumF
  have hgood := fun i (hi : i ≤ qs.length) => good_le (good_sum (F := fun j => (qs.getD j default, true)) hp i fun j hj => hA j (by omega)) (show (9 + 9 * MF * (i : Int)) ≤ 100 * MF by simp only [MF]; omega)
  unfold appF1
  generalize sumF (fun j => (qs.getD j default, true)) p = F at *
  refine fc_bodyF Tryz.func179 rfl (by kernel_rfl) (by simp [Tryz.f179]) fun B N hOff => ?_
  simp only [Tryz.ntmps179, enumD, List.map_nil, List.map_cons, List.length_map, Nat.zero_add, Nat.reduceAdd]
  repeat' first
    | exact Bool.noConfusion h
    | refine sw_seq ?_
    | refine sw_block ?_
    | refine sw_skip ?_
    | refine sw_inBlock ?_
    | refine sw_go 0 kp179 fun K hK => ?_
    | refine sw_goT 0 kp179 12 (id := 5) (by kernel_rfl) fun K hK => ?_
    | refine sw_goT 0 kp179 14 (id := 11) (by kernel_rfl) fun K hK => ?_
    | refine fun (K : List Oper → LS → Prop) (hK : KOk S 0 _ _ _ K) => ?_
    | refine sw_goD kp179 (by kernel_rfl) fun K hK => ?_
    | ((first | refine runL_go ?_ | refine runQ_go ?_); simp (disch := (refine Om.mk ?_; omega)) only [go_sem])
    | (refine hK.nil ?_; clear hK K; simp only [go_sem])
    | (refine runG_fork rfl rfl rfl rfl rfl (fun h => ?_) (fun h => ?_) <;> (try simp (disch := (refine Om.mk ?_; omega)) only [go_sem] at h))
    | (refine runQG_fork rfl rfl rfl rfl rfl (fun h => ?_) (fun h => ?_) <;> (try simp (disch := (refine Om.mk ?_; omega)) only [go_sem] at h))
    | (refine hK.skip rfl (by simp only [dstOk, Nat.reduceLT]) ?_)
    | (refine sw_cond rfl (fun h => ?_) (fun h => ?_) <;> (try simp (disch := (refine Om.mk ?_; omega)) only [go_sem] at h))
    | (refine sw_exit rfl ?_)
    | (refine sw_loopEnd ?_)
    | ((first | refine sw_ret (ret0 ?_) | refine sw_ret ?_); simp (disch := (refine Om.mk ?_; omega)) only [go_sem, Tryz.results179])
    | (refine hK.fork rfl rfl rfl (fun h => ?_) (fun h => ?_) <;> (try simp (disch := (refine Om.mk ?_; omega)) only [go_sem] at h))
    | (with_reducible refine And.intro (by first | omega | (simp only [List.length_append, List.length_take, List.length_drop, List.length_cons, List.length_nil, List.length_map]; omega)) ?_)
    | ((with_reducible refine And.intro ?_ ?_); · first | (intro x hx; subst hx; rfl) | exact upR_mem fun _ _ => rfl | exact mapR_mem fun _ _ => rfl | (intro x; refine And.intro ?_ ?_ <;> (intros; subst_vars; rfl)))
    | fail
  refine sw_tokBox 6 1 44000 2 1 rfl rfl rfl ?_
  simp only [go_sem]
  refine sw_loopT (ι := Nat) (fun i => [(16, .int .i64 i)]) (fun i => [(6, [.int .i64 (F i).const, .sl (.own 44000 2 1) ((F i).coef.map (.int .i64))])]) (fun _ => [44000]) (fun i => i ≤ qs.length) (fun i => qs.length - i) 0 (by rw [hz]; (refine covers_mk0 rfl rfl ?_ ?_ ?_ ?_ <;> simp (disch := (refine Om.mk ?_; omega)) only [go_sem] <;> (try omega))) (by omega) (fun i hi => ?_)
  simp only [go_sem]
  have hci := coef_get hp i
  have hgo := hgood i hi
  have hlo := hgo.2.2
  have hco := hgo.1
  simp only [MF] at hco
  by_cases hil : i < qs.length
  · have ha := hA i hil
    have hla := ha.2.2
    have hs1 := hs i
    have hm : 0 ≤ p.coef.getD i default * (qs.getD i default).const ∧ p.coef.getD i default * (qs.getD i default).const ≤ 9 * MF := ⟨Int.mul_nonneg hci.1 ha.1.1, Int.mul_le_mul hci.2 ha.1.2 ha.1.1 (by omega)⟩
    simp only [MF] at hm
    repeat' first
      | ((exfalso; omega))
      | exact Bool.noConfusion h
      | refine sw_seq ?_
      | refine sw_block ?_
      | refine sw_skip ?_
      | refine sw_inBlock ?_
      | refine sw_go 0 kp179 fun K hK => ?_
      | refine sw_goT 0 kp179 12 (id := 5) (by kernel_rfl) fun K hK => ?_
      | refine sw_goT 0 kp179 14 (id := 11) (by kernel_rfl) fun K hK => ?_
      | refine fun (K : List Oper → LS → Prop) (hK : KOk S 0 _ _ _ K) => ?_
      | refine sw_goD kp179 (by kernel_rfl) fun K hK => ?_
      | ((first | refine runL_go ?_ | refine runQ_go ?_); simp (disch := (refine Om.mk ?_; omega)) only [go_sem])
      | (refine hK.nil ?_; clear hK K; simp only [go_sem])
      | (refine runG_fork rfl rfl rfl rfl rfl (fun h => ?_) (fun h => ?_) <;> (try simp (disch := (refine Om.mk ?_; omega)) only [go_sem] at h))
      | (refine runQG_fork rfl rfl rfl rfl rfl (fun h => ?_) (fun h => ?_) <;> (try simp (disch := (refine Om.mk ?_; omega)) only [go_sem] at h))
      | (refine hK.skip rfl (by simp only [dstOk, Nat.reduceLT]) ?_)
      | (refine sw_cond rfl (fun h => ?_) (fun h => ?_) <;> (try simp (disch := (refine Om.mk ?_; omega)) only [go_sem] at h))
      | (refine sw_exit rfl ?_)
      | (refine sw_loopEnd ?_)
      | ((first | refine sw_ret (ret0 ?_) | refine sw_ret ?_); simp (disch := (refine Om.mk ?_; omega)) only [go_sem, Tryz.results179])
      | (refine hK.fork rfl rfl rfl (fun h => ?_) (fun h => ?_) <;> (try simp (disch := (refine Om.mk ?_; omega)) only [go_sem] at h))
      | (with_reducible refine And.intro (by first | omega | (simp only [List.length_append, List.length_take, List.length_drop, List.length_cons, List.length_nil, List.length_map]; omega)) ?_)
      | ((with_reducible refine And.intro ?_ ?_); · first | (intro x hx; subst hx; rfl) | exact upR_mem fun _ _ => rfl | exact mapR_mem fun _ _ => rfl | (intro x; refine And.intro ?_ ?_ <;> (intros; subst_vars; rfl)))
      | fail
    generalize ho : F i = o at *
    refine sw_loopT (ι := Nat) (fun _ => []) (fun j => [(6, [.int .i64 (o.const + p.coef.getD i default * (qs.getD i default).const), .sl (.own 44000 2 1) ((o.coef ++ List.replicate j 0).map (.int .i64))])]) (fun _ => [44000]) (fun j => j ≤ (qs.getD i default).coef.length - o.coef.length) (fun j => (qs.getD i default).coef.length - o.coef.length - j) 0 (by rw [List.replicate_zero, List.append_nil]; (refine covers_mk0 rfl rfl ?_ ?_ ?_ ?_ <;> simp (disch := (refine Om.mk ?_; omega)) only [go_sem] <;> (try omega))) (by omega) (fun j hj => ?_)
    simp only [go_sem]
    have hjl : (o.coef ++ List.replicate j (0 : Int)).length = o.coef.length + j := by simp
    have hjs : o.coef ++ List.replicate (j + 1) (0 : Int) = (o.coef ++ List.replicate j 0) ++ [0] := by rw [List.replicate_succ', List.append_assoc]
    repeat' first
      | exact Bool.noConfusion h
      | refine sw_seq ?_
      | refine sw_block ?_
      | refine sw_skip ?_
      | refine sw_inBlock ?_
      | refine sw_go 0 kp179 fun K hK => ?_
      | refine sw_goT 0 kp179 12 (id := 5) (by kernel_rfl) fun K hK => ?_
      | refine sw_goT 0 kp179 14 (id := 11) (by kernel_rfl) fun K hK => ?_
      | refine fun (K : List Oper → LS → Prop) (hK : KOk S 0 _ _ _ K) => ?_
      | refine sw_goD kp179 (by kernel_rfl) fun K hK => ?_
      | ((first | refine runL_go ?_ | refine runQ_go ?_); simp (disch := (refine Om.mk ?_; omega)) only [go_sem])
      | (refine hK.nil ?_; clear hK K; simp only [go_sem])
      | (refine runG_fork rfl rfl rfl rfl rfl (fun h => ?_) (fun h => ?_) <;> (try simp (disch := (refine Om.mk ?_; omega)) only [go_sem] at h))
      | (refine runQG_fork rfl rfl rfl rfl rfl (fun h => ?_) (fun h => ?_) <;> (try simp (disch := (refine Om.mk ?_; omega)) only [go_sem] at h))
      | (refine hK.skip rfl (by simp only [dstOk, Nat.reduceLT]) ?_)
      | (refine sw_cond rfl (fun h => ?_) (fun h => ?_) <;> (try simp (disch := (refine Om.mk ?_; omega)) only [go_sem] at h))
      | (refine sw_exit rfl ?_)
      | (refine sw_loopEnd ?_)
      | ((first | refine sw_ret (ret0 ?_) | refine sw_ret ?_); simp (disch := (refine Om.mk ?_; omega)) only [go_sem, Tryz.results179])
      | (refine hK.fork rfl rfl rfl (fun h => ?_) (fun h => ?_) <;> (try simp (disch := (refine Om.mk ?_; omega)) only [go_sem] at h))
      | (with_reducible refine And.intro (by first | omega | (simp only [List.length_append, List.length_take, List.length_drop, List.length_cons, List.length_nil, List.length_map]; omega)) ?_)
      | ((with_reducible refine And.intro ?_ ?_); · first | (intro x hx; subst hx; rfl) | exact upR_mem fun _ _ => rfl | exact mapR_mem fun _ _ => rfl | (intro x; refine And.intro ?_ ?_ <;> (intros; subst_vars; rfl)))
      | fail
    · exact ⟨j + 1, (by rw [hjs]; (refine covers_mk0 rfl rfl ?_ ?_ ?_ ?_ <;> simp (disch := (refine Om.mk ?_; omega)) only [go_sem] <;> (try omega))), by omega, by omega⟩
    · rw [show j = (qs.getD i default).coef.length - o.coef.length by omega, ← addJ_zero o.coef (qs.getD i default).coef (p.coef.getD i default)]
      refine sw_loopT (ι := Nat) (fun v => [(48, .int .i64 v)]) (fun v => [(6, [.int .i64 (o.const + p.coef.getD i default * (qs.getD i default).const), .sl (.own 44000 2 1) ((addJ o.coef (qs.getD i default).coef (p.coef.getD i default) v).map (.int .i64))])]) (fun _ => [44000]) (fun v => v ≤ (qs.getD i default).coef.length) (fun v => (qs.getD i default).coef.length - v) 0 (by (refine covers_mk0 rfl rfl ?_ ?_ ?_ ?_ <;> simp (disch := (refine Om.mk ?_; omega)) only [go_sem] <;> (try omega))) (by omega) (fun v hv => ?_)
      simp only [go_sem]
      have hbv := mem_getD (P := fun x => 0 ≤ x ∧ x ≤ MF) ⟨Int.le_refl _, by decide⟩ ha.2.1 v
      have hav := mem_getD (P := fun x => 0 ≤ x ∧ x ≤ 100 * MF) ⟨Int.le_refl _, by decide⟩ hgo.2.1 v
      have hmv : 0 ≤ p.coef.getD i default * (qs.getD i default).coef.getD v default ∧ p.coef.getD i default * (qs.getD i default).coef.getD v default ≤ 9 * MF := ⟨Int.mul_nonneg hci.1 hbv.1, Int.mul_le_mul hci.2 hbv.2 hbv.1 (by omega)⟩
      have hLv : (addJ o.coef (qs.getD i default).coef (p.coef.getD i default) v).getD v default = o.coef.getD v default := by rw [addJ_get _ _ _ _ hv, if_neg (by omega), Int.add_zero]
      have hLl := addJ_len o.coef (qs.getD i default).coef (p.coef.getD i default) v
      have hLs := addJ_succ o.coef (qs.getD i default).coef (p.coef.getD i default) v
      simp only [MF] at hav hmv
      repeat' first
        | ((refine sw_goTW kp179 13 (id := 11) (by kernel_rfl) fun K hK => ?_))
        | exact Bool.noConfusion h
        | refine sw_seq ?_
        | refine sw_block ?_
        | refine sw_skip ?_
        | refine sw_inBlock ?_
        | refine sw_go 0 kp179 fun K hK => ?_
        | refine sw_goT 0 kp179 12 (id := 5) (by kernel_rfl) fun K hK => ?_
        | refine fun (K : List Oper → LS → Prop) (hK : KOk S 0 _ _ _ K) => ?_
        | refine sw_goD kp179 (by kernel_rfl) fun K hK => ?_
        | ((first | refine runL_go ?_ | refine runQ_go ?_); simp (disch := (refine Om.mk ?_; omega)) only [go_sem])
        | (refine hK.nil ?_; clear hK K; simp only [go_sem])
        | (refine runG_fork rfl rfl rfl rfl rfl (fun h => ?_) (fun h => ?_) <;> (try simp (disch := (refine Om.mk ?_; omega)) only [go_sem] at h))
        | (refine runQG_fork rfl rfl rfl rfl rfl (fun h => ?_) (fun h => ?_) <;> (try simp (disch := (refine Om.mk ?_; omega)) only [go_sem] at h))
        | (refine hK.skip rfl (by simp only [dstOk, Nat.reduceLT]) ?_)
        | (refine sw_cond rfl (fun h => ?_) (fun h => ?_) <;> (try simp (disch := (refine Om.mk ?_; omega)) only [go_sem] at h))
        | (refine sw_exit rfl ?_)
        | (refine sw_loopEnd ?_)
        | ((first | refine sw_ret (ret0 ?_) | refine sw_ret ?_); simp (disch := (refine Om.mk ?_; omega)) only [go_sem, Tryz.results179])
        | (refine hK.fork rfl rfl rfl (fun h => ?_) (fun h => ?_) <;> (try simp (disch := (refine Om.mk ?_; omega)) only [go_sem] at h))
        | (with_reducible refine And.intro (by first | omega | (simp only [List.length_append, List.length_take, List.length_drop, List.length_cons, List.length_nil, List.length_map]; omega)) ?_)
        | ((with_reducible refine And.intro ?_ ?_); · first | (intro x hx; subst hx; rfl) | exact upR_mem fun _ _ => rfl | exact mapR_mem fun _ _ => rfl | (intro x; refine And.intro ?_ ?_ <;> (intros; subst_vars; rfl)))
        | fail
      · refine LopsW.storeOwnL [(2, .box 2 0), (4, .box 4 0), (6, .box 6 0), (7, .int .i64 i), (14, .sl (.lab [1]) (qs.map PolyLb)), (15, .int .i64 qs.length), (16, .int .i64 i), (46, .sl (.lab [1]) ((qs.getD i default).coef.map (.int .i64))), (47, .int .i64 (qs.getD i default).coef.length), (48, .int .i64 v)] [(2, [.int .i64 p.const, .sl (.lab [1]) (p.coef.map (.int .i64))]), (4, [.int .i64 0, .sl .nil []]), (6, [.int .i64 (o.const + p.coef.getD i default * (qs.getD i default).const), .sl (.own 44000 2 1) (((addJ o.coef (qs.getD i default).coef (p.coef.getD i default) v).set v ((addJ o.coef (qs.getD i default).coef (p.coef.getD i default) v).getD v default + p.coef.getD i default * (qs.getD i default).coef.getD v default)).map (.int .i64))]), (8, [.int .i64 (qs.getD i default).const, .sl (.lab [1]) ((qs.getD i default).coef.map (.int .i64))])] hOff.1 rfl rfl rfl rfl rfl rfl rfl (fun _ => rfl) (by simp) ⟨by omega, by omega⟩ (by simp only [Nat.reduceLT]) ⟨⟨by decide, _, rfl, sto_plain rfl⟩, ⟨by decide, _, rfl, sto_plain rfl⟩, ⟨by decide, _, rfl, sto_plain rfl⟩, ⟨by decide, _, rfl, sto_plain rfl⟩, ⟨by decide, _, rfl, sto_polyL qs⟩, ⟨by decide, _, rfl, sto_plain rfl⟩, ⟨by decide, _, rfl, sto_plain rfl⟩, ⟨by decide, _, rfl, sto_lab _ _ _⟩, ⟨by decide, _, rfl, sto_plain rfl⟩, ⟨by decide, _, rfl, sto_plain rfl⟩, trivial⟩ ⟨⟨_, rfl, sto_plain rfl, sto_lab _ _ _, trivial⟩, ⟨_, rfl, sto_plain rfl, sto_plain rfl, trivial⟩, ⟨_, rfl, sto_plain rfl, sto_own, trivial⟩, ⟨_, rfl, sto_plain rfl, sto_lab _ _ _, trivial⟩, trivial⟩ ?_
        refine LopsW.nil ?_
        rw [← hLs]
        simp only [go_sem]
        repeat' first
          | exact Bool.noConfusion h
          | refine sw_seq ?_
          | refine sw_block ?_
          | refine sw_skip ?_
          | refine sw_inBlock ?_
          | refine sw_go 0 kp179 fun K hK => ?_
          | refine sw_goT 0 kp179 12 (id := 5) (by kernel_rfl) fun K hK => ?_
          | refine sw_goT 0 kp179 14 (id := 11) (by kernel_rfl) fun K hK => ?_
          | refine fun (K : List Oper → LS → Prop) (hK : KOk S 0 _ _ _ K) => ?_
          | refine sw_goD kp179 (by kernel_rfl) fun K hK => ?_
          | ((first | refine runL_go ?_ | refine runQ_go ?_); simp (disch := (refine Om.mk ?_; omega)) only [go_sem])
          | (refine hK.nil ?_; clear hK K; simp only [go_sem])
          | (refine runG_fork rfl rfl rfl rfl rfl (fun h => ?_) (fun h => ?_) <;> (try simp (disch := (refine Om.mk ?_; omega)) only [go_sem] at h))
          | (refine runQG_fork rfl rfl rfl rfl rfl (fun h => ?_) (fun h => ?_) <;> (try simp (disch := (refine Om.mk ?_; omega)) only [go_sem] at h))
          | (refine hK.skip rfl (by simp only [dstOk, Nat.reduceLT]) ?_)
          | (refine sw_cond rfl (fun h => ?_) (fun h => ?_) <;> (try simp (disch := (refine Om.mk ?_; omega)) only [go_sem] at h))
          | (refine sw_exit rfl ?_)
          | (refine sw_loopEnd ?_)
          | ((first | refine sw_ret (ret0 ?_) | refine sw_ret ?_); simp (disch := (refine Om.mk ?_; omega)) only [go_sem, Tryz.results179])
          | (refine hK.fork rfl rfl rfl (fun h => ?_) (fun h => ?_) <;> (try simp (disch := (refine Om.mk ?_; omega)) only [go_sem] at h))
          | (with_reducible refine And.intro (by first | omega | (simp only [List.length_append, List.length_take, List.length_drop, List.length_cons, List.length_nil, List.length_map]; omega)) ?_)
          | ((with_reducible refine And.intro ?_ ?_); · first | (intro x hx; subst hx; rfl) | exact upR_mem fun _ _ => rfl | exact mapR_mem fun _ _ => rfl | (intro x; refine And.intro ?_ ?_ <;> (intros; subst_vars; rfl)))
          | fail
        exact ⟨v + 1, (by (refine covers_mk0 rfl rfl ?_ ?_ ?_ ?_ <;> simp (disch := (refine Om.mk ?_; omega)) only [go_sem] <;> (try omega))), by omega, by omega⟩
      · have e1 : (addF o (qs.getD i default) (p.coef.getD i default)).const = o.const + p.coef.getD i default * (qs.getD i default).const := rfl
        have e2 : (addF o (qs.getD i default) (p.coef.getD i default)).coef = addJ o.coef (qs.getD i default).coef (p.coef.getD i default) (qs.getD i default).coef.length := rfl
        exact ⟨i + 1, (by rw [hs1, e1, e2, show v = (qs.getD i default).coef.length by omega]; (refine covers_mk0 rfl rfl ?_ ?_ ?_ ?_ <;> simp (disch := (refine Om.mk ?_; omega)) only [go_sem] <;> (try omega))), by omega, by omega⟩
  · obtain rfl : i = qs.length := by omega
    rcases Classical.em (okF (F qs.length)) with hok | hok
    · rw [if_pos ⟨(fun _ _ => rfl), hok⟩]
      have h1 := hok.1
      have h2 := hok.2
      simp only [MF] at h2
      repeat' first
        | ((exfalso; omega))
        | exact Bool.noConfusion h
        | refine sw_seq ?_
        | refine sw_block ?_
        | refine sw_skip ?_
        | refine sw_inBlock ?_
        | refine sw_go 0 kp179 fun K hK => ?_
        | refine sw_goT 0 kp179 12 (id := 5) (by kernel_rfl) fun K hK => ?_
        | refine sw_goT 0 kp179 14 (id := 11) (by kernel_rfl) fun K hK => ?_
        | refine fun (K : List Oper → LS → Prop) (hK : KOk S 0 _ _ _ K) => ?_
        | refine sw_goD kp179 (by kernel_rfl) fun K hK => ?_
        | ((first | refine runL_go ?_ | refine runQ_go ?_); simp (disch := (refine Om.mk ?_; omega)) only [go_sem])
        | (refine hK.nil ?_; clear hK K; simp only [go_sem])
        | (refine runG_fork rfl rfl rfl rfl rfl (fun h => ?_) (fun h => ?_) <;> (try simp (disch := (refine Om.mk ?_; omega)) only [go_sem] at h))
        | (refine runQG_fork rfl rfl rfl rfl rfl (fun h => ?_) (fun h => ?_) <;> (try simp (disch := (refine Om.mk ?_; omega)) only [go_sem] at h))
        | (refine hK.skip rfl (by simp only [dstOk, Nat.reduceLT]) ?_)
        | (refine sw_cond rfl (fun h => ?_) (fun h => ?_) <;> (try simp (disch := (refine Om.mk ?_; omega)) only [go_sem] at h))
        | (refine sw_exit rfl ?_)
        | (refine sw_loopEnd ?_)
        | ((first | refine sw_ret (ret0 ?_) | refine sw_ret ?_); simp (disch := (refine Om.mk ?_; omega)) only [go_sem, Tryz.results179])
        | refine hK.call rfl rfl rfl (max_fc _ (F qs.length).coef (by omega)) ⟨(by intro p hp; cases hp), rfl, rfl, (by simp only [dstOk, Nat.reduceLT])⟩ ?_
        | (refine hK.fork rfl rfl rfl (fun h => ?_) (fun h => ?_) <;> (try simp (disch := (refine Om.mk ?_; omega)) only [go_sem] at h))
        | (with_reducible refine And.intro (by first | omega | (simp only [List.length_append, List.length_take, List.length_drop, List.length_cons, List.length_nil, List.length_map]; omega)) ?_)
        | ((with_reducible refine And.intro ?_ ?_); · first | (intro x hx; subst hx; rfl) | exact upR_mem fun _ _ => rfl | exact mapR_mem fun _ _ => rfl | (intro x; refine And.intro ?_ ?_ <;> (intros; subst_vars; rfl)))
        | fail
      exact absurd ((maxAt_all (c := MF) (by omega)).2 h1) (by simp only [MF]; omega)
    · rw [if_neg fun e => hok e.2]
      repeat' first
        | ((exfalso; omega))
        | exact Bool.noConfusion h
        | refine sw_seq ?_
        | refine sw_block ?_
        | refine sw_skip ?_
        | refine sw_inBlock ?_
        | refine sw_go 0 kp179 fun K hK => ?_
        | refine sw_goT 0 kp179 12 (id := 5) (by kernel_rfl) fun K hK => ?_
        | refine sw_goT 0 kp179 14 (id := 11) (by kernel_rfl) fun K hK => ?_
        | refine fun (K : List Oper → LS → Prop) (hK : KOk S 0 _ _ _ K) => ?_
        | refine sw_goD kp179 (by kernel_rfl) fun K hK => ?_
        | ((first | refine runL_go ?_ | refine runQ_go ?_); simp (disch := (refine Om.mk ?_; omega)) only [go_sem])
        | (refine hK.nil ?_; clear hK K; simp only [go_sem])
        | (refine runG_fork rfl rfl rfl rfl rfl (fun h => ?_) (fun h => ?_) <;> (try simp (disch := (refine Om.mk ?_; omega)) only [go_sem] at h))
        | (refine runQG_fork rfl rfl rfl rfl rfl (fun h => ?_) (fun h => ?_) <;> (try simp (disch := (refine Om.mk ?_; omega)) only [go_sem] at h))
        | (refine hK.skip rfl (by simp only [dstOk, Nat.reduceLT]) ?_)
        | (refine sw_cond rfl (fun h => ?_) (fun h => ?_) <;> (try simp (disch := (refine Om.mk ?_; omega)) only [go_sem] at h))
        | (refine sw_exit rfl ?_)
        | (refine sw_loopEnd ?_)
        | ((first | refine sw_ret (ret0 ?_) | refine sw_ret ?_); simp (disch := (refine Om.mk ?_; omega)) only [go_sem, Tryz.results179])
        | refine hK.call rfl rfl rfl (max_fc _ (F qs.length).coef (by omega)) ⟨(by intro p hp; cases hp), rfl, rfl, (by simp only [dstOk, Nat.reduceLT])⟩ ?_
        | (refine hK.fork rfl rfl rfl (fun h => ?_) (fun h => ?_) <;> (try simp (disch := (refine Om.mk ?_; omega)) only [go_sem] at h))
        | (with_reducible refine And.intro (by first | omega | (simp only [List.length_append, List.length_take, List.length_drop, List.length_cons, List.length_nil, List.length_map]; omega)) ?_)
        | ((with_reducible refine And.intro ?_ ?_); · first | (intro x hx; subst hx; rfl) | exact upR_mem fun _ _ => rfl | exact mapR_mem fun _ _ => rfl | (intro x; refine And.intro ?_ ?_ <;> (intros; subst_vars; rfl)))
        | fail
      · exact ⟨rfl, rfl⟩
      · exact ⟨rfl, rfl⟩
      · exact absurd (show okF (F qs.length) from ⟨(maxAt_all (c := MF) (by omega)).1 (by simp only [MF]; omega), by simp only [MF]; omega⟩) hok
      · exact absurd (show okF (F qs.length) from ⟨fun x hx => by have := List.length_pos_of_mem hx; omega, by simp only [MF]; omega⟩) hok
theorem applied_fc (p : PolyT) (qs : List PolyT) (hp : PolyOkP qs.length p) (hn : qs.length ≤ 3) (hA : ∀ j < qs.length, GoodB MF (qs.getD j default)) : FC S 179 [] [] [] [PolyD p, .sl .any (qs.map PolyD)] (.tup [PolyD (appF1 (fun j => (qs.getD j default, true)) p qs.length).1, .bool (appF1 (fun j => (qs.getD j default, true)) p qs.length).2]) [] [] := by
  refine fc_old [1] (by simp) ?_ ?_ ?_
  · have h : ∀ q : PolyT, (PolyD q).okLb = true := fun q => by simp [PolyD, D.okLb, D.okLbL, okLbL_map (f := fun x => D.int .i64 x) fun _ => rfl]
    simp [h, D.okLb, D.okLbL, okLbL_map (f := PolyD) h]
  · simp [PolyD, D.noLb, D.noLbL, noLbL_map (f := fun x => D.int .i64 x) fun _ => rfl]
  · have h : ∀ q : PolyT, (PolyD q).lb [1] = PolyLb q := fun q => by simp only [PolyD, PolyLb, D.lbL, D.lb, lbL_ints]
    simp only [D.lbL, D.lb, lbL_mapf, h]
    exact appliedL_fc p qs hp hn hA
end Go.Proofs.YtpfeecgbiikpaaaGreat
