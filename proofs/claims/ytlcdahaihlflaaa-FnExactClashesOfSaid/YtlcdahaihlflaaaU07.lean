/-
  Unification: solve makes two terms equal, or says that it can't be done.
-/
import Derived.Test.YtlcdahaihlflaaaU06
import Derived.Test.YtlcdahaihlflaaaLgK14
namespace Go.Proofs.Ytlcdahaihlflaaa
open Go Go.Lg
set_option linter.unusedSimpArgs false
set_option linter.unusedVariables false
set_option maxHeartbeats 4000000
attribute [local irreducible] SW runL runQ runG runQG FC Ret1 bD
def kp46 : List (Nat × List Nat) := [(0, [0, 1, 2, 6]), (1, [0, 1, 2, 6]), (2, [6]), (3, [6])]
attribute [go_sem] kp46
theorem solve_yes (id : Nat) (rs : List Int) (g f : Nat) (β β' : Bds) (hβ : BOK rs β) (a b : List Int) (hA : XT rs a) (hB : XT rs b) (he : eqM rs g f β a b = some (some β')) : FC S 46 [] [(id + 1000, uC rs β)] [] [.box (id + 1000) 0, .sl .any (a.map (.int .i64)), .sl .any (b.map (.int .i64))] (.bool true) [(id + 1000, uC rs β')] [] := by
  obtain ⟨_, cE⟩ := (equate_ok rs g id f β a b hβ hA hB).1 β' he
  unfold uC at *
  unfold FC
  refine ⟨⟨Try.f46, Try.func46, by kernel_rfl, rfl⟩, fun w G vals hs => ?_⟩
  refine calls_of_wp_defers Try.func46 rfl ?_
  have hs0 := start_sim (n := Try.f46.ntmps) hs (by simp [Try.f46])
  simp only [Try.ntmps46, enumD, Nat.zero_add, Nat.reduceAdd, List.map_cons, List.map_nil] at hs0 ⊢
  refine wp_seq (regW (L2 := ⟨12, [(0, .box (id + 1000) 0), (1, .sl .any (a.map (.int .i64))), (2, .sl .any (b.map (.int .i64))), (6, .box 6 0)], [(id + 1000, D.sl .any (rs.map (.int .i64)) :: β.map bD), (6, [.bool false])], [], [], [id + 1000]⟩) hs0 ?_ fun G1 a1 w1 hs1 => ?_)
  · refine lops_go 0 ?_
    refine fun (K : List Oper → LS → Prop) (hK : KOk S 0 _ _ _ K) => ?_
    simp only [go_sem]
    repeat' first
      | exact Bool.noConfusion h
      | refine sw_seq ?_
      | refine sw_block ?_
      | refine sw_skip ?_
      | refine sw_inBlock ?_
      | refine sw_go 0 kp46 fun K hK => ?_
      | refine fun (K : List Oper → LS → Prop) (hK : KOk S 0 _ _ _ K) => ?_
      | ((first | refine runL_go ?_ | refine runQ_go ?_); simp (disch := (refine Om.mk ?_; omega)) only [go_sem])
      | (refine hK.nil ?_; clear hK K; simp only [go_sem])
      | (refine sw_cond rfl (fun h => ?_) (fun h => ?_) <;> (try simp (disch := (refine Om.mk ?_; omega)) only [go_sem] at h))
      | (refine sw_exit rfl ?_)
      | (refine sw_loopEnd ?_)
      | ((first | refine sw_ret (ret0 ?_) | refine sw_ret ?_); simp (disch := (refine Om.mk ?_; omega)) only [go_sem, Try.results46])
      | (with_reducible refine And.intro (by first | omega | (simp only [List.length_append, List.length_take, List.length_drop, List.length_cons, List.length_nil, List.length_map]; omega)) ?_)
      | ((with_reducible refine And.intro ?_ ?_); · first | (intro x hx; subst hx; rfl) | exact upR_mem fun _ _ => rfl | exact mapR_mem fun _ _ => rfl | (intro x; refine And.intro ?_ ?_ <;> (intros; subst_vars; rfl)))
      | fail
    refine hK.nil ?_
    (refine covers_mk0 rfl rfl ?_ ?_ ?_ ?_ <;> simp (disch := (refine Om.mk ?_; omega)) only [go_sem] <;> (try omega))
  refine wp_seq (regA 1 (L1 := ⟨12, [(0, .box (id + 1000) 0), (1, .sl .any (a.map (.int .i64))), (2, .sl .any (b.map (.int .i64))), (6, .box 6 0), (7, .fn 87 [.box 6 0])], [(id + 1000, D.sl .any (rs.map (.int .i64)) :: β.map bD), (6, [.bool false])], [], [], [id + 1000]⟩) hs1 ?_ fun G2 a2 w2 hs2 => ?_)
  · refine lops_go 0 ?_
    refine fun (K : List Oper → LS → Prop) (hK : KOk S 0 _ _ _ K) => ?_
    simp only [go_sem]
    repeat' first
      | exact Bool.noConfusion h
      | refine sw_seq ?_
      | refine sw_block ?_
      | refine sw_skip ?_
      | refine sw_inBlock ?_
      | refine sw_go 0 kp46 fun K hK => ?_
      | refine fun (K : List Oper → LS → Prop) (hK : KOk S 0 _ _ _ K) => ?_
      | ((first | refine runL_go ?_ | refine runQ_go ?_); simp (disch := (refine Om.mk ?_; omega)) only [go_sem])
      | (refine hK.nil ?_; clear hK K; simp only [go_sem])
      | (refine sw_cond rfl (fun h => ?_) (fun h => ?_) <;> (try simp (disch := (refine Om.mk ?_; omega)) only [go_sem] at h))
      | (refine sw_exit rfl ?_)
      | (refine sw_loopEnd ?_)
      | ((first | refine sw_ret (ret0 ?_) | refine sw_ret ?_); simp (disch := (refine Om.mk ?_; omega)) only [go_sem, Try.results46])
      | (with_reducible refine And.intro (by first | omega | (simp only [List.length_append, List.length_take, List.length_drop, List.length_cons, List.length_nil, List.length_map]; omega)) ?_)
      | ((with_reducible refine And.intro ?_ ?_); · first | (intro x hx; subst hx; rfl) | exact upR_mem fun _ _ => rfl | exact mapR_mem fun _ _ => rfl | (intro x; refine And.intro ?_ ?_ <;> (intros; subst_vars; rfl)))
      | fail
    refine hK.nil ?_
    (refine covers_mk0 rfl rfl ?_ ?_ ?_ ?_ <;> simp (disch := (refine Om.mk ?_; omega)) only [go_sem] <;> (try omega))
  obtain ⟨v7, hv7, hr7⟩ := hs2.env 7 _ rfl
  cases hr7 with
  | @fn _ _ vl hl hr =>
  obtain ⟨u6, rfl⟩ : ∃ u, vl = [u] := by
    match vl, hl with
    | [u], _ => exact ⟨u, rfl⟩
  have h6 := hr 0 (.box 6 0) u6 rfl rfl
  cases h6 with
  | @box _ _ g0 hb =>
  simp only [List.drop_succ_cons, List.drop_zero]
  refine wpList_step fun N hN => ?_
  rw [if_pos (by simp [Region.wanted])]
  unfold Oper.wp
  have hrun : ∀ (ty : TypeId) (pos : String) (aft : Array Edge), (execOp a2.eval ⟨none, .defer ⟨.value (.tmp 7), #[], #[]⟩, ty, pos, aft, none⟩).run S.P w2 = .ok (.defer { target := .fn (.func 87) #[.pointer (some ⟨g0, 0, none⟩)], args := #[] }) w2 := fun _ _ _ => by
    simp [execOp, Act.eval, hv7, resolve, Deferred.ofValue]
  rw [hrun, Oper.upon_defer]
  refine hN _ _ (wpList_nil ?_)
  rw [hs2.defers]
  have hno : ∀ (R : Ending → World → Prop), (∀ w, ¬ R .outgrown w) → ∀ a w, ¬ bodyPostD S.P Try.f46 R .outgrown a w := fun R h a w hx => h w hx
  refine wp_seq (regD (L2 := ⟨12, [(6, .box 6 0)], [(id + 1000, D.sl .any (rs.map (.int .i64)) :: β'.map bD), (6, [.bool false])], [], [], [id + 1000]⟩) hs2 (fun a w hx => by obtain ⟨v, _, h, _⟩ := hx; cases h) ?_ fun G3 a3 w3 hs3 => ?_)
  · refine lops_go 0 ?_
    refine fun (K : List Oper → LS → Prop) (hK : KOk S 0 _ _ _ K) => ?_
    simp only [go_sem]
    repeat' first
      | ((refine hK.callB rfl rfl rfl (cE) ⟨⟨by simp only [Nat.reduceLT], (by simp [-List.map_set, LS.getBox, Lg.look]), (by simp [-List.map_set, Lg.look]), (by simp), (by simp)⟩, ⟨by simp [-List.map_set, D.ids, D.idsL, idsL_bool, idsL_bD], by simp [-List.map_set, D.ids, D.idsL, idsL_bool, idsL_bD], by simp [-List.map_set, D.tks, D.tksL, tksU_ints, tksL_bool, tksL_bD], by simp [-List.map_set, D.tks, D.tksL, tksU_ints, tksL_bool, tksL_bD], by simp⟩, (by simp [-List.map_set, LS.clean, D.puOk, D.pu, D.pu1, D.tks, D.tksL, tksU_ints, tksL_bool, tksL_bD, puOk_intsU, puOk_bool, puOk_bD, inTok])⟩ ?_; simp (disch := (refine Om.mk ?_; omega)) only [go_sem]))
      | exact Bool.noConfusion h
      | refine sw_seq ?_
      | refine sw_block ?_
      | refine sw_skip ?_
      | refine sw_inBlock ?_
      | refine sw_go 0 kp46 fun K hK => ?_
      | refine fun (K : List Oper → LS → Prop) (hK : KOk S 0 _ _ _ K) => ?_
      | ((first | refine runL_go ?_ | refine runQ_go ?_); simp (disch := (refine Om.mk ?_; omega)) only [go_sem])
      | (refine hK.nil ?_; clear hK K; simp only [go_sem])
      | (refine sw_cond rfl (fun h => ?_) (fun h => ?_) <;> (try simp (disch := (refine Om.mk ?_; omega)) only [go_sem] at h))
      | (refine sw_exit rfl ?_)
      | (refine sw_loopEnd ?_)
      | ((first | refine sw_ret (ret0 ?_) | refine sw_ret ?_); simp (disch := (refine Om.mk ?_; omega)) only [go_sem, Try.results46])
      | (with_reducible refine And.intro (by first | omega | (simp only [List.length_append, List.length_take, List.length_drop, List.length_cons, List.length_nil, List.length_map]; omega)) ?_)
      | ((with_reducible refine And.intro ?_ ?_); · first | (intro x hx; subst hx; rfl) | exact upR_mem fun _ _ => rfl | exact mapR_mem fun _ _ => rfl | (intro x; refine And.intro ?_ ?_ <;> (intros; subst_vars; rfl)))
      | fail
    refine hK.nil ?_
    (refine covers_mk0 rfl rfl ?_ ?_ ?_ ?_ <;> simp (disch := (refine Om.mk ?_; omega)) only [go_sem] <;> (try omega))
  refine wp_seq (regD (L2 := ⟨12, [(6, .box 6 0)], [(id + 1000, D.sl .any (rs.map (.int .i64)) :: β'.map bD), (6, [.bool true])], [], [], [id + 1000]⟩) hs3 (fun a w hx => by obtain ⟨v, _, h, _⟩ := hx; cases h) ?_ fun G4 a4 w4 hs4 => ?_)
  · refine lops_go 0 ?_
    refine fun (K : List Oper → LS → Prop) (hK : KOk S 0 _ _ _ K) => ?_
    simp only [go_sem]
    repeat' first
      | exact Bool.noConfusion h
      | refine sw_seq ?_
      | refine sw_block ?_
      | refine sw_skip ?_
      | refine sw_inBlock ?_
      | refine sw_go 0 kp46 fun K hK => ?_
      | refine fun (K : List Oper → LS → Prop) (hK : KOk S 0 _ _ _ K) => ?_
      | ((first | refine runL_go ?_ | refine runQ_go ?_); simp (disch := (refine Om.mk ?_; omega)) only [go_sem])
      | (refine hK.nil ?_; clear hK K; simp only [go_sem])
      | (refine sw_cond rfl (fun h => ?_) (fun h => ?_) <;> (try simp (disch := (refine Om.mk ?_; omega)) only [go_sem] at h))
      | (refine sw_exit rfl ?_)
      | (refine sw_loopEnd ?_)
      | ((first | refine sw_ret (ret0 ?_) | refine sw_ret ?_); simp (disch := (refine Om.mk ?_; omega)) only [go_sem, Try.results46])
      | (with_reducible refine And.intro (by first | omega | (simp only [List.length_append, List.length_take, List.length_drop, List.length_cons, List.length_nil, List.length_map]; omega)) ?_)
      | ((with_reducible refine And.intro ?_ ?_); · first | (intro x hx; subst hx; rfl) | exact upR_mem fun _ _ => rfl | exact mapR_mem fun _ _ => rfl | (intro x; refine And.intro ?_ ?_ <;> (intros; subst_vars; rfl)))
      | fail
    refine hK.nil ?_
    (refine covers_mk0 rfl rfl ?_ ?_ ?_ ?_ <;> simp (disch := (refine Om.mk ?_; omega)) only [go_sem] <;> (try omega))
  have hEn : Enters S.P 87 := ⟨Try.f87, Try.func87, by kernel_rfl, rfl⟩
  refine wp_ret ?_
  refine leaves_cons (f := 87) (args := #[.pointer (some ⟨g0, 0, none⟩)]) (by simp) (by simp [invoke, enter_run hEn]) ?_
  refine (solve1_idle ⟨g0, 0, none⟩ w4).mono ?_
  rintro e u' w' ⟨rfl, rfl, rfl⟩
  have hRet : Ret S Try.f46.results.toList (.bool true) [(id + 1000, D.sl .any (rs.map (.int .i64)) :: β'.map bD)] ⟨12, [(6, .box 6 0)], [(id + 1000, D.sl .any (rs.map (.int .i64)) :: β'.map bD), (6, [.bool true])], [], [], [id + 1000]⟩ := by
    rw [Try.results46]
    refine ret0 ?_
    simp only [go_sem]
    all_goals trace_state
  obtain ⟨v, hrn, G5, hE⟩ := ret_end hs.fixed hs4 hRet
  exact ⟨v, hrn, v, G5, rfl, hE⟩
theorem solve_no (id : Nat) (rs : List Int) (g f : Nat) (β : Bds) (hβ : BOK rs β) (a b : List Int) (hA : XT rs a) (hB : XT rs b) (he : eqM rs g f β a b = some none) : FC S 46 [] [(id + 1000, uC rs β)] [] [.box (id + 1000) 0, .sl .any (a.map (.int .i64)), .sl .any (b.map (.int .i64))] (.bool false) [] [] := by
  have cX := (equate_ok rs g id f β a b hβ hA hB).2 he
  unfold uC at *
  unfold FC
  refine ⟨⟨Try.f46, Try.func46, by kernel_rfl, rfl⟩, fun w G vals hs => ?_⟩
  refine calls_of_wp_defers Try.func46 rfl ?_
  have hs0 := start_sim (n := Try.f46.ntmps) hs (by simp [Try.f46])
  simp only [Try.ntmps46, enumD, Nat.zero_add, Nat.reduceAdd, List.map_cons, List.map_nil] at hs0 ⊢
  refine wp_seq (regW (L2 := ⟨12, [(0, .box (id + 1000) 0), (1, .sl .any (a.map (.int .i64))), (2, .sl .any (b.map (.int .i64))), (6, .box 6 0)], [(id + 1000, D.sl .any (rs.map (.int .i64)) :: β.map bD), (6, [.bool false])], [], [], [id + 1000]⟩) hs0 ?_ fun G1 a1 w1 hs1 => ?_)
  · refine lops_go 0 ?_
    refine fun (K : List Oper → LS → Prop) (hK : KOk S 0 _ _ _ K) => ?_
    simp only [go_sem]
    repeat' first
      | exact Bool.noConfusion h
      | refine sw_seq ?_
      | refine sw_block ?_
      | refine sw_skip ?_
      | refine sw_inBlock ?_
      | refine sw_go 0 kp46 fun K hK => ?_
      | refine fun (K : List Oper → LS → Prop) (hK : KOk S 0 _ _ _ K) => ?_
      | ((first | refine runL_go ?_ | refine runQ_go ?_); simp (disch := (refine Om.mk ?_; omega)) only [go_sem])
      | (refine hK.nil ?_; clear hK K; simp only [go_sem])
      | (refine sw_cond rfl (fun h => ?_) (fun h => ?_) <;> (try simp (disch := (refine Om.mk ?_; omega)) only [go_sem] at h))
      | (refine sw_exit rfl ?_)
      | (refine sw_loopEnd ?_)
      | ((first | refine sw_ret (ret0 ?_) | refine sw_ret ?_); simp (disch := (refine Om.mk ?_; omega)) only [go_sem, Try.results46])
      | (with_reducible refine And.intro (by first | omega | (simp only [List.length_append, List.length_take, List.length_drop, List.length_cons, List.length_nil, List.length_map]; omega)) ?_)
      | ((with_reducible refine And.intro ?_ ?_); · first | (intro x hx; subst hx; rfl) | exact upR_mem fun _ _ => rfl | exact mapR_mem fun _ _ => rfl | (intro x; refine And.intro ?_ ?_ <;> (intros; subst_vars; rfl)))
      | fail
    refine hK.nil ?_
    (refine covers_mk0 rfl rfl ?_ ?_ ?_ ?_ <;> simp (disch := (refine Om.mk ?_; omega)) only [go_sem] <;> (try omega))
  refine wp_seq (regA 1 (L1 := ⟨12, [(0, .box (id + 1000) 0), (1, .sl .any (a.map (.int .i64))), (2, .sl .any (b.map (.int .i64))), (6, .box 6 0), (7, .fn 87 [.box 6 0])], [(id + 1000, D.sl .any (rs.map (.int .i64)) :: β.map bD), (6, [.bool false])], [], [], [id + 1000]⟩) hs1 ?_ fun G2 a2 w2 hs2 => ?_)
  · refine lops_go 0 ?_
    refine fun (K : List Oper → LS → Prop) (hK : KOk S 0 _ _ _ K) => ?_
    simp only [go_sem]
    repeat' first
      | exact Bool.noConfusion h
      | refine sw_seq ?_
      | refine sw_block ?_
      | refine sw_skip ?_
      | refine sw_inBlock ?_
      | refine sw_go 0 kp46 fun K hK => ?_
      | refine fun (K : List Oper → LS → Prop) (hK : KOk S 0 _ _ _ K) => ?_
      | ((first | refine runL_go ?_ | refine runQ_go ?_); simp (disch := (refine Om.mk ?_; omega)) only [go_sem])
      | (refine hK.nil ?_; clear hK K; simp only [go_sem])
      | (refine sw_cond rfl (fun h => ?_) (fun h => ?_) <;> (try simp (disch := (refine Om.mk ?_; omega)) only [go_sem] at h))
      | (refine sw_exit rfl ?_)
      | (refine sw_loopEnd ?_)
      | ((first | refine sw_ret (ret0 ?_) | refine sw_ret ?_); simp (disch := (refine Om.mk ?_; omega)) only [go_sem, Try.results46])
      | (with_reducible refine And.intro (by first | omega | (simp only [List.length_append, List.length_take, List.length_drop, List.length_cons, List.length_nil, List.length_map]; omega)) ?_)
      | ((with_reducible refine And.intro ?_ ?_); · first | (intro x hx; subst hx; rfl) | exact upR_mem fun _ _ => rfl | exact mapR_mem fun _ _ => rfl | (intro x; refine And.intro ?_ ?_ <;> (intros; subst_vars; rfl)))
      | fail
    refine hK.nil ?_
    (refine covers_mk0 rfl rfl ?_ ?_ ?_ ?_ <;> simp (disch := (refine Om.mk ?_; omega)) only [go_sem] <;> (try omega))
  obtain ⟨v7, hv7, hr7⟩ := hs2.env 7 _ rfl
  cases hr7 with
  | @fn _ _ vl hl hr =>
  obtain ⟨u6, rfl⟩ : ∃ u, vl = [u] := by
    match vl, hl with
    | [u], _ => exact ⟨u, rfl⟩
  have h6 := hr 0 (.box 6 0) u6 rfl rfl
  cases h6 with
  | @box _ _ g0 hb =>
  simp only [List.drop_succ_cons, List.drop_zero]
  refine wpList_step fun N hN => ?_
  rw [if_pos (by simp [Region.wanted])]
  unfold Oper.wp
  have hrun : ∀ (ty : TypeId) (pos : String) (aft : Array Edge), (execOp a2.eval ⟨none, .defer ⟨.value (.tmp 7), #[], #[]⟩, ty, pos, aft, none⟩).run S.P w2 = .ok (.defer { target := .fn (.func 87) #[.pointer (some ⟨g0, 0, none⟩)], args := #[] }) w2 := fun _ _ _ => by
    simp [execOp, Act.eval, hv7, resolve, Deferred.ofValue]
  rw [hrun, Oper.upon_defer]
  refine hN _ _ (wpList_nil ?_)
  rw [hs2.defers]
  have hEn : Enters S.P 87 := ⟨Try.f87, Try.func87, by kernel_rfl, rfl⟩
  refine wp_seq (regD0 hs2.defers (fun a w hx => by obtain ⟨v, _, h, _⟩ := hx; cases h) ?_)
  refine move_step (move_step (move_step ?_))
  have hs3a := hs2.put (t := 8) (by show 8 < 12; decide) (eval_sound hs2 (x := .tmp 0) (d := .box (id + 1000) 0) rfl)
  have hs3b := hs3a.put (t := 9) (by show 9 < 12; decide) (eval_sound hs3a (x := .tmp 1) (d := .sl .any (a.map (.int .i64))) rfl)
  have hs3 := hs3b.put (t := 10) (by show 10 < 12; decide) (eval_sound hs3b (x := .tmp 2) (d := .sl .any (b.map (.int .i64))) rfl)
  refine wpList_callX hs3 rfl rfl rfl cX ⟨by simp, by simp [Lg.look, LS.put], by simp⟩ 1000000 (by simp [-List.map_set, LS.put, setA, LS.clean, D.tks, D.tksL, tksU_ints, tksL_bool, tksL_bD, tksU_nat, inTok]) fun G4 w4 hs4 => ⟨by simp only [put_defers]; exact hs2.defers, ?_⟩
  refine leaves_cons (f := 87) (args := #[.pointer (some ⟨g0, 0, none⟩)]) (by simp) (by simp [invoke, enter_run hEn]) ?_
  have hs5 := hs4.less (L' := ⟨12, [(6, .box 6 0)], [(6, [.bool false])], [], [], [id + 1000]⟩) (by (refine covers_mk0 rfl rfl ?_ ?_ ?_ ?_ <;> simp (disch := (refine Om.mk ?_; omega)) only [go_sem] <;> (try omega)))
  obtain ⟨y, hy, hry⟩ := hs2.env 6 (.box 6 0) rfl
  cases hry with
  | @box _ _ g2 hb2 =>
  obtain rfl : g0 = g2 := Option.some.inj (hb.symm.trans hb2)
  obtain ⟨x6, hx6, hr6⟩ := hs5.env 6 (.box 6 0) rfl
  have hx : x6 = .pointer (some ⟨g0, 0, none⟩) := by
    have h1 : (((a2.put (some 8) (a2.eval (.tmp 0))).put (some 9) ((a2.put (some 8) (a2.eval (.tmp 0))).eval (.tmp 1))).put (some 10) (((a2.put (some 8) (a2.eval (.tmp 0))).put (some 9) ((a2.put (some 8) (a2.eval (.tmp 0))).eval (.tmp 1))).eval (.tmp 2))).tmps[6]? = a2.tmps[6]? := by
      simp [Act.put, Array.getElem?_setIfInBounds]
    rw [h1, hy] at hx6
    exact (Option.some.inj hx6).symm
  subst hx
  cases hr6 with
  | box hb4 =>
  obtain ⟨g1, k1, ⟨vs, e, e1, e2, e3⟩, k3, k4⟩ := hs5.W.boxes 6 [.bool false] rfl
  obtain rfl : g0 = g1 := Option.some.inj (hb4.symm.trans k1)
  have hv0 : vs[0]? = some (.bool false) := by
    have hlt : 0 < vs.size := by simp at e2; omega
    have := e3 0 (.bool false) vs[0] rfl (by simp [hlt])
    generalize hvs : vs[0] = v at this
    cases this
    simp [hlt, hvs]
  have hc : w4.cell? ⟨g0, 0, none⟩ = some (.bool false) := by
    simp [World.cell?, e1, hv0]
  have hz : w4.frozen? ⟨g0, 0, none⟩ = false := by
    simp [World.frozen?, e1]
  refine (solve1_pan ⟨g0, 0, none⟩ false w4 hc hz).mono ?_
  rintro e' u' w' ⟨rfl, rfl, rfl⟩
  have hs6 := alloc_sim hs5 (.cells #[] 125) 0
  obtain ⟨g5, w5, q1, q2, hs7⟩ := store_sim hs6 (id := 6) (off := 0) (cs := [.bool false]) (new := [.bool false]) (vl := [.bool false]) rfl (by simp) rfl (fun j d v hd hv => by
    match j, hd, hv with
    | 0, hd, hv =>
      simp at hd hv
      subst hd; subst hv
      exact .bool) (by simp [Value.oneCell'])
  have hg5 : g0 = g5 := Option.some.inj (k1.symm.trans q1)
  subst hg5
  have hw5 : w5 = (w4.alloc (.cells #[] 125)).setCell ⟨g0, 0, none⟩ (.bool false) := by
    have h1 := q2 S.P
    have hblk : g0 < w4.heap.size := World.block_lt_of_cell? w4 ⟨g0, 0, none⟩ hc
    have hc2 : (w4.alloc (.cells #[] 125)).cell? ⟨g0, 0, none⟩ = some (.bool false) := (World.cell?_alloc_old w4 _ ⟨g0, 0, none⟩ (Nat.ne_of_lt hblk)).trans hc
    have hz2 : (w4.alloc (.cells #[] 125)).frozen? ⟨g0, 0, none⟩ = false := (World.frozen?_alloc_old w4 _ ⟨g0, 0, none⟩ (Nat.ne_of_lt hblk)).trans hz
    simp [storeCells, go_sem, hc2, hz2] at h1
    exact h1.symm
  subst hw5
  have hRet : Ret S Try.f46.results.toList (.bool false) [] ⟨12, [(6, .box 6 0)], [(6, [.bool false])], [], [], [id + 1000]⟩ := by
    rw [Try.results46]
    refine ret0 ?_
    simp only [go_sem]
    all_goals trace_state
  obtain ⟨v, hrn, G8, hE⟩ := ret_end hs.fixed hs7 hRet
  exact ⟨v, hrn, v, G8, rfl, hE⟩
end Go.Proofs.Ytlcdahaihlflaaa
