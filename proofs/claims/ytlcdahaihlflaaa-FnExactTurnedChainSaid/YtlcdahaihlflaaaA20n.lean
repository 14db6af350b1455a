/-
  Moves along equations, the program's side; chains of moves, both sides; a chain's end.
-/
import Derived.Test.YtlcdahaihlflaaaACl
import Derived.Test.YtlcdahaihlflaaaA20m
import Derived.Test.YtlcdahaihlflaaaLTy
namespace Go.Proofs.Ytlcdahaihlflaaa
open Go Go.Lg
set_option linter.unusedSimpArgs false
set_option linter.unusedVariables false
set_option maxHeartbeats 4000000
attribute [local irreducible] SW runL runQ runG runQG FC Ret1 toF
theorem G0_len : G0.length = 24 := rfl
attribute [local go_sem] idsL_opt tksL_opt nilY_tkN take_full all_opt linM_len putC_opt G0_len Nat.le_refl
theorem G0_opt : G0.map optD = [D.sl .nil [], D.sl .nil [], D.sl .nil [], D.sl .nil [], D.sl .nil [], D.sl .nil [], D.sl .nil [], D.sl .nil [], D.sl .nil [], D.sl .nil [], D.sl .nil [], D.sl .nil [], D.sl .nil [], D.sl .nil [], D.sl .nil [], D.sl .nil [], D.sl .nil [], D.sl .nil [], D.sl .nil [], D.sl .nil [], D.sl .nil [], D.sl .nil [], D.sl .nil [], D.sl .nil []] := by
  unfold G0
  rw [List.map_replicate, show optD [] = D.sl .nil [] by simp [optD, tkN]]
  rfl
theorem matchInto0_fc (rs pt t : List Int) (hpn : ∀ n ∈ pt, -24 ≤ n) (hT : TermOkP rs t) (hl : pt.length ≤ 60) : FC S 149 [] [] [] [.agg [.sl .any (rs.map (.int .i64))], .sl .any (pt.map (.int .i64)), .sl .any (t.map (.int .i64)), .agg [D.sl .nil [], D.sl .nil [], D.sl .nil [], D.sl .nil [], D.sl .nil [], D.sl .nil [], D.sl .nil [], D.sl .nil [], D.sl .nil [], D.sl .nil [], D.sl .nil [], D.sl .nil [], D.sl .nil [], D.sl .nil [], D.sl .nil [], D.sl .nil [], D.sl .nil [], D.sl .nil [], D.sl .nil [], D.sl .nil [], D.sl .nil [], D.sl .nil [], D.sl .nil [], D.sl .nil []]] (.tup [.agg ((linM rs t pt 0 G0).1.map optD), .bool (linM rs t pt 0 G0).2]) [] [] := by
  rw [← G0_opt]
  exact matchInto_fc .any .any .any rs pt t G0 hpn hT rfl hl
def kp102 : List (Nat × List Nat) := [(0, [1, 2, 4, 7]), (1, [1, 2, 4, 7, 46]), (2, [8]), (3, [2, 4, 7, 9, 10]), (4, [2, 4, 7, 9, 10, 60]), (5, [2, 4, 7, 9, 10]), (6, [2, 4, 7, 9, 10, 11]), (7, [2, 4, 7, 9, 10, 11, 12]), (8, [2, 4, 7, 9, 10, 11, 12, 13, 14]), (9, [2, 4, 9, 10, 11, 12, 86]), (10, [8]), (11, [4, 10, 12, 14, 15]), (12, [4, 10, 12, 15, 99]), (13, [8]), (14, [14]), (15, [8])]
attribute [go_sem] kp102
theorem moveOk1_fc (rs : List Int) (es : List EqT) (t to : List Int) (e a : Nat) (bk : Bool) (hE : EqsOkP rs es) (hT : TermOkP rs t) (hm : MoveInP rs es t ⟨e, a, bk, to⟩) : FC S 102 [] [] [] [.agg [.sl .any (rs.map (.int .i64))], .sl .any (es.map EqD), .sl .any (t.map (.int .i64)), MoveD ⟨e, a, bk, to⟩] (.bool (tst (MoveP rs es t ⟨e, a, bk, to⟩))) [] [] := by
  have htl := hT.2.1
  have hel := hE.1.2
  obtain ⟨⟨_, e1⟩, ⟨_, a1⟩, hto, a2⟩ := id hm
  dsimp only at e1 a1 hto a2
  have hee := hE.2 e (by omega)
  have hs1 := subS_ok hto (a := a) (by omega)
  have hs2 := subS_ok hT (a := a) (by omega)
  have htol := hto.2.1
  have hput : ¬ (putS rs t a (subS rs to a)).length ≤ 60 → ¬ putS rs t a (subS rs to a) = to := fun h e => h (by rw [e]; omega)
  have hpr : (putS rs t a (subS rs to a)).length ≤ 60 → putR rs t a (subS rs to a) = putS rs t a (subS rs to a) := putR_yes
  cases bk with
  | true =>
    rw [tst_congr (move_leaf hm (f := (es.getD e default).r) (o := (es.getD e default).l) rfl rfl)]
    unfold fitP
    have l1 := linM_len rs (subS rs t a) (es.getD e default).r 0 G0
    rw [show G0.length = 24 from rfl] at l1
    refine fc_body Try.func102 rfl (by kernel_rfl) (by simp [Try.f102]) fun B => ?_
    simp only [Try.ntmps102, enumD, List.map_nil, List.map_cons, List.length_map, Nat.zero_add, Nat.reduceAdd]
    repeat' first
      | exact Bool.noConfusion h
      | refine sw_seq ?_
      | refine sw_block ?_
      | refine sw_skip ?_
      | refine sw_inBlock ?_
      | refine sw_go 0 kp102 fun K hK => ?_
      | refine sw_goX 0 kp102 14 (id := 11) (by kernel_rfl) fun K hK => ?_
      | (refine hK.alloc rfl rfl ⟨(by simp only [Nat.reduceLT]), rfl⟩ ?_; simp (disch := (refine Om.mk ?_; omega)) only [go_sem])
      | (refine hK.store rfl rfl rfl ⟨⟨(by simp only [go_sem]), (by simp only [go_sem])⟩, (by simp only [go_sem]), (by simp only [go_sem]), (by simp only [go_sem])⟩ ?_; simp (disch := (refine Om.mk ?_; omega)) only [go_sem])
      | (refine toF_go ?_; simp (disch := (refine Om.mk ?_; omega)) only [go_sem])
      | refine fun (K : List Oper → LS → Prop) (hK : KOk S 0 _ _ _ K) => ?_
      | refine sw_goD kp102 (by kernel_rfl) fun K hK => ?_
      | ((first | refine runL_go ?_ | refine runQ_go ?_); simp (disch := (refine Om.mk ?_; omega)) only [go_sem])
      | (refine hK.nil ?_; clear hK K; simp only [go_sem])
      | (refine runG_fork rfl rfl rfl rfl rfl (fun h => ?_) (fun h => ?_) <;> (try simp (disch := (refine Om.mk ?_; omega)) only [go_sem] at h))
      | (refine runQG_fork rfl rfl rfl rfl rfl (fun h => ?_) (fun h => ?_) <;> (try simp (disch := (refine Om.mk ?_; omega)) only [go_sem] at h))
      | (refine hK.skip rfl (by simp only [dstOk, Nat.reduceLT]) ?_)
      | (refine sw_cond rfl (fun h => ?_) (fun h => ?_) <;> (try simp (disch := (refine Om.mk ?_; omega)) only [go_sem] at h))
      | (refine sw_exit rfl ?_)
      | (refine sw_loopEnd ?_)
      | ((first | refine sw_ret (ret0 ?_) | refine sw_ret ?_); simp (disch := (refine Om.mk ?_; omega)) only [go_sem, Try.results102])
      | refine hK.call rfl rfl rfl (posOk_fc _ _ rs to a) ⟨(by intro p hp; cases hp), rfl, rfl, (by simp only [dstOk, Nat.reduceLT])⟩ ?_
      | refine hK.call rfl rfl rfl (subAt_fc _ _ rs to a hto (by omega)) ⟨(by intro p hp; cases hp), rfl, rfl, (by simp only [dstOk, Nat.reduceLT])⟩ ?_
      | refine hK.call rfl rfl rfl (put_fc _ _ _ rs t (subS rs to a) a hT (by omega) hs1.2.1.2) ⟨(by intro p hp; cases hp), rfl, rfl, (by simp only [dstOk, Nat.reduceLT])⟩ ?_
      | refine hK.call rfl rfl rfl (equalInt64_fc _ _ _ _) ⟨(by intro p hp; cases hp), rfl, rfl, (by simp only [dstOk, Nat.reduceLT])⟩ ?_
      | refine hK.call rfl rfl rfl (subAt_fc _ _ rs t a hT (by omega)) ⟨(by intro p hp; cases hp), rfl, rfl, (by simp only [dstOk, Nat.reduceLT])⟩ ?_
      | (refine hK.call rfl rfl rfl (matchInto0_fc rs (es.getD e default).r (subS rs t a) hee.2.ge hs2 hee.2.2.1.2) ⟨(by intro p hp; cases hp), (by simp only [go_sem]), (by simp only [go_sem]), (by simp only [dstOk, Nat.reduceLT])⟩ ?_)
      | (refine hK.call rfl rfl rfl (matchInto_fc .any .any .any rs (es.getD e default).l (subS rs to a) _ hee.1.ge hs1 l1 hee.1.2.1.2) ⟨(by intro p hp; cases hp), (by simp only [go_sem]), (by simp only [go_sem]), (by simp only [dstOk, Nat.reduceLT])⟩ ?_)
      | (refine hK.fork rfl rfl rfl (fun h => ?_) (fun h => ?_) <;> (try simp (disch := (refine Om.mk ?_; omega)) only [go_sem] at h))
      | (with_reducible refine And.intro (by first | omega | (simp only [List.length_append, List.length_take, List.length_drop, List.length_cons, List.length_nil, List.length_map]; omega)) ?_)
      | ((with_reducible refine And.intro ?_ ?_); · first | (intro x hx; subst hx; rfl) | exact upR_mem fun _ _ => rfl | exact mapR_mem fun _ _ => rfl | (intro x; refine And.intro ?_ ?_ <;> (intros; subst_vars; rfl)))
      | fail
    all_goals first
      | (exfalso; omega)
      | (exact absurd (show TermOkP rs to ∧ (a : Int) ≤ to.length - 1 from And.intro hto (by omega)) (by assumption))
      | (intro h'; exact hput (by assumption) h'.1)
      | (intro h'; rw [hpr (by assumption)] at *; exact absurd h'.1 (by assumption))
      | (intro h'; have h2 := h'.2.1; simp_all; done)
      | (rw [hpr (by assumption)] at *; exact bool_tst' ⟨fun h4 => ⟨by assumption, by assumption, h4⟩, fun h4 => h4.2.2⟩)

  | false =>
    rw [tst_congr (move_leaf hm (f := (es.getD e default).l) (o := (es.getD e default).r) rfl rfl)]
    unfold fitP
    have l1 := linM_len rs (subS rs t a) (es.getD e default).l 0 G0
    rw [show G0.length = 24 from rfl] at l1
    refine fc_body Try.func102 rfl (by kernel_rfl) (by simp [Try.f102]) fun B => ?_
    simp only [Try.ntmps102, enumD, List.map_nil, List.map_cons, List.length_map, Nat.zero_add, Nat.reduceAdd]
    repeat' first
      | exact Bool.noConfusion h
      | refine sw_seq ?_
      | refine sw_block ?_
      | refine sw_skip ?_
      | refine sw_inBlock ?_
      | refine sw_go 0 kp102 fun K hK => ?_
      | refine sw_goX 0 kp102 14 (id := 11) (by kernel_rfl) fun K hK => ?_
      | (refine hK.alloc rfl rfl ⟨(by simp only [Nat.reduceLT]), rfl⟩ ?_; simp (disch := (refine Om.mk ?_; omega)) only [go_sem])
      | (refine hK.store rfl rfl rfl ⟨⟨(by simp only [go_sem]), (by simp only [go_sem])⟩, (by simp only [go_sem]), (by simp only [go_sem]), (by simp only [go_sem])⟩ ?_; simp (disch := (refine Om.mk ?_; omega)) only [go_sem])
      | (refine toF_go ?_; simp (disch := (refine Om.mk ?_; omega)) only [go_sem])
      | refine fun (K : List Oper → LS → Prop) (hK : KOk S 0 _ _ _ K) => ?_
      | refine sw_goD kp102 (by kernel_rfl) fun K hK => ?_
      | ((first | refine runL_go ?_ | refine runQ_go ?_); simp (disch := (refine Om.mk ?_; omega)) only [go_sem])
      | (refine hK.nil ?_; clear hK K; simp only [go_sem])
      | (refine runG_fork rfl rfl rfl rfl rfl (fun h => ?_) (fun h => ?_) <;> (try simp (disch := (refine Om.mk ?_; omega)) only [go_sem] at h))
      | (refine runQG_fork rfl rfl rfl rfl rfl (fun h => ?_) (fun h => ?_) <;> (try simp (disch := (refine Om.mk ?_; omega)) only [go_sem] at h))
      | (refine hK.skip rfl (by simp only [dstOk, Nat.reduceLT]) ?_)
      | (refine sw_cond rfl (fun h => ?_) (fun h => ?_) <;> (try simp (disch := (refine Om.mk ?_; omega)) only [go_sem] at h))
      | (refine sw_exit rfl ?_)
      | (refine sw_loopEnd ?_)
      | ((first | refine sw_ret (ret0 ?_) | refine sw_ret ?_); simp (disch := (refine Om.mk ?_; omega)) only [go_sem, Try.results102])
      | refine hK.call rfl rfl rfl (posOk_fc _ _ rs to a) ⟨(by intro p hp; cases hp), rfl, rfl, (by simp only [dstOk, Nat.reduceLT])⟩ ?_
      | refine hK.call rfl rfl rfl (subAt_fc _ _ rs to a hto (by omega)) ⟨(by intro p hp; cases hp), rfl, rfl, (by simp only [dstOk, Nat.reduceLT])⟩ ?_
      | refine hK.call rfl rfl rfl (put_fc _ _ _ rs t (subS rs to a) a hT (by omega) hs1.2.1.2) ⟨(by intro p hp; cases hp), rfl, rfl, (by simp only [dstOk, Nat.reduceLT])⟩ ?_
      | refine hK.call rfl rfl rfl (equalInt64_fc _ _ _ _) ⟨(by intro p hp; cases hp), rfl, rfl, (by simp only [dstOk, Nat.reduceLT])⟩ ?_
      | refine hK.call rfl rfl rfl (subAt_fc _ _ rs t a hT (by omega)) ⟨(by intro p hp; cases hp), rfl, rfl, (by simp only [dstOk, Nat.reduceLT])⟩ ?_
      | (refine hK.call rfl rfl rfl (matchInto0_fc rs (es.getD e default).l (subS rs t a) hee.1.ge hs2 hee.1.2.1.2) ⟨(by intro p hp; cases hp), (by simp only [go_sem]), (by simp only [go_sem]), (by simp only [dstOk, Nat.reduceLT])⟩ ?_)
      | (refine hK.call rfl rfl rfl (matchInto_fc .any .any .any rs (es.getD e default).r (subS rs to a) _ hee.2.ge hs1 l1 hee.2.2.1.2) ⟨(by intro p hp; cases hp), (by simp only [go_sem]), (by simp only [go_sem]), (by simp only [dstOk, Nat.reduceLT])⟩ ?_)
      | (refine hK.fork rfl rfl rfl (fun h => ?_) (fun h => ?_) <;> (try simp (disch := (refine Om.mk ?_; omega)) only [go_sem] at h))
      | (with_reducible refine And.intro (by first | omega | (simp only [List.length_append, List.length_take, List.length_drop, List.length_cons, List.length_nil, List.length_map]; omega)) ?_)
      | ((with_reducible refine And.intro ?_ ?_); · first | (intro x hx; subst hx; rfl) | exact upR_mem fun _ _ => rfl | exact mapR_mem fun _ _ => rfl | (intro x; refine And.intro ?_ ?_ <;> (intros; subst_vars; rfl)))
      | fail
    all_goals first
      | (exfalso; omega)
      | (exact absurd (show TermOkP rs to ∧ (a : Int) ≤ to.length - 1 from And.intro hto (by omega)) (by assumption))
      | (intro h'; exact hput (by assumption) h'.1)
      | (intro h'; rw [hpr (by assumption)] at *; exact absurd h'.1 (by assumption))
      | (intro h'; have h2 := h'.2.1; simp_all; done)
      | (rw [hpr (by assumption)] at *; exact bool_tst' ⟨fun h4 => ⟨by assumption, by assumption, h4⟩, fun h4 => h4.2.2⟩)

theorem moveOk_fc (tk tk1 tk2 : Tk) (rs : List Int) (es : List EqT) (t : List Int) (m : MoveT) (hE : EqsOkP rs es) (hT : TermOkP rs t) : FC S 102 [] [] [] [.agg [.sl tk (rs.map (.int .i64))], .sl tk1 (es.map EqD), .sl tk2 (t.map (.int .i64)), MoveD m] (.bool (tst (MoveP rs es t m))) [] [] := by
  refine FC.args (args' := [.agg [.sl .any (rs.map (.int .i64))], .sl .any (es.map EqD), .sl .any (t.map (.int .i64)), MoveD m]) ?_ (by simp only [go_sem])
  rcases Classical.em (MoveInP rs es t m) with hm | hn
  · obtain ⟨e, a, h⟩ := moveIn_nat hm
    rw [h] at hm ⊢
    exact moveOk1_fc rs es t m.to e a m.back hE hT hm
  · have htl := hT.2.1
    have hel := hE.1.2
    rw [tst_false (fun h : MoveP rs es t m => hn h.1)]
    refine fc_body Try.func102 rfl (by kernel_rfl) (by simp [Try.f102]) fun B => ?_
    simp only [Try.ntmps102, enumD, List.map_nil, List.map_cons, List.length_map, Nat.zero_add, Nat.reduceAdd]
    repeat' first
      | exact Bool.noConfusion h
      | refine sw_seq ?_
      | refine sw_block ?_
      | refine sw_skip ?_
      | refine sw_inBlock ?_
      | refine sw_go 0 kp102 fun K hK => ?_
      | refine sw_goX 0 kp102 14 (id := 11) (by kernel_rfl) fun K hK => ?_
      | (refine hK.alloc rfl rfl ⟨(by simp only [Nat.reduceLT]), rfl⟩ ?_; simp (disch := (refine Om.mk ?_; omega)) only [go_sem])
      | (refine hK.store rfl rfl rfl ⟨⟨(by simp only [go_sem]), (by simp only [go_sem])⟩, (by simp only [go_sem]), (by simp only [go_sem]), (by simp only [go_sem])⟩ ?_; simp (disch := (refine Om.mk ?_; omega)) only [go_sem])
      | (refine toF_go ?_; simp (disch := (refine Om.mk ?_; omega)) only [go_sem])
      | refine fun (K : List Oper → LS → Prop) (hK : KOk S 0 _ _ _ K) => ?_
      | refine sw_goD kp102 (by kernel_rfl) fun K hK => ?_
      | ((first | refine runL_go ?_ | refine runQ_go ?_); simp (disch := (refine Om.mk ?_; omega)) only [go_sem])
      | (refine hK.nil ?_; clear hK K; simp only [go_sem])
      | (refine runG_fork rfl rfl rfl rfl rfl (fun h => ?_) (fun h => ?_) <;> (try simp (disch := (refine Om.mk ?_; omega)) only [go_sem] at h))
      | (refine runQG_fork rfl rfl rfl rfl rfl (fun h => ?_) (fun h => ?_) <;> (try simp (disch := (refine Om.mk ?_; omega)) only [go_sem] at h))
      | (refine hK.skip rfl (by simp only [dstOk, Nat.reduceLT]) ?_)
      | (refine sw_cond rfl (fun h => ?_) (fun h => ?_) <;> (try simp (disch := (refine Om.mk ?_; omega)) only [go_sem] at h))
      | (refine sw_exit rfl ?_)
      | (refine sw_loopEnd ?_)
      | ((first | refine sw_ret (ret0 ?_) | refine sw_ret ?_); simp (disch := (refine Om.mk ?_; omega)) only [go_sem, Try.results102])
      | refine hK.call rfl rfl rfl (posOk_fc _ _ rs m.to m.at_) ⟨(by intro p hp; cases hp), rfl, rfl, (by simp only [dstOk, Nat.reduceLT])⟩ ?_
      | (refine hK.fork rfl rfl rfl (fun h => ?_) (fun h => ?_) <;> (try simp (disch := (refine Om.mk ?_; omega)) only [go_sem] at h))
      | (with_reducible refine And.intro (by first | omega | (simp only [List.length_append, List.length_take, List.length_drop, List.length_cons, List.length_nil, List.length_map]; omega)) ?_)
      | ((with_reducible refine And.intro ?_ ?_); · first | (intro x hx; subst hx; rfl) | exact upR_mem fun _ _ => rfl | exact mapR_mem fun _ _ => rfl | (intro x; refine And.intro ?_ ?_ <;> (intros; subst_vars; rfl)))
      | fail
    all_goals (have hq : TermOkP rs m.to ∧ 0 ≤ m.at_ ∧ m.at_ ≤ m.to.length - 1 := (by assumption); exact absurd ⟨⟨by omega, by omega⟩, ⟨by omega, by omega⟩, hq.1, by omega⟩ hn)
/-- the term behind the first 'i' moves -/
def curT (c : ChainT) : Nat → List Int
  | 0 => c.frm
  | i + 1 => (c.moves.getD i default).to
def ChainP (rs : List Int) (es : List EqT) (c : ChainT) : Prop := (EqsOkP rs es ∧ TermOkP rs c.frm ∧ c.moves.length ≤ 60) ∧ ∀ i < c.moves.length, MoveP rs es (curT c i) (c.moves.getD i default)
def kp54 : List (Nat × List Nat) := [(0, [1, 3, 5]), (1, [1, 3, 5, 25]), (2, [6]), (3, [1, 3, 5, 7]), (4, [1, 3, 5, 7, 8]), (5, [1, 3, 5, 7, 8, 32]), (7, [1, 3, 5, 8, 44]), (8, [6]), (9, [1, 3, 5, 7, 8]), (6, [1, 3, 5, 7, 8]), (10, [6])]
attribute [go_sem] kp54
theorem specChainOk_fc (tk tk1 : Tk) (rs : List Int) (es : List EqT) (c : ChainT) : FC S 54 [] [] [] [.agg [.sl tk (rs.map (.int .i64))], .sl tk1 (es.map EqD), ChainD c] (.bool (tst (ChainP rs es c))) [] [] := by
  refine FC.args (args' := [.agg [.sl .any (rs.map (.int .i64))], .sl .any (es.map EqD), ChainD c]) ?_ (by simp only [go_sem])
  refine fc_body Try.func54 rfl (by kernel_rfl) (by simp [Try.f54]) fun B => ?_
  simp only [Try.ntmps54, enumD, List.map_nil, List.map_cons, List.length_map, Nat.zero_add, Nat.reduceAdd]
  refine sw_bnd_agg 2 1 rfl rfl fun hb2_1 => ?_
  simp only [D.bnd, List.length_map] at hb2_1
  repeat' first
    | exact Bool.noConfusion h
    | refine sw_seq ?_
    | refine sw_block ?_
    | refine sw_skip ?_
    | refine sw_inBlock ?_
    | refine sw_go 0 kp54 fun K hK => ?_
    | refine fun (K : List Oper → LS → Prop) (hK : KOk S 0 _ _ _ K) => ?_
    | refine sw_goD kp54 (by kernel_rfl) fun K hK => ?_
    | ((first | refine runL_go ?_ | refine runQ_go ?_); simp (disch := (refine Om.mk ?_; omega)) only [go_sem])
    | (refine hK.nil ?_; clear hK K; simp only [go_sem])
    | (refine runG_fork rfl rfl rfl rfl rfl (fun h => ?_) (fun h => ?_) <;> (try simp (disch := (refine Om.mk ?_; omega)) only [go_sem] at h))
    | (refine runQG_fork rfl rfl rfl rfl rfl (fun h => ?_) (fun h => ?_) <;> (try simp (disch := (refine Om.mk ?_; omega)) only [go_sem] at h))
    | (refine hK.skip rfl (by simp only [dstOk, Nat.reduceLT]) ?_)
    | (refine sw_cond rfl (fun h => ?_) (fun h => ?_) <;> (try simp (disch := (refine Om.mk ?_; omega)) only [go_sem] at h))
    | (refine sw_exit rfl ?_)
    | (refine sw_loopEnd ?_)
    | ((first | refine sw_ret (ret0 ?_) | refine sw_ret ?_); simp (disch := (refine Om.mk ?_; omega)) only [go_sem, Try.results54])
    | refine hK.call rfl rfl rfl (specEqsOk_fc _ _ rs es) ⟨(by intro p hp; cases hp), rfl, rfl, (by simp only [dstOk, Nat.reduceLT])⟩ ?_
    | refine hK.call rfl rfl rfl (specTermOk_fc _ _ rs c.frm) ⟨(by intro p hp; cases hp), rfl, rfl, (by simp only [dstOk, Nat.reduceLT])⟩ ?_
    | (refine hK.fork rfl rfl rfl (fun h => ?_) (fun h => ?_) <;> (try simp (disch := (refine Om.mk ?_; omega)) only [go_sem] at h))
    | (with_reducible refine And.intro (by first | omega | (simp only [List.length_append, List.length_take, List.length_drop, List.length_cons, List.length_nil, List.length_map]; omega)) ?_)
    | ((with_reducible refine And.intro ?_ ?_); · first | (intro x hx; subst hx; rfl) | exact upR_mem fun _ _ => rfl | exact mapR_mem fun _ _ => rfl | (intro x; refine And.intro ?_ ?_ <;> (intros; subst_vars; rfl)))
    | fail
  · rintro ⟨⟨h1, _⟩, _⟩; contradiction
  · rintro ⟨⟨_, h1, _⟩, _⟩; contradiction
  · rintro ⟨⟨_, _, h1⟩, _⟩; omega
  have hE : EqsOkP rs es := by assumption
  have hF : TermOkP rs c.frm := by assumption
  refine sw_loopU (ι := Nat) (fun p => [(8, .int .i64 p), (7, .sl .any ((curT c p).map (.int .i64)))]) (fun p => []) (fun p => p ≤ c.moves.length ∧ (∀ j < p, MoveP rs es (curT c j) (c.moves.getD j default)) ∧ TermOkP rs (curT c p)) (fun p => c.moves.length - p) 0 (by (refine covers_mk0 rfl rfl ?_ ?_ ?_ ?_ <;> simp (disch := (refine Om.mk ?_; omega)) only [go_sem] <;> (try omega)); exact ⟨rfl, rfl⟩) ?_ (fun p hp => ?_)
  rotate_left
  simp only [go_sem]
  obtain ⟨hp1, hp2, hp3⟩ := hp
  repeat' first
    | exact Bool.noConfusion h
    | refine sw_seq ?_
    | refine sw_block ?_
    | refine sw_skip ?_
    | refine sw_inBlock ?_
    | refine sw_go 0 kp54 fun K hK => ?_
    | refine fun (K : List Oper → LS → Prop) (hK : KOk S 0 _ _ _ K) => ?_
    | refine sw_goD kp54 (by kernel_rfl) fun K hK => ?_
    | ((first | refine runL_go ?_ | refine runQ_go ?_); simp (disch := (refine Om.mk ?_; omega)) only [go_sem])
    | (refine hK.nil ?_; clear hK K; simp only [go_sem])
    | (refine runG_fork rfl rfl rfl rfl rfl (fun h => ?_) (fun h => ?_) <;> (try simp (disch := (refine Om.mk ?_; omega)) only [go_sem] at h))
    | (refine runQG_fork rfl rfl rfl rfl rfl (fun h => ?_) (fun h => ?_) <;> (try simp (disch := (refine Om.mk ?_; omega)) only [go_sem] at h))
    | (refine hK.skip rfl (by simp only [dstOk, Nat.reduceLT]) ?_)
    | (refine sw_cond rfl (fun h => ?_) (fun h => ?_) <;> (try simp (disch := (refine Om.mk ?_; omega)) only [go_sem] at h))
    | (refine sw_exit rfl ?_)
    | (refine sw_loopEnd ?_)
    | ((first | refine sw_ret (ret0 ?_) | refine sw_ret ?_); simp (disch := (refine Om.mk ?_; omega)) only [go_sem, Try.results54])
    | refine hK.call rfl rfl rfl (l20Move_fc _ _ _ rs es (curT c p) (c.moves.getD p default) hE hp3) ⟨(by intro p hp; cases hp), rfl, rfl, (by simp only [dstOk, Nat.reduceLT])⟩ ?_
    | (refine hK.fork rfl rfl rfl (fun h => ?_) (fun h => ?_) <;> (try simp (disch := (refine Om.mk ?_; omega)) only [go_sem] at h))
    | (with_reducible refine And.intro (by first | omega | (simp only [List.length_append, List.length_take, List.length_drop, List.length_cons, List.length_nil, List.length_map]; omega)) ?_)
    | ((with_reducible refine And.intro ?_ ?_); · first | (intro x hx; subst hx; rfl) | exact upR_mem fun _ _ => rfl | exact mapR_mem fun _ _ => rfl | (intro x; refine And.intro ?_ ?_ <;> (intros; subst_vars; rfl)))
    | fail
  · rintro ⟨_, h2⟩; exact h (h2 p (by omega))
  · exact ⟨p + 1, (by (refine covers_mk0 rfl rfl ?_ ?_ ?_ ?_ <;> simp (disch := (refine Om.mk ?_; omega)) only [go_sem] <;> (try omega)); exact ⟨rfl, by omega⟩), ⟨by omega, upto_succ hp2 h, h.1.2.2.1⟩, by omega⟩
  · exact ⟨⟨hE, hF, by omega⟩, fun j hj => hp2 j (by omega)⟩
  · first | exact hF | exact ⟨by omega, fun j hj => absurd hj (by omega), hF⟩ | exact ⟨fun j hj => absurd hj (by omega), hF⟩
def kp58 : List (Nat × List Nat) := [(0, [1, 3, 5]), (1, [1, 3, 5, 26]), (2, [6]), (3, [1, 3, 5, 7]), (4, [1, 3, 7, 30, 31, 32]), (5, [1, 3, 7, 30, 31, 32, 33]), (6, [1, 3, 7, 9, 30, 31, 32]), (7, [1, 3, 9, 30, 31, 32, 41]), (8, [6]), (9, [1, 3, 7, 30, 31, 32]), (10, [1, 3, 7, 30, 31, 32]), (11, [6])]
attribute [go_sem] kp58
theorem implChainOk_fc (tk tk1 : Tk) (rs : List Int) (es : List EqT) (c : ChainT) : FC S 58 [] [] [] [.agg [.sl tk (rs.map (.int .i64))], .sl tk1 (es.map EqD), ChainD c] (.bool (tst (ChainP rs es c))) [] [] := by
  refine FC.args (args' := [.agg [.sl .any (rs.map (.int .i64))], .sl .any (es.map EqD), ChainD c]) ?_ (by simp only [go_sem])
  refine fc_body Try.func58 rfl (by kernel_rfl) (by simp [Try.f58]) fun B => ?_
  simp only [Try.ntmps58, enumD, List.map_nil, List.map_cons, List.length_map, Nat.zero_add, Nat.reduceAdd]
  refine sw_bnd_agg 2 1 rfl rfl fun hb2_1 => ?_
  simp only [D.bnd, List.length_map] at hb2_1
  repeat' first
    | exact Bool.noConfusion h
    | refine sw_seq ?_
    | refine sw_block ?_
    | refine sw_skip ?_
    | refine sw_inBlock ?_
    | refine sw_go 0 kp58 fun K hK => ?_
    | refine fun (K : List Oper → LS → Prop) (hK : KOk S 0 _ _ _ K) => ?_
    | ((first | refine runL_go ?_ | refine runQ_go ?_); simp (disch := (refine Om.mk ?_; omega)) only [go_sem])
    | (refine hK.nil ?_; clear hK K; simp only [go_sem])
    | (refine runG_fork rfl rfl rfl rfl rfl (fun h => ?_) (fun h => ?_) <;> (try simp (disch := (refine Om.mk ?_; omega)) only [go_sem] at h))
    | (refine hK.skip rfl (by simp only [dstOk, Nat.reduceLT]) ?_)
    | (refine sw_cond rfl (fun h => ?_) (fun h => ?_) <;> (try simp (disch := (refine Om.mk ?_; omega)) only [go_sem] at h))
    | (refine sw_exit rfl ?_)
    | (refine sw_loopEnd ?_)
    | ((first | refine sw_ret (ret0 ?_) | refine sw_ret ?_); simp (disch := (refine Om.mk ?_; omega)) only [go_sem, Try.results58])
    | refine hK.call rfl rfl rfl (implEqsOk_fc _ _ rs es) ⟨(by intro p hp; cases hp), rfl, rfl, (by simp only [dstOk, Nat.reduceLT])⟩ ?_
    | refine hK.call rfl rfl rfl (implTermOk_fc _ _ rs c.frm) ⟨(by intro p hp; cases hp), rfl, rfl, (by simp only [dstOk, Nat.reduceLT])⟩ ?_
    | (refine hK.fork rfl rfl rfl (fun h => ?_) (fun h => ?_) <;> (try simp (disch := (refine Om.mk ?_; omega)) only [go_sem] at h))
    | (with_reducible refine And.intro (by first | omega | (simp only [List.length_append, List.length_take, List.length_drop, List.length_cons, List.length_nil, List.length_map]; omega)) ?_)
    | ((with_reducible refine And.intro ?_ ?_); · first | (intro x hx; subst hx; rfl) | exact upR_mem fun _ _ => rfl | exact mapR_mem fun _ _ => rfl | (intro x; refine And.intro ?_ ?_ <;> (intros; subst_vars; rfl)))
    | fail
  · rintro ⟨⟨h1, _⟩, _⟩; contradiction
  · rintro ⟨⟨_, h1, _⟩, _⟩; contradiction
  · rintro ⟨⟨_, _, h1⟩, _⟩; omega
  have hE : EqsOkP rs es := by assumption
  have hF : TermOkP rs c.frm := by assumption
  refine sw_loopU (ι := Nat) (fun p => [(32, .int .i64 p), (7, .sl .any ((curT c p).map (.int .i64)))]) (fun p => []) (fun p => p ≤ c.moves.length ∧ (∀ j < p, MoveP rs es (curT c j) (c.moves.getD j default)) ∧ TermOkP rs (curT c p)) (fun p => c.moves.length - p) 0 (by (refine covers_mk0 rfl rfl ?_ ?_ ?_ ?_ <;> simp (disch := (refine Om.mk ?_; omega)) only [go_sem] <;> (try omega)); exact ⟨rfl, rfl⟩) ?_ (fun p hp => ?_)
  rotate_left
  simp only [go_sem]
  obtain ⟨hp1, hp2, hp3⟩ := hp
  repeat' first
    | exact Bool.noConfusion h
    | refine sw_seq ?_
    | refine sw_block ?_
    | refine sw_skip ?_
    | refine sw_inBlock ?_
    | refine sw_go 0 kp58 fun K hK => ?_
    | refine fun (K : List Oper → LS → Prop) (hK : KOk S 0 _ _ _ K) => ?_
    | ((first | refine runL_go ?_ | refine runQ_go ?_); simp (disch := (refine Om.mk ?_; omega)) only [go_sem])
    | (refine hK.nil ?_; clear hK K; simp only [go_sem])
    | (refine runG_fork rfl rfl rfl rfl rfl (fun h => ?_) (fun h => ?_) <;> (try simp (disch := (refine Om.mk ?_; omega)) only [go_sem] at h))
    | (refine hK.skip rfl (by simp only [dstOk, Nat.reduceLT]) ?_)
    | (refine sw_cond rfl (fun h => ?_) (fun h => ?_) <;> (try simp (disch := (refine Om.mk ?_; omega)) only [go_sem] at h))
    | (refine sw_exit rfl ?_)
    | (refine sw_loopEnd ?_)
    | ((first | refine sw_ret (ret0 ?_) | refine sw_ret ?_); simp (disch := (refine Om.mk ?_; omega)) only [go_sem, Try.results58])
    | refine hK.call rfl rfl rfl (moveOk_fc _ _ _ rs es (curT c p) (c.moves.getD p default) hE hp3) ⟨(by intro p hp; cases hp), rfl, rfl, (by simp only [dstOk, Nat.reduceLT])⟩ ?_
    | (refine hK.fork rfl rfl rfl (fun h => ?_) (fun h => ?_) <;> (try simp (disch := (refine Om.mk ?_; omega)) only [go_sem] at h))
    | (with_reducible refine And.intro (by first | omega | (simp only [List.length_append, List.length_take, List.length_drop, List.length_cons, List.length_nil, List.length_map]; omega)) ?_)
    | ((with_reducible refine And.intro ?_ ?_); · first | (intro x hx; subst hx; rfl) | exact upR_mem fun _ _ => rfl | exact mapR_mem fun _ _ => rfl | (intro x; refine And.intro ?_ ?_ <;> (intros; subst_vars; rfl)))
    | fail
  · rintro ⟨_, h2⟩; exact h (h2 p (by omega))
  · exact ⟨p + 1, (by (refine covers_mk0 rfl rfl ?_ ?_ ?_ ?_ <;> simp (disch := (refine Om.mk ?_; omega)) only [go_sem] <;> (try omega)); exact ⟨rfl, by omega⟩), ⟨by omega, upto_succ hp2 h, h.1.2.2.1⟩, by omega⟩
  · exact ⟨⟨hE, hF, by omega⟩, fun j hj => hp2 j (by omega)⟩
  · first | exact hF | exact ⟨by omega, fun j hj => absurd hj (by omega), hF⟩ | exact ⟨fun j hj => absurd hj (by omega), hF⟩
def kp97 : List (Nat × List Nat) := [(0, [1]), (1, [1, 6]), (2, [2]), (3, [2])]
attribute [go_sem] kp97
theorem l20End_fc (c : ChainT) : FC S 97 [] [] [] [ChainD c] (.sl .any ((curT c c.moves.length).map (.int .i64))) [] [] := by
  cases hn : c.moves.length with
  | zero =>
    refine fc_body Try.func97 rfl (by kernel_rfl) (by simp [Try.f97]) fun B => ?_
    simp only [Try.ntmps97, enumD, List.map_nil, List.map_cons, List.length_map, Nat.zero_add, Nat.reduceAdd]
    refine sw_bnd_agg 0 1 rfl rfl fun hb0_1 => ?_
    simp only [D.bnd, List.length_map] at hb0_1
    repeat' first
      | exact Bool.noConfusion h
      | refine sw_seq ?_
      | refine sw_block ?_
      | refine sw_skip ?_
      | refine sw_inBlock ?_
      | refine sw_go 0 kp97 fun K hK => ?_
      | refine fun (K : List Oper → LS → Prop) (hK : KOk S 0 _ _ _ K) => ?_
      | ((first | refine runL_go ?_ | refine runQ_go ?_); simp (disch := (refine Om.mk ?_; omega)) only [go_sem])
      | (refine hK.nil ?_; clear hK K; simp only [go_sem])
      | (refine sw_cond rfl (fun h => ?_) (fun h => ?_) <;> (try simp (disch := (refine Om.mk ?_; omega)) only [go_sem] at h))
      | (refine sw_exit rfl ?_)
      | (refine sw_loopEnd ?_)
      | ((first | refine sw_ret (ret0 ?_) | refine sw_ret ?_); simp (disch := (refine Om.mk ?_; omega)) only [go_sem, Try.results97])
      | (with_reducible refine And.intro (by first | omega | (simp only [List.length_append, List.length_take, List.length_drop, List.length_cons, List.length_nil, List.length_map]; omega)) ?_)
      | ((with_reducible refine And.intro ?_ ?_); · first | (intro x hx; subst hx; rfl) | exact upR_mem fun _ _ => rfl | exact mapR_mem fun _ _ => rfl | (intro x; refine And.intro ?_ ?_ <;> (intros; subst_vars; rfl)))
      | fail
    all_goals first | rfl | (exfalso; omega)
  | succ n =>
    refine fc_body Try.func97 rfl (by kernel_rfl) (by simp [Try.f97]) fun B => ?_
    simp only [Try.ntmps97, enumD, List.map_nil, List.map_cons, List.length_map, Nat.zero_add, Nat.reduceAdd]
    refine sw_bnd_agg 0 1 rfl rfl fun hb0_1 => ?_
    simp only [D.bnd, List.length_map] at hb0_1
    repeat' first
      | exact Bool.noConfusion h
      | refine sw_seq ?_
      | refine sw_block ?_
      | refine sw_skip ?_
      | refine sw_inBlock ?_
      | refine sw_go 0 kp97 fun K hK => ?_
      | refine fun (K : List Oper → LS → Prop) (hK : KOk S 0 _ _ _ K) => ?_
      | ((first | refine runL_go ?_ | refine runQ_go ?_); simp (disch := (refine Om.mk ?_; omega)) only [go_sem])
      | (refine hK.nil ?_; clear hK K; simp only [go_sem])
      | (refine sw_cond rfl (fun h => ?_) (fun h => ?_) <;> (try simp (disch := (refine Om.mk ?_; omega)) only [go_sem] at h))
      | (refine sw_exit rfl ?_)
      | (refine sw_loopEnd ?_)
      | ((first | refine sw_ret (ret0 ?_) | refine sw_ret ?_); simp (disch := (refine Om.mk ?_; omega)) only [go_sem, Try.results97])
      | (with_reducible refine And.intro (by first | omega | (simp only [List.length_append, List.length_take, List.length_drop, List.length_cons, List.length_nil, List.length_map]; omega)) ?_)
      | ((with_reducible refine And.intro ?_ ?_); · first | (intro x hx; subst hx; rfl) | exact upR_mem fun _ _ => rfl | exact mapR_mem fun _ _ => rfl | (intro x; refine And.intro ?_ ?_ <;> (intros; subst_vars; rfl)))
      | fail
    all_goals first | (exfalso; omega) | skip
    rw [show c.moves.length - 1 = n by omega]
    rfl
def kp103 : List (Nat × List Nat) := [(0, [1]), (1, [1, 3]), (2, [1, 3, 8]), (3, [2]), (4, [2])]
attribute [go_sem] kp103
theorem chainEnd_fc (c : ChainT) : FC S 103 [] [] [] [ChainD c] (.sl .any ((curT c c.moves.length).map (.int .i64))) [] [] := by
  cases hn : c.moves.length with
  | zero =>
    refine fc_body Try.func103 rfl (by kernel_rfl) (by simp [Try.f103]) fun B => ?_
    simp only [Try.ntmps103, enumD, List.map_nil, List.map_cons, List.length_map, Nat.zero_add, Nat.reduceAdd]
    refine sw_bnd_agg 0 1 rfl rfl fun hb0_1 => ?_
    simp only [D.bnd, List.length_map] at hb0_1
    repeat' first
      | exact Bool.noConfusion h
      | refine sw_seq ?_
      | refine sw_block ?_
      | refine sw_skip ?_
      | refine sw_inBlock ?_
      | refine sw_go 0 kp103 fun K hK => ?_
      | refine fun (K : List Oper → LS → Prop) (hK : KOk S 0 _ _ _ K) => ?_
      | ((first | refine runL_go ?_ | refine runQ_go ?_); simp (disch := (refine Om.mk ?_; omega)) only [go_sem])
      | (refine hK.nil ?_; clear hK K; simp only [go_sem])
      | (refine sw_cond rfl (fun h => ?_) (fun h => ?_) <;> (try simp (disch := (refine Om.mk ?_; omega)) only [go_sem] at h))
      | (refine sw_exit rfl ?_)
      | (refine sw_loopEnd ?_)
      | ((first | refine sw_ret (ret0 ?_) | refine sw_ret ?_); simp (disch := (refine Om.mk ?_; omega)) only [go_sem, Try.results103])
      | (with_reducible refine And.intro (by first | omega | (simp only [List.length_append, List.length_take, List.length_drop, List.length_cons, List.length_nil, List.length_map]; omega)) ?_)
      | ((with_reducible refine And.intro ?_ ?_); · first | (intro x hx; subst hx; rfl) | exact upR_mem fun _ _ => rfl | exact mapR_mem fun _ _ => rfl | (intro x; refine And.intro ?_ ?_ <;> (intros; subst_vars; rfl)))
      | fail
    all_goals first | rfl | (exfalso; omega)
  | succ n =>
    refine fc_body Try.func103 rfl (by kernel_rfl) (by simp [Try.f103]) fun B => ?_
    simp only [Try.ntmps103, enumD, List.map_nil, List.map_cons, List.length_map, Nat.zero_add, Nat.reduceAdd]
    refine sw_bnd_agg 0 1 rfl rfl fun hb0_1 => ?_
    simp only [D.bnd, List.length_map] at hb0_1
    repeat' first
      | exact Bool.noConfusion h
      | refine sw_seq ?_
      | refine sw_block ?_
      | refine sw_skip ?_
      | refine sw_inBlock ?_
      | refine sw_go 0 kp103 fun K hK => ?_
      | refine fun (K : List Oper → LS → Prop) (hK : KOk S 0 _ _ _ K) => ?_
      | ((first | refine runL_go ?_ | refine runQ_go ?_); simp (disch := (refine Om.mk ?_; omega)) only [go_sem])
      | (refine hK.nil ?_; clear hK K; simp only [go_sem])
      | (refine sw_cond rfl (fun h => ?_) (fun h => ?_) <;> (try simp (disch := (refine Om.mk ?_; omega)) only [go_sem] at h))
      | (refine sw_exit rfl ?_)
      | (refine sw_loopEnd ?_)
      | ((first | refine sw_ret (ret0 ?_) | refine sw_ret ?_); simp (disch := (refine Om.mk ?_; omega)) only [go_sem, Try.results103])
      | (with_reducible refine And.intro (by first | omega | (simp only [List.length_append, List.length_take, List.length_drop, List.length_cons, List.length_nil, List.length_map]; omega)) ?_)
      | ((with_reducible refine And.intro ?_ ?_); · first | (intro x hx; subst hx; rfl) | exact upR_mem fun _ _ => rfl | exact mapR_mem fun _ _ => rfl | (intro x; refine And.intro ?_ ?_ <;> (intros; subst_vars; rfl)))
      | fail
    all_goals first | (exfalso; omega) | skip
    rw [show c.moves.length - 1 = n by omega]
    rfl
theorem cloneLab_fc (p : List Nat) (hp : p ≠ []) (tk : Tk) (xs : List Int) (h1 : xs ≠ []) (hl : xs.length ≤ 17592186044416) : FC S 90 [] [] [] [.sl tk (xs.map (.int .i64))] (Int64SL p xs) [] [] := by
  have h1' : xs.map (D.int .i64) ≠ [] := by simpa using h1
  refine FC.args (args' := [.sl .any (xs.map (.int .i64))]) ?_ (by simp only [go_sem])
  refine fc_body Try.func90 rfl (by kernel_rfl) (by simp [Try.f90]) fun B => ?_
  simp only [Try.ntmps90, enumD, List.map_nil, List.map_cons, List.length_map, Nat.zero_add, Nat.reduceAdd]
  refine sw_bnd 0 rfl fun hb0 => ?_
  simp only [D.bnd, List.length_map] at hb0
  repeat' first
    | (refine sw_lab 2 p (k := 8000) rfl (by simp) hp ?_; simp only [go_sem])
    | exact Bool.noConfusion h
    | refine sw_seq ?_
    | refine sw_block ?_
    | refine sw_skip ?_
    | refine sw_inBlock ?_
    | refine sw_go 0 kp90 fun K hK => ?_
    | refine fun (K : List Oper → LS → Prop) (hK : KOk S 0 _ _ _ K) => ?_
    | ((first | refine runL_go ?_ | refine runQ_go ?_); simp (disch := (refine Om.mk ?_; omega)) only [go_sem])
    | (refine hK.nil ?_; clear hK K; simp only [go_sem])
    | (refine sw_cond rfl (fun h => ?_) (fun h => ?_) <;> (try simp (disch := (refine Om.mk ?_; omega)) only [go_sem] at h))
    | (refine sw_exit rfl ?_)
    | (refine sw_loopEnd ?_)
    | ((first | refine sw_ret (ret0 ?_) | refine sw_ret ?_); simp (disch := (refine Om.mk ?_; omega)) only [go_sem, Try.results90])
    | (with_reducible refine And.intro (by first | omega | (simp only [List.length_append, List.length_take, List.length_drop, List.length_cons, List.length_nil, List.length_map]; omega)) ?_)
    | ((with_reducible refine And.intro ?_ ?_); · first | (intro x hx; subst hx; rfl) | exact upR_mem fun _ _ => rfl | exact mapR_mem fun _ _ => rfl | (intro x; refine And.intro ?_ ?_ <;> (intros; subst_vars; rfl)))
    | fail

end Go.Proofs.Ytlcdahaihlflaaa
