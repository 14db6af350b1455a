/-
  SlopeOf, BoundBy: the program's side.
-/
import Derived.Test.YtpfeecgbiikpaaaGreatA15k
namespace Go.Proofs.YtpfeecgbiikpaaaGreat
open Go Go.Lg
set_option linter.unusedSimpArgs false
set_option linter.unusedVariables false
set_option maxHeartbeats 4000000
attribute [local irreducible] SW runL runQ runG runQG FC Ret1 toF redoL anyB addJ sumF formM
theorem formTop_fc (rs : List Int) (ps : List PolyT) (t : List Int) (hT : TermOkP rs t) (hQ : PsOk rs ps) : FC S 151 [] [] [] [.agg [.sl .any (rs.map (.int .i64))], .sl .any (ps.map PolyD), .sl .any (t.map (.int .i64)), .int .i64 0] (.tup [PolyD (formM rs ps 60 t).1, .bool (formM rs ps 60 t).2]) [] [] := by
  have h := formAt_fc rs ps t hT hQ 60 0 hT.2.1.1 (by rw [subS_zeroU hT]; exact hT.2.1.2)
  rw [subS_zeroU hT] at h
  exact h
open Classical in
noncomputable def cmpF (rs : List Int) (ps : List PolyT) (s t : List Int) : Bool × Bool := if (formM rs ps 60 s).2 = true ∧ (formM rs ps 60 t).2 = true then mostR (formM rs ps 60 s).1 (formM rs ps 60 t).1 else (false, false)
def kp130 : List (Nat × List Nat) := [(0, [1, 2, 3, 4]), (1, [1, 3, 4, 10, 11]), (2, [10, 11, 12, 13]), (3, [10, 12, 33]), (4, [8, 9]), (5, [8, 9])]
attribute [go_sem] kp130
theorem compareForms_fc (rs : List Int) (ps : List PolyT) (s t : List Int) (hQ : PsOk rs ps) (hs : TermOkP rs s) (ht : TermOkP rs t) : FC S 130 [] [] [] [.agg [.sl .any (rs.map (.int .i64))], .sl .any (ps.map PolyD), .sl .any (s.map (.int .i64)), .sl .any (t.map (.int .i64))] (.tup [.bool (cmpF rs ps s t).1, .bool (cmpF rs ps s t).2]) [] [] := by
  have c1 := formTop_fc rs ps s hs hQ
  have c2 := formTop_fc rs ps t ht hQ
  unfold cmpF
  generalize formM rs ps 60 s = a at *
  generalize formM rs ps 60 t = b at *
  obtain ⟨a, oa⟩ := a
  obtain ⟨b, ob⟩ := b
  dsimp only at c1 c2 ⊢
  by_cases hnb : oa = true ∧ ob = true
  · rw [if_pos hnb]
    obtain ⟨rfl, rfl⟩ := hnb
    refine fc_body Tryz.func130 rfl (by kernel_rfl) (by simp [Tryz.f130]) fun B => ?_
    simp only [Tryz.ntmps130, enumD, List.map_nil, List.map_cons, List.length_map, Nat.zero_add, Nat.reduceAdd]
    repeat' first
      | ((exact Bool.noConfusion (by assumption)))
      | exact Bool.noConfusion h
      | refine sw_seq ?_
      | refine sw_block ?_
      | refine sw_skip ?_
      | refine sw_inBlock ?_
      | refine sw_go 0 kp130 fun K hK => ?_
      | refine fun (K : List Oper → LS → Prop) (hK : KOk S 0 _ _ _ K) => ?_
      | ((first | refine runL_go ?_ | refine runQ_go ?_); simp (disch := (refine Om.mk ?_; omega)) only [go_sem])
      | (refine hK.nil ?_; clear hK K; simp only [go_sem])
      | (refine runG_fork rfl rfl rfl rfl rfl (fun h => ?_) (fun h => ?_) <;> (try simp (disch := (refine Om.mk ?_; omega)) only [go_sem] at h))
      | (refine hK.skip rfl (by simp only [dstOk, Nat.reduceLT]) ?_)
      | (refine sw_cond rfl (fun h => ?_) (fun h => ?_) <;> (try simp (disch := (refine Om.mk ?_; omega)) only [go_sem] at h))
      | (refine sw_exit rfl ?_)
      | (refine sw_loopEnd ?_)
      | ((first | refine sw_ret (ret0 ?_) | refine sw_ret ?_); simp (disch := (refine Om.mk ?_; omega)) only [go_sem, Tryz.results130])
      | refine hK.call rfl rfl rfl (c1) ⟨(by intro p hp; cases hp), rfl, rfl, (by simp only [dstOk, Nat.reduceLT])⟩ ?_
      | refine hK.call rfl rfl rfl (c2) ⟨(by intro p hp; cases hp), rfl, rfl, (by simp only [dstOk, Nat.reduceLT])⟩ ?_
      | refine hK.call rfl rfl rfl (atMost_fc a b) ⟨(by intro p hp; cases hp), rfl, rfl, (by simp only [dstOk, Nat.reduceLT])⟩ ?_
      | (refine hK.fork rfl rfl rfl (fun h => ?_) (fun h => ?_) <;> (try simp (disch := (refine Om.mk ?_; omega)) only [go_sem] at h))
      | (with_reducible refine And.intro (by first | omega | (simp only [List.length_append, List.length_take, List.length_drop, List.length_cons, List.length_nil, List.length_map]; omega)) ?_)
      | ((with_reducible refine And.intro ?_ ?_); · first | (intro x hx; subst hx; rfl) | exact upR_mem fun _ _ => rfl | exact mapR_mem fun _ _ => rfl | (intro x; refine And.intro ?_ ?_ <;> (intros; subst_vars; rfl)))
      | fail
  · rw [if_neg hnb]
    refine fc_body Tryz.func130 rfl (by kernel_rfl) (by simp [Tryz.f130]) fun B => ?_
    simp only [Tryz.ntmps130, enumD, List.map_nil, List.map_cons, List.length_map, Nat.zero_add, Nat.reduceAdd]
    repeat' first
      | ((exact absurd ⟨(by assumption), (by assumption)⟩ hnb))
      | exact Bool.noConfusion h
      | refine sw_seq ?_
      | refine sw_block ?_
      | refine sw_skip ?_
      | refine sw_inBlock ?_
      | refine sw_go 0 kp130 fun K hK => ?_
      | refine fun (K : List Oper → LS → Prop) (hK : KOk S 0 _ _ _ K) => ?_
      | ((first | refine runL_go ?_ | refine runQ_go ?_); simp (disch := (refine Om.mk ?_; omega)) only [go_sem])
      | (refine hK.nil ?_; clear hK K; simp only [go_sem])
      | (refine runG_fork rfl rfl rfl rfl rfl (fun h => ?_) (fun h => ?_) <;> (try simp (disch := (refine Om.mk ?_; omega)) only [go_sem] at h))
      | (refine hK.skip rfl (by simp only [dstOk, Nat.reduceLT]) ?_)
      | (refine sw_cond rfl (fun h => ?_) (fun h => ?_) <;> (try simp (disch := (refine Om.mk ?_; omega)) only [go_sem] at h))
      | (refine sw_exit rfl ?_)
      | (refine sw_loopEnd ?_)
      | ((first | refine sw_ret (ret0 ?_) | refine sw_ret ?_); simp (disch := (refine Om.mk ?_; omega)) only [go_sem, Tryz.results130])
      | refine hK.call rfl rfl rfl (c1) ⟨(by intro p hp; cases hp), rfl, rfl, (by simp only [dstOk, Nat.reduceLT])⟩ ?_
      | refine hK.call rfl rfl rfl (c2) ⟨(by intro p hp; cases hp), rfl, rfl, (by simp only [dstOk, Nat.reduceLT])⟩ ?_
      | refine hK.call rfl rfl rfl (atMost_fc a b) ⟨(by intro p hp; cases hp), rfl, rfl, (by simp only [dstOk, Nat.reduceLT])⟩ ?_
      | (refine hK.fork rfl rfl rfl (fun h => ?_) (fun h => ?_) <;> (try simp (disch := (refine Om.mk ?_; omega)) only [go_sem] at h))
      | (with_reducible refine And.intro (by first | omega | (simp only [List.length_append, List.length_take, List.length_drop, List.length_cons, List.length_nil, List.length_map]; omega)) ?_)
      | ((with_reducible refine And.intro ?_ ?_); · first | (intro x hx; subst hx; rfl) | exact upR_mem fun _ _ => rfl | exact mapR_mem fun _ _ => rfl | (intro x; refine And.intro ?_ ?_ <;> (intros; subst_vars; rfl)))
      | fail
    all_goals exact absurd ⟨(by assumption), (by assumption)⟩ hnb
def kp93 : List (Nat × List Nat) := [(0, [1, 2, 3]), (1, [1, 2, 3, 12, 13, 14]), (2, [1, 2, 3, 12, 13, 14, 15]), (3, [1, 2, 3, 8, 12, 13, 14]), (4, [1, 2, 3, 9, 10, 12, 13, 14]), (5, [1, 2, 3, 12, 13, 14, 37]), (6, [6]), (7, [1, 2, 3, 12, 13, 14]), (8, [6])]
attribute [go_sem] kp93
end Go.Proofs.YtpfeecgbiikpaaaGreat
