/-
  Contracts of the chapter on places: subterms, arguments' places, a term put at a place.
-/
import Derived.Test.YtfokjjlbdaabaaaA03t
import Derived.Test.YtfokjjlbdaabaaaA02c
namespace Go.Proofs.Ytfokjjlbdaabaaa
open Go Go.Lg
set_option linter.unusedSimpArgs false
set_option linter.unusedVariables false
set_option maxHeartbeats 4000000
attribute [local irreducible] SW runL runQ runG runQG FC Ret1
theorem TermOkP.ar {rs t : List Int} (h : TermOkP rs t) : ∀ x ∈ t, 0 ≤ arS rs x := fun x hx => by
  have := h.2.2
  unfold endS at this
  rw [List.drop_zero] at this
  exact scan_all (rs := rs) t 1 0 (by omega) x hx
theorem copyQ_fc (tk : Tk) (xs : List Int) (hl : xs.length ≤ 17592186044416) : FC S 92 [] [] [] [.sl tk (xs.map (.int .i64))] (.sl .any (xs.map (.int .i64))) [] [] :=
  (l1Copy_fc tk xs hl).weak .any (by simp) (by simp)
def kp73 : List (Nat × List Nat) := [(0, [1, 2, 3]), (1, [6])]
attribute [go_sem] kp73
theorem l1Sub_fc (tk tk' : Tk) (rs t : List Int) (a : Nat) (hT : TermOkP rs t) (ha : a < t.length) : FC S 73 [] [] [] [.agg [.sl tk (rs.map (.int .i64))], .sl tk' (t.map (.int .i64)), .int .i64 a] (.sl .any ((subS rs t a).map (.int .i64))) [] [] := by
  have he := endS_ge hT ha
  have hl := hT.2.1.2
  refine fc_body Try.func73 rfl (by kernel_rfl) (by simp [Try.f73]) fun B => ?_
  simp only [Try.ntmps73, enumD, List.map_nil, List.map_cons, List.length_map, Nat.zero_add, Nat.reduceAdd]
  refine sw_bnd 1 rfl fun hb1 => ?_
  simp only [D.bnd, List.length_map] at hb1
  repeat' first
    | exact Bool.noConfusion h
    | refine sw_seq ?_
    | refine sw_block ?_
    | refine sw_skip ?_
    | refine sw_inBlock ?_
    | refine sw_go 0 kp73 fun K hK => ?_
    | refine fun (K : List Oper → LS → Prop) (hK : KOk S 0 _ _ _ K) => ?_
    | ((first | refine runL_go ?_ | refine runQ_go ?_); simp (disch := (refine Om.mk ?_; omega)) only [go_sem])
    | (refine hK.nil ?_; clear hK K; simp only [go_sem])
    | (refine sw_cond rfl (fun h => ?_) (fun h => ?_) <;> (try simp (disch := (refine Om.mk ?_; omega)) only [go_sem] at h))
    | (refine sw_exit rfl ?_)
    | (refine sw_loopEnd ?_)
    | ((first | refine sw_ret (ret0 ?_) | refine sw_ret ?_); simp (disch := (refine Om.mk ?_; omega)) only [go_sem, Try.results73])
    | refine hK.call rfl rfl rfl (l1End_fc _ _ rs t a hT.1 hl (by omega)) ⟨(by intro p hp; cases hp), rfl, rfl, (by simp only [dstOk, Nat.reduceLT])⟩ ?_
    | refine hK.call rfl rfl rfl (copyQ_fc _ (subS rs t a) (by unfold subS; simp; omega)) ⟨(by intro p hp; cases hp), rfl, rfl, (by simp only [dstOk, Nat.reduceLT])⟩ ?_
    | (with_reducible refine And.intro (by first | omega | (simp only [List.length_append, List.length_take, List.length_drop, List.length_cons, List.length_nil, List.length_map]; omega)) ?_)
    | ((with_reducible refine And.intro ?_ ?_); · first | (intro x hx; subst hx; rfl) | exact upR_mem fun _ _ => rfl | exact mapR_mem fun _ _ => rfl | (intro x; refine And.intro ?_ ?_ <;> (intros; subst_vars; rfl)))
    | fail
end Go.Proofs.Ytfokjjlbdaabaaa
