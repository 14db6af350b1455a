/-
  Chains one behind the other: the plain law; the specification's side.
-/
import Derived.Test.YtlcdahaihlflaaaA20n
namespace Go.Proofs.Ytlcdahaihlflaaa
open Go Go.Lg
set_option linter.unusedSimpArgs false
set_option linter.unusedVariables false
set_option maxHeartbeats 4000000
attribute [local irreducible] SW runL runQ runG runQG FC Ret1
def LenP (c : ChainT) : Prop := (1 ≤ c.frm.length ∧ c.frm.length ≤ 60) ∧ ∀ m ∈ c.moves, 1 ≤ m.to.length ∧ m.to.length ≤ 60
theorem ChainP.len {rs : List Int} {es : List EqT} {c : ChainT} (h : ChainP rs es c) : LenP c := ⟨h.1.2.1.2.1, fun m hm => by
  obtain ⟨j, hj, e⟩ := List.getElem_of_mem hm
  have := (h.2 j hj).1.2.2.1.2.1
  simpa [List.getD, hj, e] using this⟩
def kp98 : List (Nat × List Nat) := [(0, [1, 2]), (1, [1, 2]), (2, [2])]
attribute [go_sem] kp98
theorem l20CopyMove_fc (m : MoveT) (hl : m.to.length ≤ 60) : FC S 98 [] [] [] [MoveD m] (MoveD m) [] [] := by
  refine fc_body Try.func98 rfl (by kernel_rfl) (by simp [Try.f98]) fun B => ?_
  simp only [Try.ntmps98, enumD, List.map_nil, List.map_cons, List.length_map, Nat.zero_add, Nat.reduceAdd]
  repeat' first
    | exact Bool.noConfusion h
    | refine sw_seq ?_
    | refine sw_block ?_
    | refine sw_skip ?_
    | refine sw_inBlock ?_
    | refine sw_go 0 kp98 fun K hK => ?_
    | refine fun (K : List Oper → LS → Prop) (hK : KOk S 0 _ _ _ K) => ?_
    | ((first | refine runL_go ?_ | refine runQ_go ?_); simp (disch := (refine Om.mk ?_; omega)) only [go_sem])
    | (refine hK.nil ?_; clear hK K; simp only [go_sem])
    | (refine sw_cond rfl (fun h => ?_) (fun h => ?_) <;> (try simp (disch := (refine Om.mk ?_; omega)) only [go_sem] at h))
    | (refine sw_exit rfl ?_)
    | (refine sw_loopEnd ?_)
    | ((first | refine sw_ret (ret0 ?_) | refine sw_ret ?_); simp (disch := (refine Om.mk ?_; omega)) only [go_sem, Try.results98])
    | refine hK.call rfl rfl rfl (copyQ_fc _ m.to (by omega)) ⟨(by intro p hp; cases hp), rfl, rfl, (by simp only [dstOk, Nat.reduceLT])⟩ ?_
    | (with_reducible refine And.intro (by first | omega | (simp only [List.length_append, List.length_take, List.length_drop, List.length_cons, List.length_nil, List.length_map]; omega)) ?_)
    | ((with_reducible refine And.intro ?_ ?_); · first | (intro x hx; subst hx; rfl) | exact upR_mem fun _ _ => rfl | exact mapR_mem fun _ _ => rfl | (intro x; refine And.intro ?_ ?_ <;> (intros; subst_vars; rfl)))
    | fail
end Go.Proofs.Ytlcdahaihlflaaa
