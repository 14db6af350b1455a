/-
  A line's left side.
-/
import Derived.Test.YtlcdahaihlflaaaA02c
import Derived.Test.YtlcdahaihlflaaaA26b
namespace Go.Proofs.Ytlcdahaihlflaaa
open Go Go.Lg
set_option linter.unusedSimpArgs false
set_option linter.unusedVariables false
set_option maxHeartbeats 4000000
attribute [local irreducible] SW runL runQ runG runQG FC LopsW
def kp47 : List (Nat × List Nat) := [(0, [1]), (1, [2])]
attribute [go_sem] kp47
theorem left_fc (p : List Nat) (hp : p ≠ []) (x : LineT) (ht : ∀ q ∈ x.pats, 1 ≤ q.length ∧ q.length ≤ 60) (h3 : x.pats.length ≤ 1000) : FC S 47 [] [] [] [LineD x] (.sl (.lab p) ((leftL x).map (.int .i64))) [] [] := by
  have hb := flat_bound x.pats fun q hq => (ht q hq).2
  have e : [[x.fun_], x.pats.flatten].flatten = leftL x := by simp [leftL]
  have hl : [[x.fun_], x.pats.flatten].flatten.length ≤ 100000 := by rw [e]; simp only [leftL, List.length_cons]; omega
  rw [← e]
  refine fc_body Try.func47 rfl (by kernel_rfl) (by simp [Try.f47]) fun B => ?_
  simp only [Try.ntmps47, enumD, List.map_nil, List.map_cons, List.length_map, Nat.zero_add, Nat.reduceAdd]
  repeat' first
    | exact Bool.noConfusion h
    | refine sw_seq ?_
    | refine sw_block ?_
    | refine sw_skip ?_
    | refine sw_inBlock ?_
    | refine sw_go 0 kp47 fun K hK => ?_
    | refine fun (K : List Oper → LS → Prop) (hK : KOk S 0 _ _ _ K) => ?_
    | refine sw_goD kp47 (by kernel_rfl) fun K hK => ?_
    | ((first | refine runL_go ?_ | refine runQ_go ?_); simp (disch := (refine Om.mk ?_; omega)) only [go_sem])
    | (refine hK.nil ?_; clear hK K; simp only [go_sem])
    | (refine sw_cond rfl (fun h => ?_) (fun h => ?_) <;> (try simp (disch := (refine Om.mk ?_; omega)) only [go_sem] at h))
    | (refine sw_exit rfl ?_)
    | (refine sw_loopEnd ?_)
    | ((first | refine sw_ret (ret0 ?_) | refine sw_ret ?_); simp (disch := (refine Om.mk ?_; omega)) only [go_sem, Try.results47])
    | refine hK.call rfl rfl rfl (concatQ_fc _ x.pats (by omega) (by omega)) ⟨(by intro p hp; cases hp), rfl, rfl, (by simp only [dstOk, Nat.reduceLT])⟩ ?_
    | refine hK.call rfl rfl rfl (concat_fc p hp _ [[x.fun_], x.pats.flatten] (by simp) hl) ⟨(by intro p hp; cases hp), rfl, rfl, (by simp only [dstOk, Nat.reduceLT])⟩ ?_
    | (with_reducible refine And.intro (by first | omega | (simp only [List.length_append, List.length_take, List.length_drop, List.length_cons, List.length_nil, List.length_map]; omega)) ?_)
    | ((with_reducible refine And.intro ?_ ?_); · first | (intro x hx; subst hx; rfl) | exact upR_mem fun _ _ => rfl | exact mapR_mem fun _ _ => rfl | (intro x; refine And.intro ?_ ?_ <;> (intros; subst_vars; rfl)))
    | fail
theorem leftC (x : LineT) : LeftC x := fun ht h3 => (left_fc [0] (by simp) x ht (by omega)).weak .any (by simp) (by simp)
end Go.Proofs.Ytlcdahaihlflaaa
