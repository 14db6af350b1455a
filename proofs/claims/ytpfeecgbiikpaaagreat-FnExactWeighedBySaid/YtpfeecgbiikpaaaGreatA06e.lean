/-
  Systems: SystemOk of both sides; the equations of a system's rules.
-/
import Derived.Test.YtpfeecgbiikpaaaGreatA06s
import Derived.Test.YtpfeecgbiikpaaaGreatA01b
import Derived.Test.YtpfeecgbiikpaaaGreatLTy
namespace Go.Proofs.YtpfeecgbiikpaaaGreat
open Go Go.Lg
set_option linter.unusedSimpArgs false
set_option linter.unusedVariables false
set_option maxHeartbeats 4000000
attribute [local irreducible] SW runL runQ runG runQG FC
def kp103 : List (Nat × List Nat) := [(0, [0]), (1, [0, 4]), (2, [2]), (3, [2])]
attribute [go_sem] kp103
theorem cloneL_fc (p : List Nat) (hp : p ≠ []) (tk : Tk) (xs : List Int) (h1 : xs ≠ []) (hl : xs.length ≤ 17592186044416) : FC S 103 [] [] [] [.sl tk (xs.map (.int .i64))] (Int64SL p xs) [] [] := by
  have h1' : xs.map (D.int .i64) ≠ [] := by simpa using h1
  refine FC.args (args' := [.sl .any (xs.map (.int .i64))]) ?_ (by simp only [go_sem])
  refine fc_body Tryz.func103 rfl (by kernel_rfl) (by simp [Tryz.f103]) fun B => ?_
  simp only [Tryz.ntmps103, enumD, List.map_nil, List.map_cons, List.length_map, Nat.zero_add, Nat.reduceAdd]
  refine sw_bnd 0 rfl fun hb0 => ?_
  simp only [D.bnd, List.length_map] at hb0
  repeat' first
    | (refine sw_lab 2 p (k := 8000) rfl (by simp) hp ?_; simp only [go_sem])
    | exact Bool.noConfusion h
    | refine sw_seq ?_
    | refine sw_block ?_
    | refine sw_skip ?_
    | refine sw_inBlock ?_
    | refine sw_go 0 kp103 fun K hK => ?_
    | refine fun (K : List Oper → LS → Prop) (hK : KOk S 0 _ _ _ K) => ?_
    | ((first | refine runL_go ?_ | refine runQ_go ?_); simp (disch := (refine Om.mk ?_; omega)) only [go_sem])
    | (refine hK.nil ?_; clear hK K; simp only [go_sem])
    | (refine sw_cond rfl (fun h => ?_) (fun h => ?_) <;> (try simp (disch := (refine Om.mk ?_; omega)) only [go_sem] at h))
    | (refine sw_exit rfl ?_)
    | (refine sw_loopEnd ?_)
    | ((first | refine sw_ret (ret0 ?_) | refine sw_ret ?_); simp (disch := (refine Om.mk ?_; omega)) only [go_sem, Tryz.results103])
    | (with_reducible refine And.intro (by first | omega | (simp only [List.length_append, List.length_take, List.length_drop, List.length_cons, List.length_nil, List.length_map]; omega)) ?_)
    | ((with_reducible refine And.intro ?_ ?_); · first | (intro x hx; subst hx; rfl) | exact upR_mem fun _ _ => rfl | exact mapR_mem fun _ _ => rfl | (intro x; refine And.intro ?_ ?_ <;> (intros; subst_vars; rfl)))
    | fail
theorem take_snoc {α : Type} [Inhabited α] (xs : List α) (i : Nat) (h : i < xs.length) : xs.take (i + 1) = xs.take i ++ [xs.getD i default] := by
  rw [List.take_succ_eq_append_getElem h]
  simp [List.getD, List.getElem?_eq_getElem h]
end Go.Proofs.YtpfeecgbiikpaaaGreat
