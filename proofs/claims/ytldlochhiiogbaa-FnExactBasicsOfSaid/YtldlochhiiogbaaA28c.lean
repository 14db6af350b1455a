/-
  The order of terms: the program's comparison.
-/
import Derived.Test.YtldlochhiiogbaaA28p
import Derived.Test.YtldlochhiiogbaaA23b
namespace Go.Proofs.Ytldlochhiiogbaa
open Go Go.Lg
set_option linter.unusedSimpArgs false
set_option linter.unusedVariables false
set_option maxHeartbeats 4000000
attribute [local irreducible] SW runL runQ runG runQG FC Ret1 toF redoL
theorem cmpL_neg : ∀ a b : List Int, cmpL a b < 0 ↔ lexB a b = true
  | [], [] => by simp [cmpL, lexB]
  | [], _ :: _ => by simp [cmpL, lexB]
  | _ :: _, [] => by simp [cmpL, lexB]
  | x :: r, y :: s => by
    have ih := cmpL_neg r s
    simp only [cmpL, lexB]
    by_cases h : x = y
    · subst h
      have e : cmpI x x = 0 := by simp [cmpI]
      rw [if_neg (by simp [e]), if_pos rfl]; exact ih
    · rw [if_neg h]
      unfold cmpI
      by_cases h2 : x < y
      · simp [h2]
      · have h3 : y < x := by omega
        simp [h2, h3]
def cmpTm (a b : List Int) : Int := if a.length = b.length then cmpL a b else (a.length : Int) - b.length
theorem cmpT_neg (a b : List Int) : cmpTm a b < 0 ↔ lessT a b = true := by
  unfold cmpTm lessT
  split
  · exact cmpL_neg a b
  · simp only [decide_eq_true_eq]; omega
theorem cmpT_ord : (∀ x, ¬ cmpTm x x < 0) ∧ (∀ x y z, cmpTm x y < 0 → cmpTm y z < 0 → cmpTm x z < 0) ∧ (∀ x y z, ¬ cmpTm x y < 0 → ¬ cmpTm y z < 0 → ¬ cmpTm x z < 0) := by
  refine ⟨fun x => ?_, fun x y z => ?_, fun x y z => ?_⟩
  · rw [cmpT_neg, lessT_irr]; simp
  · rw [cmpT_neg, cmpT_neg, cmpT_neg]; exact lessT_trans x y z
  · rw [cmpT_neg, cmpT_neg, cmpT_neg]
    simp only [Bool.not_eq_true]
    exact lessT_ntrans x y z
theorem srtM_of {xs ys : List (List Int)} (hp : ys.Perm xs) (h : ys.Pairwise fun a b => ¬ cmpTm b a < 0) : ys = srtM xs := by
  refine srt_uniq (h.imp fun {a b} h => ?_) (srtM_ok xs).2 (hp.trans (srtM_ok xs).1.symm)
  rw [cmpT_neg] at h
  simpa using h
def kp31 : List (Nat × List Nat) := [(0, [0, 1]), (1, [0, 1, 9]), (2, [4]), (3, [4])]
attribute [go_sem] kp31
theorem compareTerms_fc (tk tk' : Tk) (a b : List Int) : FC S 31 [] [] [] [.sl tk (a.map (.int .i64)), .sl tk' (b.map (.int .i64))] (.int .i64 (cmpTm a b)) [] [] := by
  refine fc_body Try.func31 rfl (by kernel_rfl) (by simp [Try.f31]) fun B => ?_
  simp only [Try.ntmps31, enumD, List.map_nil, List.map_cons, List.length_map, Nat.zero_add, Nat.reduceAdd]
  refine sw_bnd 0 rfl fun hb0 => ?_
  simp only [D.bnd, List.length_map] at hb0
  refine sw_bnd 1 rfl fun hb1 => ?_
  simp only [D.bnd, List.length_map] at hb1
  repeat' first
    | exact Bool.noConfusion h
    | refine sw_seq ?_
    | refine sw_block ?_
    | refine sw_skip ?_
    | refine sw_inBlock ?_
    | refine sw_go 0 kp31 fun K hK => ?_
    | refine fun (K : List Oper → LS → Prop) (hK : KOk S 0 _ _ _ K) => ?_
    | ((first | refine runL_go ?_ | refine runQ_go ?_); simp (disch := (refine Om.mk ?_; omega)) only [go_sem])
    | (refine hK.nil ?_; clear hK K; simp only [go_sem])
    | (refine sw_cond rfl (fun h => ?_) (fun h => ?_) <;> (try simp (disch := (refine Om.mk ?_; omega)) only [go_sem] at h))
    | (refine sw_exit rfl ?_)
    | (refine sw_loopEnd ?_)
    | ((first | refine sw_ret (ret0 ?_) | refine sw_ret ?_); simp (disch := (refine Om.mk ?_; omega)) only [go_sem, Try.results31])
    | refine hK.call rfl rfl rfl (compare_fc _ _ _ _) ⟨(by intro p hp; cases hp), rfl, rfl, (by simp only [dstOk, Nat.reduceLT])⟩ ?_
    | (with_reducible refine And.intro (by first | omega | (simp only [List.length_append, List.length_take, List.length_drop, List.length_cons, List.length_nil, List.length_map]; omega)) ?_)
    | ((with_reducible refine And.intro ?_ ?_); · first | (intro x hx; subst hx; rfl) | exact upR_mem fun _ _ => rfl | exact mapR_mem fun _ _ => rfl | (intro x; refine And.intro ?_ ?_ <;> (intros; subst_vars; rfl)))
    | fail
  · unfold cmpTm; rw [if_neg (by omega)]
  · unfold cmpTm; rw [if_pos (by omega)]
end Go.Proofs.Ytldlochhiiogbaa
