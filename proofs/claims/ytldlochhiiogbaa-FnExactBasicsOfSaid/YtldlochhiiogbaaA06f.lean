/-
  Defined symbols: the specification's list.
-/
import Derived.Test.YtldlochhiiogbaaA06e
import Derived.Test.YtldlochhiiogbaaA01s
import Derived.Test.YtldlochhiiogbaaA06s
namespace Go.Proofs.Ytldlochhiiogbaa
open Go Go.Lg
set_option linter.unusedSimpArgs false
set_option linter.unusedVariables false
set_option maxHeartbeats 4000000
attribute [local irreducible] SW runL runQ runG runQG FC Ret1
def defL (rules : List RuleT) (i : Nat) : List Int := (rules.take i).foldl (fun acc r => intoL acc (r.l.getD 0 default)) []
theorem defL_succ (rules : List RuleT) (i : Nat) (h : i < rules.length) : defL rules (i + 1) = intoL (defL rules i) ((rules.getD i default).l.getD 0 default) := by
  unfold defL
  rw [take_snoc rules i h, List.foldl_append]
  rfl
theorem intoL_len' (n : Int) : ∀ xs : List Int, (intoL xs n).length ≤ xs.length + 1
  | [] => by simp [intoL]
  | x :: r => by
    have ih := intoL_len' n r
    unfold intoL
    split
    · simp only [List.length_cons]; omega
    · split <;> simp
theorem defL_len (rules : List RuleT) : ∀ i, i ≤ rules.length → (defL rules i).length ≤ i
  | 0, _ => by simp [defL]
  | i + 1, h => by
    have ih := defL_len rules i (by omega)
    rw [defL_succ rules i (by omega)]
    have := intoL_len' ((rules.getD i default).l.getD 0 default) (defL rules i)
    omega
theorem defL_mem (rules : List RuleT) (m : Int) : ∀ i, i ≤ rules.length → (m ∈ defL rules i ↔ ∃ j < i, (rules.getD j default).l.getD 0 default = m)
  | 0, _ => by simp [defL]
  | i + 1, h => by
    rw [defL_succ rules i (by omega), mem_intoL, defL_mem rules m i (by omega)]
    constructor
    · rintro (⟨j, hj, e⟩ | e)
      · exact ⟨j, by omega, e⟩
      · exact ⟨i, by omega, e.symm⟩
    · rintro ⟨j, hj, e⟩
      rcases Nat.lt_or_ge j i with h1 | h1
      · exact .inl ⟨j, h1, e⟩
      · rw [show j = i by omega] at e; exact .inr e.symm
theorem defL_all (rules : List RuleT) (m : Int) : m ∈ defL rules rules.length ↔ ∃ r ∈ rules, r.l.getD 0 default = m := by
  rw [defL_mem rules m _ (Nat.le_refl _)]
  constructor
  · rintro ⟨j, hj, e⟩; exact ⟨_, getD_mem rules j hj, e⟩
  · rintro ⟨r, hr, e⟩
    obtain ⟨j, hj, rfl⟩ := List.getElem_of_mem hr
    exact ⟨j, hj, by rw [← e]; simp [List.getD, List.getElem?_eq_getElem hj]⟩
def kp37 : List (Nat × List Nat) := [(0, [1]), (1, [1, 3]), (2, [1, 3, 4]), (3, [1, 3, 4, 10]), (5, [1, 3, 4]), (4, [1, 3, 4]), (6, [2])]
attribute [go_sem] kp37
theorem l6Defined_fc (x : SystemT) (hn : x.rules.length ≤ 1000) (h : ∀ j < x.rules.length, 1 ≤ (x.rules.getD j default).l.length) : FC S 37 [] [] [] [SystemD x] (.sl .any ((defL x.rules x.rules.length).map (.int .i64))) [] [] := by
  refine fc_body Try.func37 rfl (by kernel_rfl) (by simp [Try.f37]) fun B => ?_
  simp only [Try.ntmps37, enumD, List.map_nil, List.map_cons, List.length_map, Nat.zero_add, Nat.reduceAdd]
  repeat' first
    | exact Bool.noConfusion h
    | refine sw_seq ?_
    | refine sw_block ?_
    | refine sw_skip ?_
    | refine sw_inBlock ?_
    | refine sw_go 0 kp37 fun K hK => ?_
    | refine fun (K : List Oper → LS → Prop) (hK : KOk S 0 _ _ _ K) => ?_
    | ((first | refine runL_go ?_ | refine runQ_go ?_); simp (disch := (refine Om.mk ?_; omega)) only [go_sem])
    | (refine hK.nil ?_; clear hK K; simp only [go_sem])
    | (refine sw_cond rfl (fun h => ?_) (fun h => ?_) <;> (try simp (disch := (refine Om.mk ?_; omega)) only [go_sem] at h))
    | (refine sw_exit rfl ?_)
    | (refine sw_loopEnd ?_)
    | ((first | refine sw_ret (ret0 ?_) | refine sw_ret ?_); simp (disch := (refine Om.mk ?_; omega)) only [go_sem, Try.results37])
    | (with_reducible refine And.intro (by first | omega | (simp only [List.length_append, List.length_take, List.length_drop, List.length_cons, List.length_nil, List.length_map]; omega)) ?_)
    | ((with_reducible refine And.intro ?_ ?_); · first | (intro x hx; subst hx; rfl) | exact upR_mem fun _ _ => rfl | exact mapR_mem fun _ _ => rfl | (intro x; refine And.intro ?_ ?_ <;> (intros; subst_vars; rfl)))
    | fail
  refine sw_loopU (ι := Nat) (fun p => [(4, .int .i64 p), (3, .sl .any ((defL x.rules p).map (.int .i64)))]) (fun p => []) (fun p => p ≤ x.rules.length) (fun p => x.rules.length - p) 0 (by (refine covers_mk0 rfl rfl ?_ ?_ ?_ ?_ <;> simp (disch := (refine Om.mk ?_; omega)) only [go_sem] <;> (try omega)); exact ⟨rfl, rfl⟩) ?_ (fun p hp => ?_)
  rotate_left
  simp only [go_sem]
  have hl := defL_len x.rules p hp
  have hs := defL_succ x.rules p
  have h1 := h p
  repeat' first
    | exact Bool.noConfusion h
    | refine sw_seq ?_
    | refine sw_block ?_
    | refine sw_skip ?_
    | refine sw_inBlock ?_
    | refine sw_go 0 kp37 fun K hK => ?_
    | refine fun (K : List Oper → LS → Prop) (hK : KOk S 0 _ _ _ K) => ?_
    | ((first | refine runL_go ?_ | refine runQ_go ?_); simp (disch := (refine Om.mk ?_; omega)) only [go_sem])
    | (refine hK.nil ?_; clear hK K; simp only [go_sem])
    | (refine sw_cond rfl (fun h => ?_) (fun h => ?_) <;> (try simp (disch := (refine Om.mk ?_; omega)) only [go_sem] at h))
    | (refine sw_exit rfl ?_)
    | (refine sw_loopEnd ?_)
    | ((first | refine sw_ret (ret0 ?_) | refine sw_ret ?_); simp (disch := (refine Om.mk ?_; omega)) only [go_sem, Try.results37])
    | refine hK.call rfl rfl rfl (l1Into_fc _ (defL x.rules p) _ (by omega)) ⟨(by intro p hp; cases hp), rfl, rfl, (by simp only [dstOk, Nat.reduceLT])⟩ ?_
    | (with_reducible refine And.intro (by first | omega | (simp only [List.length_append, List.length_take, List.length_drop, List.length_cons, List.length_nil, List.length_map]; omega)) ?_)
    | ((with_reducible refine And.intro ?_ ?_); · first | (intro x hx; subst hx; rfl) | exact upR_mem fun _ _ => rfl | exact mapR_mem fun _ _ => rfl | (intro x; refine And.intro ?_ ?_ <;> (intros; subst_vars; rfl)))
    | fail
  · exact ⟨p + 1, (by (refine covers_mk0 rfl rfl ?_ ?_ ?_ ?_ <;> simp (disch := (refine Om.mk ?_; omega)) only [go_sem] <;> (try omega)); rw [hs (by omega)]; exact ⟨rfl, by omega⟩), by omega, by omega⟩
  · rw [show p = x.rules.length by omega]
  · omega
end Go.Proofs.Ytldlochhiiogbaa
