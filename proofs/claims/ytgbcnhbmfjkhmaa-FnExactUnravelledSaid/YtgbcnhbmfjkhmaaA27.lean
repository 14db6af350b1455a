/-
  Contracts of the chapter on conditional rules: valid ones.
-/
import Derived.Test.YtgbcnhbmfjkhmaaSet
import Derived.Test.YtgbcnhbmfjkhmaaA01b
import Derived.Test.YtgbcnhbmfjkhmaaA20
namespace Go.Proofs.Ytgbcnhbmfjkhmaa
open Go Go.Lg
set_option linter.unusedSimpArgs false
set_option maxHeartbeats 4000000
attribute [local irreducible] SW runL runQ runG runQG FC
def KnownP (t : List Int) (us : List (List Int)) : Prop := ∀ x ∈ t, x < 0 → ∃ u ∈ us, x ∈ u
def boundsOf (r : CRuleT) (i : Nat) : List (List Int) := r.l :: (r.conds.take i).map (fun e => e.r)
def CRuleOkP (rs : List Int) (r : CRuleT) : Prop := (TermOkP rs r.l ∧ TermOkP rs r.r ∧ 0 ≤ r.l.getD 0 default ∧ r.conds.length ≤ 2) ∧
  (∀ j < r.conds.length, EqOkP rs (r.conds.getD j default) ∧ KnownP (r.conds.getD j default).l (boundsOf r j)) ∧ KnownP r.r (boundsOf r r.conds.length)
def CSystemOkP (cs : CSystemT) : Prop := (SigOkP cs.sig ∧ cs.rules.length ≤ 12) ∧ ∀ j < cs.rules.length, CRuleOkP cs.sig (cs.rules.getD j default)
/-- the variables' numbers, added one by one -/
def withL (vars : List Int) : List Int → List Int
  | [] => vars
  | x :: t => withL (if x < 0 then intoL vars (-1 - x) else vars) t
theorem mem_withL (m : Int) : ∀ (t vars : List Int), m ∈ withL vars t ↔ m ∈ vars ∨ ∃ x ∈ t, x < 0 ∧ m = -1 - x
  | [], vars => by simp [withL]
  | x :: t, vars => by
    rw [withL, mem_withL m t]
    split
    · rename_i h
      rw [mem_intoL]
      constructor
      · rintro ((h1 | h1) | ⟨y, hy, h2⟩)
        · exact .inl h1
        · exact .inr ⟨x, by simp, h, h1⟩
        · exact .inr ⟨y, by simp [hy], h2⟩
      · rintro (h1 | ⟨y, hy, h2⟩)
        · exact .inl (.inl h1)
        · rcases List.mem_cons.1 hy with rfl | hy
          · exact .inl (.inr h2.2)
          · exact .inr ⟨y, hy, h2⟩
    · rename_i h
      constructor
      · rintro (h1 | ⟨y, hy, h2⟩)
        · exact .inl h1
        · exact .inr ⟨y, by simp [hy], h2⟩
      · rintro (h1 | ⟨y, hy, h2⟩)
        · exact .inl h1
        · rcases List.mem_cons.1 hy with rfl | hy
          · exact absurd h2.1 h
          · exact .inr ⟨y, hy, h2⟩
theorem withL_snoc (vars : List Int) : ∀ (t : List Int) (i : Nat), i < t.length → withL vars (t.take (i + 1)) = (if t.getD i default < 0 then intoL (withL vars (t.take i)) (-1 - t.getD i default) else withL vars (t.take i))
  | x :: t, 0, _ => by simp [withL]
  | x :: t, i + 1, h => by
    have := withL_snoc (if x < 0 then intoL vars (-1 - x) else vars) t i (by simpa using h)
    simp only [List.take_succ_cons, withL, List.getD_cons_succ]
    exact this
theorem intoL_len (n : Int) : ∀ xs : List Int, (intoL xs n).length ≤ xs.length + 1
  | [] => by simp [intoL]
  | x :: r => by
    have := intoL_len n r
    simp only [intoL]
    split
    · simp; omega
    · split <;> simp
theorem withL_len : ∀ (t vars : List Int), (withL vars t).length ≤ vars.length + t.length
  | [], vars => by simp [withL]
  | x :: t, vars => by
    have h2 := intoL_len (-1 - x) vars
    rw [withL]
    by_cases h : x < 0
    · have h1 := withL_len t (intoL vars (-1 - x))
      rw [if_pos h, List.length_cons]; omega
    · have h1 := withL_len t vars
      rw [if_neg h, List.length_cons]; omega
def varsAt (r : CRuleT) : Nat → List Int
  | 0 => withL [] r.l
  | i + 1 => withL (varsAt r i) (r.conds.getD i default).r
theorem mem_varsAt (r : CRuleT) (m : Int) : ∀ i ≤ r.conds.length, m ∈ varsAt r i ↔ ∃ u ∈ boundsOf r i, ∃ x ∈ u, x < 0 ∧ m = -1 - x
  | 0, _ => by simp [varsAt, mem_withL, boundsOf]
  | i + 1, h => by
    have ih := mem_varsAt r m i (by omega)
    rw [varsAt, mem_withL, ih]
    have e : boundsOf r (i + 1) = boundsOf r i ++ [(r.conds.getD i default).r] := by
      unfold boundsOf
      rw [List.take_succ_eq_append_getElem (show i < r.conds.length by omega), List.map_append]
      simp [List.getD, List.getElem?_eq_getElem (show i < r.conds.length by omega)]
    rw [e]
    constructor
    · rintro (⟨u, hu, h1⟩ | h1)
      · exact ⟨u, by simp [hu], h1⟩
      · exact ⟨_, by simp, h1⟩
    · rintro ⟨u, hu, h1⟩
      rcases List.mem_append.1 hu with hu | hu
      · exact .inl ⟨u, hu, h1⟩
      · obtain rfl := List.mem_singleton.1 hu
        exact .inr h1
theorem within_known (r : CRuleT) (t : List Int) (i : Nat) (h : i ≤ r.conds.length) : (∀ j < t.length, t.getD j default < 0 → -1 - t.getD j default ∈ varsAt r i) ↔ KnownP t (boundsOf r i) := by
  rw [forall_getD (P := fun x => x < 0 → -1 - x ∈ varsAt r i)]
  constructor
  · intro hh x hx h0
    obtain ⟨u, hu, y, hy, hy0, e⟩ := (mem_varsAt r _ i h).1 (hh x hx h0)
    exact ⟨u, hu, by rw [show x = y by omega]; exact hy⟩
  · intro hh x hx h0
    obtain ⟨u, hu, hxu⟩ := hh x hx h0
    exact (mem_varsAt r _ i h).2 ⟨u, hu, x, hxu, h0, rfl⟩
theorem varsAt_len (r : CRuleT) (hl : r.l.length ≤ 60) : ∀ i, (∀ j < i, (r.conds.getD j default).r.length ≤ 60) → (varsAt r i).length ≤ 60 + 60 * i
  | 0, _ => by have := withL_len r.l []; simp only [varsAt, List.length_nil] at *; omega
  | i + 1, hc => by
    have h1 := varsAt_len r hl i fun j hj => hc j (by omega)
    have h2 := withL_len (r.conds.getD i default).r (varsAt r i)
    have h3 := hc i (by omega)
    rw [varsAt]; omega
def kp208 : List (Nat × List Nat) := [(0, [0, 1]), (1, [0, 1, 5]), (2, [0, 1, 5, 9]), (4, [0, 1, 5, 16]), (5, [0, 1, 5]), (3, [0, 1, 5]), (6, [4])]
attribute [go_sem] kp208
theorem l27With_fc (tk tk' : Tk) (vars t : List Int) (hv : vars.length ≤ 1000) (ht : t.length ≤ 60) (hx : ∀ x ∈ t, -24 ≤ x) : FC S 208 [] [] [] [.sl tk (vars.map (.int .i64)), .sl tk' (t.map (.int .i64))] (.sl .any ((withL vars t).map (.int .i64))) [] [] := by
  refine FC.args (args' := [.sl .any (vars.map (.int .i64)), .sl .any (t.map (.int .i64))]) ?_ (by simp only [go_sem, Nat.reduceAdd, Nat.reduceMul, Nat.reduceLT, Nat.reduceLeDiff, Nat.reduceEqDiff, Nat.reduceBEq, Nat.reduceSub, ↓reduceIte, reduceCtorEq])
  refine fc_body Try.func208 rfl (by kernel_rfl) (by simp [Try.f208]) fun B => ?_
  simp only [Try.ntmps208, enumD, List.map_nil, List.map_cons, List.length_map, Nat.zero_add, Nat.reduceAdd]
  repeat' first
    | exact Bool.noConfusion h
    | refine sw_seq ?_
    | refine sw_block ?_
    | refine sw_skip ?_
    | refine sw_inBlock ?_
    | refine sw_go 0 kp208 fun K hK => ?_
    | refine fun (K : List Oper → LS → Prop) (hK : KOk S 0 _ _ _ K) => ?_
    | ((first | refine runL_go ?_ | refine runQ_go ?_); simp (disch := (refine Om.mk ?_; omega)) only [go_sem, Nat.reduceAdd, Nat.reduceMul, Nat.reduceLT, Nat.reduceLeDiff, Nat.reduceEqDiff, Nat.reduceBEq, Nat.reduceSub, ↓reduceIte, reduceCtorEq])
    | (refine hK.nil ?_; clear hK K; simp only [go_sem, Nat.reduceAdd, Nat.reduceMul, Nat.reduceLT, Nat.reduceLeDiff, Nat.reduceEqDiff, Nat.reduceBEq, Nat.reduceSub, ↓reduceIte, reduceCtorEq])
    | (refine sw_cond rfl (fun h => ?_) (fun h => ?_) <;> (try simp (disch := (refine Om.mk ?_; omega)) only [go_sem, Nat.reduceAdd, Nat.reduceMul, Nat.reduceLT, Nat.reduceLeDiff, Nat.reduceEqDiff, Nat.reduceBEq, Nat.reduceSub, ↓reduceIte, reduceCtorEq] at h))
    | (refine sw_exit rfl ?_)
    | (refine sw_loopEnd ?_)
    | ((first | refine sw_ret (ret0 ?_) | refine sw_ret ?_); simp (disch := (refine Om.mk ?_; omega)) only [go_sem, Nat.reduceAdd, Nat.reduceMul, Nat.reduceLT, Nat.reduceLeDiff, Nat.reduceEqDiff, Nat.reduceBEq, Nat.reduceSub, ↓reduceIte, reduceCtorEq, Try.results208])
    | (with_reducible refine And.intro (by first | omega | (simp only [List.length_append, List.length_take, List.length_drop, List.length_cons, List.length_nil]; omega)) ?_)
    | ((with_reducible refine And.intro ?_ ?_); · first | (intro x hx; subst hx; rfl) | exact upR_mem fun _ _ => rfl | exact mapR_mem fun _ _ => rfl | (intro x; refine And.intro ?_ ?_ <;> (intros; subst_vars; rfl)))
    | fail
  refine sw_loopU (ι := Nat) (fun i => [(5, .int .i64 i), (0, .sl .any ((withL vars (t.take i)).map (.int .i64)))]) (fun _ => []) (fun i => i ≤ t.length ∧ (True)) (fun i => t.length - i) 0 (by (refine covers_mk0 rfl rfl ?_ ?_ ?_ ?_ <;> simp (disch := (refine Om.mk ?_; omega)) only [go_sem, Nat.reduceAdd, Nat.reduceMul, Nat.reduceLT, Nat.reduceLeDiff, Nat.reduceEqDiff, Nat.reduceBEq, Nat.reduceSub, ↓reduceIte, reduceCtorEq] <;> (try omega)); exact ⟨rfl, rfl⟩) ⟨by omega, ?_⟩ (fun i ⟨hi, hj⟩ => ?_)
  rotate_left
  simp only [go_sem, Nat.reduceAdd, Nat.reduceMul, Nat.reduceLT, Nat.reduceLeDiff, Nat.reduceEqDiff, Nat.reduceBEq, Nat.reduceSub, ↓reduceIte, reduceCtorEq]
  have hi24 : i < t.length → -24 ≤ t.getD i default := fun h => hx _ (getD_mem t i h)
  have hlen := withL_len (t.take i) vars
  have hlt : (t.take i).length ≤ 60 := by simp; omega
  have hsn := withL_snoc vars t i
  repeat' first
    | exact Bool.noConfusion h
    | refine sw_seq ?_
    | refine sw_block ?_
    | refine sw_skip ?_
    | refine sw_inBlock ?_
    | refine sw_go 0 kp208 fun K hK => ?_
    | refine fun (K : List Oper → LS → Prop) (hK : KOk S 0 _ _ _ K) => ?_
    | ((first | refine runL_go ?_ | refine runQ_go ?_); simp (disch := (refine Om.mk ?_; omega)) only [go_sem, Nat.reduceAdd, Nat.reduceMul, Nat.reduceLT, Nat.reduceLeDiff, Nat.reduceEqDiff, Nat.reduceBEq, Nat.reduceSub, ↓reduceIte, reduceCtorEq])
    | (refine hK.nil ?_; clear hK K; simp only [go_sem, Nat.reduceAdd, Nat.reduceMul, Nat.reduceLT, Nat.reduceLeDiff, Nat.reduceEqDiff, Nat.reduceBEq, Nat.reduceSub, ↓reduceIte, reduceCtorEq])
    | (refine sw_cond rfl (fun h => ?_) (fun h => ?_) <;> (try simp (disch := (refine Om.mk ?_; omega)) only [go_sem, Nat.reduceAdd, Nat.reduceMul, Nat.reduceLT, Nat.reduceLeDiff, Nat.reduceEqDiff, Nat.reduceBEq, Nat.reduceSub, ↓reduceIte, reduceCtorEq] at h))
    | (refine sw_exit rfl ?_)
    | (refine sw_loopEnd ?_)
    | ((first | refine sw_ret (ret0 ?_) | refine sw_ret ?_); simp (disch := (refine Om.mk ?_; omega)) only [go_sem, Nat.reduceAdd, Nat.reduceMul, Nat.reduceLT, Nat.reduceLeDiff, Nat.reduceEqDiff, Nat.reduceBEq, Nat.reduceSub, ↓reduceIte, reduceCtorEq, Try.results208])
    | refine hK.call rfl rfl rfl (l1Into_fc _ _ _ (by omega)) ⟨(by intro p hp; cases hp), rfl, rfl, (by simp only [dstOk, Nat.reduceLT])⟩ ?_
    | (with_reducible refine And.intro (by first | omega | (simp only [List.length_append, List.length_take, List.length_drop, List.length_cons, List.length_nil]; omega)) ?_)
    | ((with_reducible refine And.intro ?_ ?_); · first | (intro x hx; subst hx; rfl) | exact upR_mem fun _ _ => rfl | exact mapR_mem fun _ _ => rfl | (intro x; refine And.intro ?_ ?_ <;> (intros; subst_vars; rfl)))
    | fail
  · refine ⟨i + 1, (by (refine covers_mk0 rfl rfl ?_ ?_ ?_ ?_ <;> simp (disch := (refine Om.mk ?_; omega)) only [go_sem, Nat.reduceAdd, Nat.reduceMul, Nat.reduceLT, Nat.reduceLeDiff, Nat.reduceEqDiff, Nat.reduceBEq, Nat.reduceSub, ↓reduceIte, reduceCtorEq] <;> (try omega)); rw [hsn (by omega), if_pos h]; exact ⟨rfl, by omega⟩), by omega, by omega⟩
  · refine ⟨i + 1, (by (refine covers_mk0 rfl rfl ?_ ?_ ?_ ?_ <;> simp (disch := (refine Om.mk ?_; omega)) only [go_sem, Nat.reduceAdd, Nat.reduceMul, Nat.reduceLT, Nat.reduceLeDiff, Nat.reduceEqDiff, Nat.reduceBEq, Nat.reduceSub, ↓reduceIte, reduceCtorEq] <;> (try omega)); rw [hsn (by omega), if_neg (by omega)]; exact ⟨rfl, by omega⟩), by omega, by omega⟩
  · rw [List.take_of_length_le (by omega)]
  · trivial
def kp264 : List (Nat × List Nat) := [(0, [0, 1]), (1, [0, 1, 5]), (2, [0, 1, 5, 9]), (4, [0, 1, 5, 26]), (5, [4]), (3, [0, 1, 5]), (6, [4])]
attribute [go_sem] kp264
theorem l27Within_fc (tk tk' : Tk) (t vars : List Int) (hx : ∀ x ∈ t, -24 ≤ x) : FC S 264 [] [] [] [.sl tk (t.map (.int .i64)), .sl tk' (vars.map (.int .i64))] (.bool (tst (∀ j < t.length, t.getD j default < 0 → -1 - t.getD j default ∈ vars))) [] [] := by
  refine fc_body Try.func264 rfl (by kernel_rfl) (by simp [Try.f264]) fun B => ?_
  simp only [Try.ntmps264, enumD, List.map_nil, List.map_cons, List.length_map, Nat.zero_add, Nat.reduceAdd]
  refine sw_bnd 0 rfl fun hb0 => ?_
  simp only [D.bnd, List.length_map] at hb0
  repeat' first
    | exact Bool.noConfusion h
    | refine sw_seq ?_
    | refine sw_block ?_
    | refine sw_skip ?_
    | refine sw_inBlock ?_
    | refine sw_go 0 kp264 fun K hK => ?_
    | refine fun (K : List Oper → LS → Prop) (hK : KOk S 0 _ _ _ K) => ?_
    | ((first | refine runL_go ?_ | refine runQ_go ?_); simp (disch := (refine Om.mk ?_; omega)) only [go_sem, Nat.reduceAdd, Nat.reduceMul, Nat.reduceLT, Nat.reduceLeDiff, Nat.reduceEqDiff, Nat.reduceBEq, Nat.reduceSub, ↓reduceIte, reduceCtorEq])
    | (refine hK.nil ?_; clear hK K; simp only [go_sem, Nat.reduceAdd, Nat.reduceMul, Nat.reduceLT, Nat.reduceLeDiff, Nat.reduceEqDiff, Nat.reduceBEq, Nat.reduceSub, ↓reduceIte, reduceCtorEq])
    | (refine runG_fork rfl rfl rfl rfl rfl (fun h => ?_) (fun h => ?_) <;> (try simp (disch := (refine Om.mk ?_; omega)) only [go_sem, Nat.reduceAdd, Nat.reduceMul, Nat.reduceLT, Nat.reduceLeDiff, Nat.reduceEqDiff, Nat.reduceBEq, Nat.reduceSub, ↓reduceIte, reduceCtorEq] at h))
    | (refine hK.skip rfl (by simp only [dstOk, Nat.reduceLT]) ?_)
    | (refine sw_cond rfl (fun h => ?_) (fun h => ?_) <;> (try simp (disch := (refine Om.mk ?_; omega)) only [go_sem, Nat.reduceAdd, Nat.reduceMul, Nat.reduceLT, Nat.reduceLeDiff, Nat.reduceEqDiff, Nat.reduceBEq, Nat.reduceSub, ↓reduceIte, reduceCtorEq] at h))
    | (refine sw_exit rfl ?_)
    | (refine sw_loopEnd ?_)
    | ((first | refine sw_ret (ret0 ?_) | refine sw_ret ?_); simp (disch := (refine Om.mk ?_; omega)) only [go_sem, Nat.reduceAdd, Nat.reduceMul, Nat.reduceLT, Nat.reduceLeDiff, Nat.reduceEqDiff, Nat.reduceBEq, Nat.reduceSub, ↓reduceIte, reduceCtorEq, Try.results264])
    | (refine hK.fork rfl rfl rfl (fun h => ?_) (fun h => ?_) <;> (try simp (disch := (refine Om.mk ?_; omega)) only [go_sem, Nat.reduceAdd, Nat.reduceMul, Nat.reduceLT, Nat.reduceLeDiff, Nat.reduceEqDiff, Nat.reduceBEq, Nat.reduceSub, ↓reduceIte, reduceCtorEq] at h))
    | (with_reducible refine And.intro (by first | omega | (simp only [List.length_append, List.length_take, List.length_drop, List.length_cons, List.length_nil]; omega)) ?_)
    | ((with_reducible refine And.intro ?_ ?_); · first | (intro x hx; subst hx; rfl) | exact upR_mem fun _ _ => rfl | exact mapR_mem fun _ _ => rfl | (intro x; refine And.intro ?_ ?_ <;> (intros; subst_vars; rfl)))
    | fail
  refine sw_loopU (ι := Nat) (fun i => [(5, .int .i64 i)]) (fun _ => []) (fun i => i ≤ t.length ∧ (∀ j < i, t.getD j default < 0 → -1 - t.getD j default ∈ vars)) (fun i => t.length - i) 0 (by (refine covers_mk0 rfl rfl ?_ ?_ ?_ ?_ <;> simp (disch := (refine Om.mk ?_; omega)) only [go_sem, Nat.reduceAdd, Nat.reduceMul, Nat.reduceLT, Nat.reduceLeDiff, Nat.reduceEqDiff, Nat.reduceBEq, Nat.reduceSub, ↓reduceIte, reduceCtorEq] <;> (try omega))) ⟨by omega, ?_⟩ (fun i ⟨hi, hj⟩ => ?_)
  rotate_left
  simp only [go_sem, Nat.reduceAdd, Nat.reduceMul, Nat.reduceLT, Nat.reduceLeDiff, Nat.reduceEqDiff, Nat.reduceBEq, Nat.reduceSub, ↓reduceIte, reduceCtorEq]
  have hi24 : i < t.length → -24 ≤ t.getD i default := fun h => hx _ (getD_mem t i h)
  repeat' first
    | exact Bool.noConfusion h
    | refine sw_seq ?_
    | refine sw_block ?_
    | refine sw_skip ?_
    | refine sw_inBlock ?_
    | refine sw_go 0 kp264 fun K hK => ?_
    | refine fun (K : List Oper → LS → Prop) (hK : KOk S 0 _ _ _ K) => ?_
    | ((first | refine runL_go ?_ | refine runQ_go ?_); simp (disch := (refine Om.mk ?_; omega)) only [go_sem, Nat.reduceAdd, Nat.reduceMul, Nat.reduceLT, Nat.reduceLeDiff, Nat.reduceEqDiff, Nat.reduceBEq, Nat.reduceSub, ↓reduceIte, reduceCtorEq])
    | (refine hK.nil ?_; clear hK K; simp only [go_sem, Nat.reduceAdd, Nat.reduceMul, Nat.reduceLT, Nat.reduceLeDiff, Nat.reduceEqDiff, Nat.reduceBEq, Nat.reduceSub, ↓reduceIte, reduceCtorEq])
    | (refine runG_fork rfl rfl rfl rfl rfl (fun h => ?_) (fun h => ?_) <;> (try simp (disch := (refine Om.mk ?_; omega)) only [go_sem, Nat.reduceAdd, Nat.reduceMul, Nat.reduceLT, Nat.reduceLeDiff, Nat.reduceEqDiff, Nat.reduceBEq, Nat.reduceSub, ↓reduceIte, reduceCtorEq] at h))
    | (refine hK.skip rfl (by simp only [dstOk, Nat.reduceLT]) ?_)
    | (refine sw_cond rfl (fun h => ?_) (fun h => ?_) <;> (try simp (disch := (refine Om.mk ?_; omega)) only [go_sem, Nat.reduceAdd, Nat.reduceMul, Nat.reduceLT, Nat.reduceLeDiff, Nat.reduceEqDiff, Nat.reduceBEq, Nat.reduceSub, ↓reduceIte, reduceCtorEq] at h))
    | (refine sw_exit rfl ?_)
    | (refine sw_loopEnd ?_)
    | ((first | refine sw_ret (ret0 ?_) | refine sw_ret ?_); simp (disch := (refine Om.mk ?_; omega)) only [go_sem, Nat.reduceAdd, Nat.reduceMul, Nat.reduceLT, Nat.reduceLeDiff, Nat.reduceEqDiff, Nat.reduceBEq, Nat.reduceSub, ↓reduceIte, reduceCtorEq, Try.results264])
    | refine hK.call rfl rfl rfl (l1Has_fc _ _ _) ⟨(by intro p hp; cases hp), rfl, rfl, (by simp only [dstOk, Nat.reduceLT])⟩ ?_
    | (refine hK.fork rfl rfl rfl (fun h => ?_) (fun h => ?_) <;> (try simp (disch := (refine Om.mk ?_; omega)) only [go_sem, Nat.reduceAdd, Nat.reduceMul, Nat.reduceLT, Nat.reduceLeDiff, Nat.reduceEqDiff, Nat.reduceBEq, Nat.reduceSub, ↓reduceIte, reduceCtorEq] at h))
    | (with_reducible refine And.intro (by first | omega | (simp only [List.length_append, List.length_take, List.length_drop, List.length_cons, List.length_nil]; omega)) ?_)
    | ((with_reducible refine And.intro ?_ ?_); · first | (intro x hx; subst hx; rfl) | exact upR_mem fun _ _ => rfl | exact mapR_mem fun _ _ => rfl | (intro x; refine And.intro ?_ ?_ <;> (intros; subst_vars; rfl)))
    | fail
  · intro h2; exact h (h2 i (by omega) (by assumption))
  · exact ⟨i + 1, by (refine covers_mk0 rfl rfl ?_ ?_ ?_ ?_ <;> simp (disch := (refine Om.mk ?_; omega)) only [go_sem, Nat.reduceAdd, Nat.reduceMul, Nat.reduceLT, Nat.reduceLeDiff, Nat.reduceEqDiff, Nat.reduceBEq, Nat.reduceSub, ↓reduceIte, reduceCtorEq] <;> (try omega)), ⟨by omega, upto_succ hj fun _ => h⟩, by omega⟩
  · exact ⟨i + 1, by (refine covers_mk0 rfl rfl ?_ ?_ ?_ ?_ <;> simp (disch := (refine Om.mk ?_; omega)) only [go_sem, Nat.reduceAdd, Nat.reduceMul, Nat.reduceLT, Nat.reduceLeDiff, Nat.reduceEqDiff, Nat.reduceBEq, Nat.reduceSub, ↓reduceIte, reduceCtorEq] <;> (try omega)), ⟨by omega, upto_succ hj fun h0 => by omega⟩, by omega⟩
  · exact fun j hj' => hj j (by omega)
  · intro j hj'; omega
end Go.Proofs.Ytgbcnhbmfjkhmaa
