/-
  ClashesOf: the specification.
-/
import Derived.Test.YtlcdahaihlflaaaU09
namespace Go.Proofs.Ytlcdahaihlflaaa
open Go Go.Lg
set_option linter.unusedSimpArgs false
set_option linter.unusedVariables false
set_option maxHeartbeats 4000000
attribute [local irreducible] SW runL runQ runG runQG FC Ret1
open Classical in
noncomputable def clRow (M : Nat → Nat → Prop) (i : Nat) : Nat → List (List Int)
  | 0 => []
  | j + 1 => clRow M i j ++ if M i (i + 1 + j) then [[(i : Int), ((i + 1 + j : Nat) : Int)]] else []
noncomputable def clTo (M : Nat → Nat → Prop) (n : Nat) : Nat → List (List Int)
  | 0 => []
  | i + 1 => clTo M n i ++ clRow M i (n - (i + 1))
theorem clRow_z (M : Nat → Nat → Prop) (i : Nat) : clRow M i 0 = [] := rfl
theorem clRow_y {M : Nat → Nat → Prop} {i j : Nat} (h : M i (i + 1 + j)) : clRow M i (j + 1) = clRow M i j ++ [[(i : Int), ((i + 1 + j : Nat) : Int)]] := by rw [clRow, if_pos h]
theorem clRow_n {M : Nat → Nat → Prop} {i j : Nat} (h : ¬ M i (i + 1 + j)) : clRow M i (j + 1) = clRow M i j := by rw [clRow, if_neg h, List.append_nil]
theorem clRow_len (M : Nat → Nat → Prop) (i : Nat) : ∀ j, (clRow M i j).length ≤ j
  | 0 => Nat.le_refl _
  | j + 1 => by
    have := clRow_len M i j
    by_cases h : M i (i + 1 + j)
    · rw [clRow_y h]; simp; omega
    · rw [clRow_n h]; omega
theorem clTo_z (M : Nat → Nat → Prop) (n : Nat) : clTo M n 0 = [] := rfl
theorem clTo_s (M : Nat → Nat → Prop) (n i : Nat) : clTo M n (i + 1) = clTo M n i ++ clRow M i (n - (i + 1)) := rfl
theorem clTo_len (M : Nat → Nat → Prop) (n : Nat) : ∀ i, (clTo M n i).length ≤ i * n
  | 0 => Nat.zero_le _
  | i + 1 => by
    have h1 := clTo_len M n i
    have h2 := clRow_len M i (n - (i + 1))
    rw [clTo_s, List.length_append, Nat.succ_mul]; omega
theorem clTo_len8 (M : Nat → Nat → Prop) {n i : Nat} (hn : n ≤ 8) (hi : i ≤ n) : (clTo M n i).length ≤ 64 := Nat.le_trans (clTo_len M n i) (Nat.mul_le_mul (show i ≤ 8 by omega) hn)
/-- the left sides of two lines are met by one term -/
def clM (f : FrontT) (i k : Nat) : Prop := MeetM f.sig 60 (leftL (f.lines.getD i default)) (leftL (f.lines.getD k default))
open Classical in
noncomputable def clR (f : FrontT) : List (List Int) := if FrontOkP f then clTo (clM f) f.lines.length f.lines.length else []
theorem clR_yes {f : FrontT} (h : FrontOkP f) : clR f = clTo (clM f) f.lines.length f.lines.length := if_pos h
theorem clR_no {f : FrontT} (h : ¬ FrontOkP f) : clR f = [] := if_neg h
theorem left_ok {f : FrontT} (h : FrontOkP f) {j : Nat} (hj : j < f.lines.length) : TermOkP f.sig (leftL (f.lines.getD j default)) ∧ LinP (leftL (f.lines.getD j default)) := (h.2 j hj).2.2.1
def leftsTo (f : FrontT) (i : Nat) : List (List Int) := (f.lines.take i).map leftL
theorem leftsTo_s (f : FrontT) {i : Nat} (h : i < f.lines.length) : leftsTo f (i + 1) = leftsTo f i ++ [leftL (f.lines.getD i default)] := by
  unfold leftsTo
  rw [List.take_succ_eq_append_getElem h, List.map_append, List.getD_eq_getElem?_getD, List.getElem?_eq_getElem h]; rfl
theorem leftsTo_len (f : FrontT) (i : Nat) : (leftsTo f i).length ≤ i := by simp [leftsTo]; omega
def leftsL (f : FrontT) : List (List Int) := f.lines.map leftL
theorem leftsTo_all (f : FrontT) (i : Nat) (h : f.lines.length ≤ i) : leftsTo f i = leftsL f := by unfold leftsTo leftsL; rw [List.take_of_length_le h]
theorem leftsL_len (f : FrontT) : (leftsL f).length = f.lines.length := List.length_map _
theorem leftsL_get (f : FrontT) {i : Nat} (h : i < f.lines.length) : (leftsL f).getD i default = leftL (f.lines.getD i default) := by simp [leftsL, List.getD_eq_getElem?_getD, h]
theorem subS_zeroC {rs t : List Int} (h : TermOkP rs t) : subS rs t 0 = t := by unfold subS; rw [h.2.2, Int.toNat_natCast, List.take_length]; rfl
attribute [local irreducible] leftsTo leftsL clRow clTo MeetM
def kp42 : List (Nat × List Nat) := [(0, [1]), (1, [1, 3]), (2, [1, 3, 4]), (3, [1, 3, 4, 10]), (5, [1, 3, 4]), (4, [1, 3, 4]), (6, [2])]
attribute [go_sem] kp42
theorem l26Lefts_fc (f : FrontT) (h : FrontOkP f) : FC S 42 [] [] [] [FrontD f] (.sl .any ((leftsL f).map IntsD)) [] [] := by
  have hfl := front_len h
  have hn8 := h.1.2.2
  refine fc_body Try.func42 rfl (by kernel_rfl) (by simp [Try.f42]) fun B => ?_
  simp only [Try.ntmps42, enumD, List.map_nil, List.map_cons, List.length_map, Nat.zero_add, Nat.reduceAdd]
  repeat' first
    | exact Bool.noConfusion h
    | refine sw_seq ?_
    | refine sw_block ?_
    | refine sw_skip ?_
    | refine sw_inBlock ?_
    | refine sw_go 0 kp42 fun K hK => ?_
    | refine fun (K : List Oper → LS → Prop) (hK : KOk S 0 _ _ _ K) => ?_
    | ((first | refine runL_go ?_ | refine runQ_go ?_); simp (disch := (refine Om.mk ?_; omega)) only [go_sem])
    | (refine hK.nil ?_; clear hK K; simp only [go_sem])
    | (refine sw_cond rfl (fun h => ?_) (fun h => ?_) <;> (try simp (disch := (refine Om.mk ?_; omega)) only [go_sem] at h))
    | (refine sw_exit rfl ?_)
    | (refine sw_loopEnd ?_)
    | ((first | refine sw_ret (ret0 ?_) | refine sw_ret ?_); simp (disch := (refine Om.mk ?_; omega)) only [go_sem, Try.results42])
    | (with_reducible refine And.intro (by first | omega | (simp only [List.length_append, List.length_take, List.length_drop, List.length_cons, List.length_nil, List.length_map]; omega)) ?_)
    | ((with_reducible refine And.intro ?_ ?_); · first | (intro x hx; subst hx; rfl) | exact upR_mem fun _ _ => rfl | exact mapR_mem fun _ _ => rfl | (intro x; refine And.intro ?_ ?_ <;> (intros; subst_vars; rfl)))
    | fail
  refine sw_tok 3 22000 22 1 rfl (.inr rfl) rfl ?_
  simp only [go_sem]
  refine sw_loopT (ι := Nat) (fun i => [(4, .int .i64 i), (3, .sl (.own 22000 22 1) ((leftsTo f i).map IntsD))]) (fun _ => []) (fun _ => [22000]) (fun i => i ≤ f.lines.length) (fun i => f.lines.length - i) 0 (by (refine covers_mk0 rfl rfl ?_ ?_ ?_ ?_ <;> simp (disch := (refine Om.mk ?_; omega)) only [go_sem] <;> (try omega)); all_goals first | rfl | (simp [leftsTo]; done) | trace_state) (by omega) (fun i hi => ?_)
  simp only [go_sem]
  have hll := leftsTo_len f i
  by_cases hil : i < f.lines.length
  · have c := l26Left_fc (f.lines.getD i default) (by have := (hfl i hil).2.1; omega) (hfl i hil).1
    repeat' first
      | ((exfalso; omega))
      | exact Bool.noConfusion h
      | refine sw_seq ?_
      | refine sw_block ?_
      | refine sw_skip ?_
      | refine sw_inBlock ?_
      | refine sw_go 0 kp42 fun K hK => ?_
      | refine fun (K : List Oper → LS → Prop) (hK : KOk S 0 _ _ _ K) => ?_
      | ((first | refine runL_go ?_ | refine runQ_go ?_); simp (disch := (refine Om.mk ?_; omega)) only [go_sem])
      | (refine hK.nil ?_; clear hK K; simp only [go_sem])
      | (refine sw_cond rfl (fun h => ?_) (fun h => ?_) <;> (try simp (disch := (refine Om.mk ?_; omega)) only [go_sem] at h))
      | (refine sw_exit rfl ?_)
      | (refine sw_loopEnd ?_)
      | ((first | refine sw_ret (ret0 ?_) | refine sw_ret ?_); simp (disch := (refine Om.mk ?_; omega)) only [go_sem, Try.results42])
      | refine hK.call rfl rfl rfl (c) ⟨(by intro p hp; cases hp), rfl, rfl, (by simp only [dstOk, Nat.reduceLT])⟩ ?_
      | (with_reducible refine And.intro (by first | omega | (simp only [List.length_append, List.length_take, List.length_drop, List.length_cons, List.length_nil, List.length_map]; omega)) ?_)
      | ((with_reducible refine And.intro ?_ ?_); · first | (intro x hx; subst hx; rfl) | exact upR_mem fun _ _ => rfl | exact mapR_mem fun _ _ => rfl | (intro x; refine And.intro ?_ ?_ <;> (intros; subst_vars; rfl)))
      | fail
    exact ⟨i + 1, (by rw [leftsTo_s f hil, List.map_append]; (refine covers_mk0 rfl rfl ?_ ?_ ?_ ?_ <;> simp (disch := (refine Om.mk ?_; omega)) only [go_sem] <;> (try omega)); all_goals first | rfl | exact ⟨rfl, by omega⟩ | trace_state), by omega, by omega⟩
  · repeat' first
      | ((exfalso; omega))
      | exact Bool.noConfusion h
      | refine sw_seq ?_
      | refine sw_block ?_
      | refine sw_skip ?_
      | refine sw_inBlock ?_
      | refine sw_go 0 kp42 fun K hK => ?_
      | refine fun (K : List Oper → LS → Prop) (hK : KOk S 0 _ _ _ K) => ?_
      | ((first | refine runL_go ?_ | refine runQ_go ?_); simp (disch := (refine Om.mk ?_; omega)) only [go_sem])
      | (refine hK.nil ?_; clear hK K; simp only [go_sem])
      | (refine sw_cond rfl (fun h => ?_) (fun h => ?_) <;> (try simp (disch := (refine Om.mk ?_; omega)) only [go_sem] at h))
      | (refine sw_exit rfl ?_)
      | (refine sw_loopEnd ?_)
      | ((first | refine sw_ret (ret0 ?_) | refine sw_ret ?_); simp (disch := (refine Om.mk ?_; omega)) only [go_sem, Try.results42])
      | (with_reducible refine And.intro (by first | omega | (simp only [List.length_append, List.length_take, List.length_drop, List.length_cons, List.length_nil, List.length_map]; omega)) ?_)
      | ((with_reducible refine And.intro ?_ ?_); · first | (intro x hx; subst hx; rfl) | exact upR_mem fun _ _ => rfl | exact mapR_mem fun _ _ => rfl | (intro x; refine And.intro ?_ ?_ <;> (intros; subst_vars; rfl)))
      | fail
    rw [leftsTo_all f i (by omega)]
def kp7 : List (Nat × List Nat) := [(0, [1]), (1, [1, 3]), (2, [1, 3, 10]), (3, [2]), (4, [1, 3, 4]), (5, [1, 3, 4, 5]), (6, [1, 3, 4, 5, 17]), (8, [1, 3, 4, 5, 6]), (9, [1, 3, 4, 5, 6, 25]), (11, [1, 3, 4, 5, 6, 38]), (12, [1, 3, 4, 5, 6]), (10, [1, 3, 4, 5, 6]), (7, [1, 3, 4, 5]), (13, [2])]
attribute [go_sem] kp7
theorem specClashesOf_fc (f : FrontT) : FC S 7 [] [] [] [FrontD f] (.sl .any ((clR f).map IntsD)) [] [] := by
  rcases Classical.em (FrontOkP f) with hs | hs
  · have hn8 := hs.1.2.2
    have hok := fun j => @left_ok f hs j
    have hfl := front_len hs
    have hll := leftsL_len f
    have hlg := fun i => @leftsL_get f i
    rw [clR_yes hs]
    refine fc_body Try.func7 rfl (by kernel_rfl) (by simp [Try.f7]) fun B => ?_
    simp only [Try.ntmps7, enumD, List.map_nil, List.map_cons, List.length_map, Nat.zero_add, Nat.reduceAdd]
    repeat' first
      | ((exact absurd hs (by assumption)))
      | ((exfalso; omega))
      | exact Bool.noConfusion h
      | refine sw_seq ?_
      | refine sw_block ?_
      | refine sw_skip ?_
      | refine sw_inBlock ?_
      | refine sw_go 0 kp7 fun K hK => ?_
      | refine fun (K : List Oper → LS → Prop) (hK : KOk S 0 _ _ _ K) => ?_
      | refine sw_goD kp7 (by kernel_rfl) fun K hK => ?_
      | ((first | refine runL_go ?_ | refine runQ_go ?_); simp (disch := (refine Om.mk ?_; omega)) only [go_sem])
      | (refine hK.nil ?_; clear hK K; simp only [go_sem])
      | (refine sw_cond rfl (fun h => ?_) (fun h => ?_) <;> (try simp (disch := (refine Om.mk ?_; omega)) only [go_sem] at h))
      | (refine sw_exit rfl ?_)
      | (refine sw_loopEnd ?_)
      | ((first | refine sw_ret (ret0 ?_) | refine sw_ret ?_); simp (disch := (refine Om.mk ?_; omega)) only [go_sem, Try.results7])
      | refine hK.call rfl rfl rfl (specFrontOk_fc f) ⟨(by intro p hp; cases hp), rfl, rfl, (by simp only [dstOk, Nat.reduceLT])⟩ ?_
      | refine hK.call rfl rfl rfl (l26Lefts_fc f hs) ⟨(by intro p hp; cases hp), rfl, rfl, (by simp only [dstOk, Nat.reduceLT])⟩ ?_
      | (with_reducible refine And.intro (by first | omega | (simp only [List.length_append, List.length_take, List.length_drop, List.length_cons, List.length_nil, List.length_map]; omega)) ?_)
      | ((with_reducible refine And.intro ?_ ?_); · first | (intro x hx; subst hx; rfl) | exact upR_mem fun _ _ => rfl | exact mapR_mem fun _ _ => rfl | (intro x; refine And.intro ?_ ?_ <;> (intros; subst_vars; rfl)))
      | fail
    refine sw_tok 3 45000 22 1 rfl (.inr rfl) rfl ?_
    simp only [go_sem]
    refine sw_loopT (ι := Nat) (fun i => [(5, .int .i64 i), (3, .sl (.own 45000 22 1) ((clTo (clM f) f.lines.length i).map IntsD))]) (fun _ => []) (fun _ => [45000]) (fun i => i ≤ f.lines.length) (fun i => f.lines.length - i) 0 (by rw [clTo_z]; (refine covers_mk0 rfl rfl ?_ ?_ ?_ ?_ <;> simp (disch := (refine Om.mk ?_; omega)) only [go_sem] <;> (try omega)); all_goals first | rfl | trace_state) (by omega) (fun i hi => ?_)
    simp only [go_sem]
    have hl1 := clTo_len8 (clM f) hn8 hi
    by_cases hil : i < f.lines.length
    · repeat' first
        | ((exfalso; omega))
        | exact Bool.noConfusion h
        | refine sw_seq ?_
        | refine sw_block ?_
        | refine sw_skip ?_
        | refine sw_inBlock ?_
        | refine sw_go 0 kp7 fun K hK => ?_
        | refine fun (K : List Oper → LS → Prop) (hK : KOk S 0 _ _ _ K) => ?_
        | refine sw_goD kp7 (by kernel_rfl) fun K hK => ?_
        | ((first | refine runL_go ?_ | refine runQ_go ?_); simp (disch := (refine Om.mk ?_; omega)) only [go_sem])
        | (refine hK.nil ?_; clear hK K; simp only [go_sem])
        | (refine sw_cond rfl (fun h => ?_) (fun h => ?_) <;> (try simp (disch := (refine Om.mk ?_; omega)) only [go_sem] at h))
        | (refine sw_exit rfl ?_)
        | (refine sw_loopEnd ?_)
        | ((first | refine sw_ret (ret0 ?_) | refine sw_ret ?_); simp (disch := (refine Om.mk ?_; omega)) only [go_sem, Try.results7])
        | (with_reducible refine And.intro (by first | omega | (simp only [List.length_append, List.length_take, List.length_drop, List.length_cons, List.length_nil, List.length_map]; omega)) ?_)
        | ((with_reducible refine And.intro ?_ ?_); · first | (intro x hx; subst hx; rfl) | exact upR_mem fun _ _ => rfl | exact mapR_mem fun _ _ => rfl | (intro x; refine And.intro ?_ ?_ <;> (intros; subst_vars; rfl)))
        | fail
      refine sw_loopT (ι := Nat) (fun j => [(6, .int .i64 ((i + 1 + j : Nat) : Int)), (3, .sl (.own 45000 22 1) ((clTo (clM f) f.lines.length i ++ clRow (clM f) i j).map IntsD))]) (fun _ => []) (fun _ => [45000]) (fun j => j ≤ f.lines.length - (i + 1)) (fun j => f.lines.length - (i + 1) - j) 0 (by rw [clRow_z]; (refine covers_mk0 rfl rfl ?_ ?_ ?_ ?_ <;> simp (disch := (refine Om.mk ?_; omega)) only [go_sem] <;> (try omega)); all_goals first | rfl | exact ⟨rfl, by simp⟩ | trace_state) (by omega) (fun j hj => ?_)
      simp only [go_sem]
      have hl2 := clRow_len (clM f) i j
      by_cases hjl : i + 1 + j < f.lines.length
      · have cM := l26Meet_fc f.sig _ _ (hok i hil).1 (hok (i + 1 + j) hjl).1 60 0 0 (by have := (hok i hil).1.2.1; omega) (by have := (hok (i + 1 + j) hjl).1.2.1; omega) (by rw [subS_zeroC (hok i hil).1]; exact (hok i hil).1.2.1.2)
        rw [subS_zeroC (hok i hil).1, subS_zeroC (hok (i + 1 + j) hjl).1, ← hlg i hil, ← hlg (i + 1 + j) hjl] at cM
        have hMe : MeetM f.sig 60 ((leftsL f).getD i default) ((leftsL f).getD (i + 1 + j) default) ↔ clM f i (i + 1 + j) := by rw [hlg i hil, hlg (i + 1 + j) hjl]; exact Iff.rfl
        by_cases hM : clM f i (i + 1 + j)
        · rw [tst_true (hMe.2 hM)] at cM
          repeat' first
            | ((exfalso; omega))
            | exact Bool.noConfusion h
            | refine sw_seq ?_
            | refine sw_block ?_
            | refine sw_skip ?_
            | refine sw_inBlock ?_
            | refine sw_go 0 kp7 fun K hK => ?_
            | refine fun (K : List Oper → LS → Prop) (hK : KOk S 0 _ _ _ K) => ?_
            | refine sw_goD kp7 (by kernel_rfl) fun K hK => ?_
            | ((first | refine runL_go ?_ | refine runQ_go ?_); simp (disch := (refine Om.mk ?_; omega)) only [go_sem])
            | (refine hK.nil ?_; clear hK K; simp only [go_sem])
            | (refine sw_cond rfl (fun h => ?_) (fun h => ?_) <;> (try simp (disch := (refine Om.mk ?_; omega)) only [go_sem] at h))
            | (refine sw_exit rfl ?_)
            | (refine sw_loopEnd ?_)
            | ((first | refine sw_ret (ret0 ?_) | refine sw_ret ?_); simp (disch := (refine Om.mk ?_; omega)) only [go_sem, Try.results7])
            | refine hK.call rfl rfl rfl (cM) ⟨(by intro p hp; cases hp), rfl, rfl, (by simp only [dstOk, Nat.reduceLT])⟩ ?_
            | (with_reducible refine And.intro (by first | omega | (simp only [List.length_append, List.length_take, List.length_drop, List.length_cons, List.length_nil, List.length_map]; omega)) ?_)
            | ((with_reducible refine And.intro ?_ ?_); · first | (intro x hx; subst hx; rfl) | exact upR_mem fun _ _ => rfl | exact mapR_mem fun _ _ => rfl | (intro x; refine And.intro ?_ ?_ <;> (intros; subst_vars; rfl)))
            | fail
          all_goals first | exact ⟨j + 1, (by rw [clRow_y hM, ← List.append_assoc]; (refine covers_mk0 rfl rfl ?_ ?_ ?_ ?_ <;> simp (disch := (refine Om.mk ?_; omega)) only [go_sem] <;> (try omega)); all_goals first | rfl | (refine ⟨?_, by omega⟩; rw [List.map_append (l₁ := clTo (clM f) f.lines.length i ++ clRow (clM f) i j)]; rfl) | exact ⟨by omega, rfl⟩ | exact ⟨rfl, by omega⟩ | trace_state), by omega, by omega⟩ | trace_state
        · rw [show tst _ = false from tst_not.2 (fun h => hM (hMe.1 h))] at cM
          repeat' first
            | ((exfalso; omega))
            | exact Bool.noConfusion h
            | refine sw_seq ?_
            | refine sw_block ?_
            | refine sw_skip ?_
            | refine sw_inBlock ?_
            | refine sw_go 0 kp7 fun K hK => ?_
            | refine fun (K : List Oper → LS → Prop) (hK : KOk S 0 _ _ _ K) => ?_
            | refine sw_goD kp7 (by kernel_rfl) fun K hK => ?_
            | ((first | refine runL_go ?_ | refine runQ_go ?_); simp (disch := (refine Om.mk ?_; omega)) only [go_sem])
            | (refine hK.nil ?_; clear hK K; simp only [go_sem])
            | (refine sw_cond rfl (fun h => ?_) (fun h => ?_) <;> (try simp (disch := (refine Om.mk ?_; omega)) only [go_sem] at h))
            | (refine sw_exit rfl ?_)
            | (refine sw_loopEnd ?_)
            | ((first | refine sw_ret (ret0 ?_) | refine sw_ret ?_); simp (disch := (refine Om.mk ?_; omega)) only [go_sem, Try.results7])
            | refine hK.call rfl rfl rfl (cM) ⟨(by intro p hp; cases hp), rfl, rfl, (by simp only [dstOk, Nat.reduceLT])⟩ ?_
            | (with_reducible refine And.intro (by first | omega | (simp only [List.length_append, List.length_take, List.length_drop, List.length_cons, List.length_nil, List.length_map]; omega)) ?_)
            | ((with_reducible refine And.intro ?_ ?_); · first | (intro x hx; subst hx; rfl) | exact upR_mem fun _ _ => rfl | exact mapR_mem fun _ _ => rfl | (intro x; refine And.intro ?_ ?_ <;> (intros; subst_vars; rfl)))
            | fail
          all_goals exact ⟨j + 1, (by rw [clRow_n hM]; (refine covers_mk0 rfl rfl ?_ ?_ ?_ ?_ <;> simp (disch := (refine Om.mk ?_; omega)) only [go_sem] <;> (try omega)); all_goals first | rfl | exact ⟨by omega, rfl⟩ | exact ⟨rfl, by omega⟩ | omega | trace_state), by omega, by omega⟩
      · repeat' first
          | ((exfalso; omega))
          | exact Bool.noConfusion h
          | refine sw_seq ?_
          | refine sw_block ?_
          | refine sw_skip ?_
          | refine sw_inBlock ?_
          | refine sw_go 0 kp7 fun K hK => ?_
          | refine fun (K : List Oper → LS → Prop) (hK : KOk S 0 _ _ _ K) => ?_
          | refine sw_goD kp7 (by kernel_rfl) fun K hK => ?_
          | ((first | refine runL_go ?_ | refine runQ_go ?_); simp (disch := (refine Om.mk ?_; omega)) only [go_sem])
          | (refine hK.nil ?_; clear hK K; simp only [go_sem])
          | (refine sw_cond rfl (fun h => ?_) (fun h => ?_) <;> (try simp (disch := (refine Om.mk ?_; omega)) only [go_sem] at h))
          | (refine sw_exit rfl ?_)
          | (refine sw_loopEnd ?_)
          | ((first | refine sw_ret (ret0 ?_) | refine sw_ret ?_); simp (disch := (refine Om.mk ?_; omega)) only [go_sem, Try.results7])
          | (with_reducible refine And.intro (by first | omega | (simp only [List.length_append, List.length_take, List.length_drop, List.length_cons, List.length_nil, List.length_map]; omega)) ?_)
          | ((with_reducible refine And.intro ?_ ?_); · first | (intro x hx; subst hx; rfl) | exact upR_mem fun _ _ => rfl | exact mapR_mem fun _ _ => rfl | (intro x; refine And.intro ?_ ?_ <;> (intros; subst_vars; rfl)))
          | fail
        exact ⟨i + 1, (by rw [clTo_s, show f.lines.length - (i + 1) = j by omega]; (refine covers_mk0 rfl rfl ?_ ?_ ?_ ?_ <;> simp (disch := (refine Om.mk ?_; omega)) only [go_sem] <;> (try omega)); all_goals first | rfl | exact ⟨by omega, rfl⟩ | exact ⟨rfl, by omega⟩ | omega | trace_state), by omega, by omega⟩
    · repeat' first
        | ((exfalso; omega))
        | exact Bool.noConfusion h
        | refine sw_seq ?_
        | refine sw_block ?_
        | refine sw_skip ?_
        | refine sw_inBlock ?_
        | refine sw_go 0 kp7 fun K hK => ?_
        | refine fun (K : List Oper → LS → Prop) (hK : KOk S 0 _ _ _ K) => ?_
        | refine sw_goD kp7 (by kernel_rfl) fun K hK => ?_
        | ((first | refine runL_go ?_ | refine runQ_go ?_); simp (disch := (refine Om.mk ?_; omega)) only [go_sem])
        | (refine hK.nil ?_; clear hK K; simp only [go_sem])
        | (refine sw_cond rfl (fun h => ?_) (fun h => ?_) <;> (try simp (disch := (refine Om.mk ?_; omega)) only [go_sem] at h))
        | (refine sw_exit rfl ?_)
        | (refine sw_loopEnd ?_)
        | ((first | refine sw_ret (ret0 ?_) | refine sw_ret ?_); simp (disch := (refine Om.mk ?_; omega)) only [go_sem, Try.results7])
        | (with_reducible refine And.intro (by first | omega | (simp only [List.length_append, List.length_take, List.length_drop, List.length_cons, List.length_nil, List.length_map]; omega)) ?_)
        | ((with_reducible refine And.intro ?_ ?_); · first | (intro x hx; subst hx; rfl) | exact upR_mem fun _ _ => rfl | exact mapR_mem fun _ _ => rfl | (intro x; refine And.intro ?_ ?_ <;> (intros; subst_vars; rfl)))
        | fail
      rw [show i = f.lines.length by omega]
  · rw [clR_no hs]
    refine fc_body Try.func7 rfl (by kernel_rfl) (by simp [Try.f7]) fun B => ?_
    simp only [Try.ntmps7, enumD, List.map_nil, List.map_cons, List.length_map, Nat.zero_add, Nat.reduceAdd]
    repeat' first
      | ((exact absurd (by assumption) hs))
      | exact Bool.noConfusion h
      | refine sw_seq ?_
      | refine sw_block ?_
      | refine sw_skip ?_
      | refine sw_inBlock ?_
      | refine sw_go 0 kp7 fun K hK => ?_
      | refine fun (K : List Oper → LS → Prop) (hK : KOk S 0 _ _ _ K) => ?_
      | refine sw_goD kp7 (by kernel_rfl) fun K hK => ?_
      | ((first | refine runL_go ?_ | refine runQ_go ?_); simp (disch := (refine Om.mk ?_; omega)) only [go_sem])
      | (refine hK.nil ?_; clear hK K; simp only [go_sem])
      | (refine sw_cond rfl (fun h => ?_) (fun h => ?_) <;> (try simp (disch := (refine Om.mk ?_; omega)) only [go_sem] at h))
      | (refine sw_exit rfl ?_)
      | (refine sw_loopEnd ?_)
      | ((first | refine sw_ret (ret0 ?_) | refine sw_ret ?_); simp (disch := (refine Om.mk ?_; omega)) only [go_sem, Try.results7])
      | refine hK.call rfl rfl rfl (specFrontOk_fc f) ⟨(by intro p hp; cases hp), rfl, rfl, (by simp only [dstOk, Nat.reduceLT])⟩ ?_
      | (with_reducible refine And.intro (by first | omega | (simp only [List.length_append, List.length_take, List.length_drop, List.length_cons, List.length_nil, List.length_map]; omega)) ?_)
      | ((with_reducible refine And.intro ?_ ?_); · first | (intro x hx; subst hx; rfl) | exact upR_mem fun _ _ => rfl | exact mapR_mem fun _ _ => rfl | (intro x; refine And.intro ?_ ?_ <;> (intros; subst_vars; rfl)))
      | fail
    all_goals trace_state
end Go.Proofs.Ytlcdahaihlflaaa
