/-
  WholeIn of the reference.
-/
import Derived.Test.YtlpaodfkmafjjaaA23w
namespace Go.Proofs.Ytlpaodfkmafjjaa
open Go Go.Lg
set_option linter.unusedSimpArgs false
set_option linter.unusedVariables false
set_option maxHeartbeats 4000000
attribute [local irreducible] SW runL runQ runG runQG FC Ret1
def FoundAt (a : AutoT) (f : Nat) (l : List Int) (k : Nat) : Prop := (a.rules.getD k default).sym = (f : Int) ∧ (a.rules.getD k default).args = l
def FoundP (a : AutoT) (f : Nat) (l : List Int) : Prop := ∃ k < a.rules.length, FoundAt a f l k
def WholeS (rs : List Int) (a : AutoT) : Prop := AutoOkP rs a ∧ WholeP rs a
theorem whole_impl (rs : List Int) (a : AutoT) : (AutoOkP rs a ∧ totN rs a.states rs.length = distN a a.rules.length) ↔ WholeS rs a :=
  ⟨fun h => ⟨h.1, (whole_iff h.1).1 h.2⟩, fun h => ⟨h.1, (whole_iff h.1).2 h.2⟩⟩
theorem found_succ (a : AutoT) (f : Nat) (l : List Int) (i : Nat) (h : ¬ ∃ k < i, FoundAt a f l k) : (∃ k < i + 1, FoundAt a f l k) ↔ FoundAt a f l i :=
  ⟨fun ⟨k, hk, hf⟩ => by
    rcases Nat.lt_or_ge k i with h1 | h1
    · exact absurd ⟨k, h1, hf⟩ h
    · rwa [show k = i by omega] at hf, fun hf => ⟨i, by omega, hf⟩⟩
/-- the lists ahead of this one are found -/
def Ahead (a : AutoT) (f s n : Nat) (l : List Int) (more : Bool) : Prop := (l.length = n ∧ ValidL s l) ∧ (more = true → ∀ m ∈ allL s n, numR s m.reverse < numR s l.reverse → FoundP a f m) ∧ (more = false → ∀ m ∈ allL s n, FoundP a f m)
theorem validL_rev {s : Nat} {l : List Int} (h : ValidL s l) : ValidL s l.reverse := fun x hx => h x (List.mem_reverse.1 hx)
theorem ahead_start (a : AutoT) (f s n : Nat) (hs : 1 ≤ s) : Ahead a f s n (List.replicate n 0) true := by
  refine ⟨⟨by simp, fun x hx => by rw [(List.mem_replicate.1 hx).2]; omega⟩, fun _ m _ hm => ?_, fun h => by cases h⟩
  exfalso
  rw [List.reverse_replicate] at hm
  have : ∀ k, numR s (List.replicate k 0) = 0 := fun k => by
    induction k with
    | zero => rfl
    | succ k ih => simp [List.replicate_succ, numR, ih]
  rw [this] at hm
  exact Nat.not_lt_zero _ hm
theorem ahead_next {a : AutoT} {f s n : Nat} {l : List Int} (hs : 1 ≤ s) (h : Ahead a f s n l true) (hf : FoundP a f l) : Ahead a f s n (nextL s l).1 (nextL s l).2 ∧ ((nextL s l).2 = true → numR s (nextL s l).1.reverse = numR s l.reverse + 1) := by
  obtain ⟨⟨h1, h2⟩, h3, _⟩ := h
  obtain ⟨i1, i2, i3, i4⟩ := nextR_ok hs (validL_rev h2)
  have key : ∀ m ∈ allL s n, numR s m.reverse ≤ numR s l.reverse → FoundP a f m := fun m hm hle => by
    obtain ⟨q1, q2⟩ := (mem_allL s n m).1 hm
    rcases Nat.lt_or_ge (numR s m.reverse) (numR s l.reverse) with hlt | hge
    · exact h3 rfl m hm hlt
    · have := numR_inj (validL_rev (show ValidL s m from q2)) (validL_rev h2) (by simp [q1, h1]) (by omega)
      rw [List.reverse_inj.1 this]; exact hf
  unfold nextL
  refine ⟨⟨⟨by simp [i2, h1], fun x hx => i1 x (List.mem_reverse.1 hx)⟩, fun hb m hm hlt => ?_, fun hb m hm => ?_⟩, fun hb => ?_⟩
  · simp only [List.reverse_reverse] at hlt
    rw [i3 hb] at hlt
    exact key m hm (by omega)
  · obtain ⟨q1, q2⟩ := (mem_allL s n m).1 hm
    have := numR_lt (validL_rev (show ValidL s m from q2))
    have h5 := i4 hb
    simp only [List.length_reverse] at this h5
    rw [q1] at this
    rw [h1] at h5
    exact key m hm (by omega)
  · simp only [List.reverse_reverse]
    exact i3 hb
def kp52 : List (Nat × List Nat) := [(0, [2, 3]), (1, [2, 3, 13]), (2, [4]), (3, [2, 3, 5]), (4, [2, 3, 5, 18]), (6, [2, 3, 5, 6]), (7, [2, 3, 5, 6, 7]), (8, [2, 3, 5, 6, 27]), (10, [2, 3, 5, 6, 8]), (11, [2, 3, 5, 6, 8, 9]), (12, [2, 3, 5, 6, 8, 9, 43]), (14, [2, 3, 5, 6, 8, 9]), (13, [2, 3, 5, 6, 8, 9]), (15, [2, 3, 5, 6, 65]), (16, [4]), (9, [2, 3, 5, 6, 7]), (5, [2, 3, 5]), (17, [4])]
attribute [go_sem] kp52
theorem specWholeIn_fc (tk : Tk) (rs : List Int) (a : AutoT) : FC S 52 [] [] [] [.agg [.sl tk (rs.map (.int .i64))], AutoD a] (.bool (tst (WholeS rs a))) [] [] := by
  rcases Classical.em (AutoOkP rs a) with hs | hs
  · obtain ⟨⟨hsg, ⟨hs1, hs2⟩, hrl, _⟩, _⟩ := id hs
    have hsl := hsg.1.2
    obtain ⟨s, hse⟩ : ∃ s : Nat, a.states = s := ⟨a.states.toNat, by omega⟩
    have hst : a.states.toNat = s := by omega
    have hW : WholeS rs a ↔ ∀ f < rs.length, ∀ l ∈ allL s (rs.getD f default).toNat, FoundP a f l := by
      rw [← hst]
      exact ⟨fun h => h.2, fun h => ⟨hs, h⟩⟩
    rw [tst_congr hW]
    refine FC.args (args' := [.agg [.sl .any (rs.map (.int .i64))], AutoD a]) ?_ (by simp only [go_sem, Nat.reduceAdd, Nat.reduceMul, Nat.reduceLT, Nat.reduceLeDiff, Nat.reduceEqDiff, Nat.reduceBEq, Nat.reduceSub, ↓reduceIte, reduceCtorEq])
    refine fc_body Try.func52 rfl (by kernel_rfl) (by simp [Try.f52]) fun B => ?_
    simp only [Try.ntmps52, enumD, List.map_nil, List.map_cons, List.length_map, Nat.zero_add, Nat.reduceAdd]
    refine sw_bnd_agg 0 0 rfl rfl fun hb0_0 => ?_
    simp only [D.bnd, List.length_map] at hb0_0
    refine sw_bnd_agg 1 1 rfl rfl fun hb1_1 => ?_
    simp only [D.bnd, List.length_map] at hb1_1
    repeat' first
      | exact Bool.noConfusion h
      | refine sw_seq ?_
      | refine sw_block ?_
      | refine sw_skip ?_
      | refine sw_inBlock ?_
      | refine sw_go 0 kp52 fun K hK => ?_
      | refine fun (K : List Oper → LS → Prop) (hK : KOk S 0 _ _ _ K) => ?_
      | refine sw_goD kp52 (by kernel_rfl) fun K hK => ?_
      | ((first | refine runL_go ?_ | refine runQ_go ?_); simp (disch := (refine Om.mk ?_; omega)) only [go_sem, Nat.reduceAdd, Nat.reduceMul, Nat.reduceLT, Nat.reduceLeDiff, Nat.reduceEqDiff, Nat.reduceBEq, Nat.reduceSub, ↓reduceIte, reduceCtorEq])
      | (refine hK.nil ?_; clear hK K; simp only [go_sem, Nat.reduceAdd, Nat.reduceMul, Nat.reduceLT, Nat.reduceLeDiff, Nat.reduceEqDiff, Nat.reduceBEq, Nat.reduceSub, ↓reduceIte, reduceCtorEq])
      | (refine runG_fork rfl rfl rfl rfl rfl (fun h => ?_) (fun h => ?_) <;> (try simp (disch := (refine Om.mk ?_; omega)) only [go_sem, Nat.reduceAdd, Nat.reduceMul, Nat.reduceLT, Nat.reduceLeDiff, Nat.reduceEqDiff, Nat.reduceBEq, Nat.reduceSub, ↓reduceIte, reduceCtorEq] at h))
      | (refine runQG_fork rfl rfl rfl rfl rfl (fun h => ?_) (fun h => ?_) <;> (try simp (disch := (refine Om.mk ?_; omega)) only [go_sem, Nat.reduceAdd, Nat.reduceMul, Nat.reduceLT, Nat.reduceLeDiff, Nat.reduceEqDiff, Nat.reduceBEq, Nat.reduceSub, ↓reduceIte, reduceCtorEq] at h))
      | (refine hK.skip rfl (by simp only [dstOk, Nat.reduceLT]) ?_)
      | (refine sw_cond rfl (fun h => ?_) (fun h => ?_) <;> (try simp (disch := (refine Om.mk ?_; omega)) only [go_sem, Nat.reduceAdd, Nat.reduceMul, Nat.reduceLT, Nat.reduceLeDiff, Nat.reduceEqDiff, Nat.reduceBEq, Nat.reduceSub, ↓reduceIte, reduceCtorEq] at h))
      | (refine sw_exit rfl ?_)
      | (refine sw_loopEnd ?_)
      | ((first | refine sw_ret (ret0 ?_) | refine sw_ret ?_); simp (disch := (refine Om.mk ?_; omega)) only [go_sem, Nat.reduceAdd, Nat.reduceMul, Nat.reduceLT, Nat.reduceLeDiff, Nat.reduceEqDiff, Nat.reduceBEq, Nat.reduceSub, ↓reduceIte, reduceCtorEq, Try.results52])
      | refine hK.call rfl rfl rfl (specAutoOk_fc _ _ a) ⟨(by intro p hp; cases hp), rfl, rfl, (by simp only [dstOk, Nat.reduceLT])⟩ ?_
      | (refine hK.fork rfl rfl rfl (fun h => ?_) (fun h => ?_) <;> (try simp (disch := (refine Om.mk ?_; omega)) only [go_sem, Nat.reduceAdd, Nat.reduceMul, Nat.reduceLT, Nat.reduceLeDiff, Nat.reduceEqDiff, Nat.reduceBEq, Nat.reduceSub, ↓reduceIte, reduceCtorEq] at h))
      | (with_reducible refine And.intro (by first | omega | (simp only [List.length_append, List.length_take, List.length_drop, List.length_cons, List.length_nil]; omega)) ?_)
      | ((with_reducible refine And.intro ?_ ?_); · first | (intro x hx; subst hx; rfl) | exact upR_mem fun _ _ => rfl | (intro x; refine And.intro ?_ ?_ <;> (intros; subst_vars; rfl)))
      | fail
    · exact absurd hs h
    refine sw_loopU (ι := Nat) (fun i => [(5, .int .i64 i)]) (fun _ => []) (fun i => i ≤ rs.length ∧ (∀ j < i, ∀ l ∈ allL s (rs.getD j default).toNat, FoundP a j l)) (fun i => rs.length - i) 0 (by (refine covers_mk0 rfl rfl ?_ ?_ ?_ ?_ <;> simp (disch := (refine Om.mk ?_; omega)) only [go_sem, Nat.reduceAdd, Nat.reduceMul, Nat.reduceLT, Nat.reduceLeDiff, Nat.reduceEqDiff, Nat.reduceBEq, Nat.reduceSub, ↓reduceIte, reduceCtorEq] <;> (try omega))) ⟨by omega, ?_⟩ (fun i ⟨hi, hj⟩ => ?_)
    rotate_left
    simp only [go_sem, Nat.reduceAdd, Nat.reduceMul, Nat.reduceLT, Nat.reduceLeDiff, Nat.reduceEqDiff, Nat.reduceBEq, Nat.reduceSub, ↓reduceIte, reduceCtorEq]
    have hri := hsg.2 i
    repeat' first
      | exact Bool.noConfusion h
      | refine sw_seq ?_
      | refine sw_block ?_
      | refine sw_skip ?_
      | refine sw_inBlock ?_
      | refine sw_go 0 kp52 fun K hK => ?_
      | refine fun (K : List Oper → LS → Prop) (hK : KOk S 0 _ _ _ K) => ?_
      | refine sw_goD kp52 (by kernel_rfl) fun K hK => ?_
      | ((first | refine runL_go ?_ | refine runQ_go ?_); simp (disch := (refine Om.mk ?_; omega)) only [go_sem, Nat.reduceAdd, Nat.reduceMul, Nat.reduceLT, Nat.reduceLeDiff, Nat.reduceEqDiff, Nat.reduceBEq, Nat.reduceSub, ↓reduceIte, reduceCtorEq])
      | (refine hK.nil ?_; clear hK K; simp only [go_sem, Nat.reduceAdd, Nat.reduceMul, Nat.reduceLT, Nat.reduceLeDiff, Nat.reduceEqDiff, Nat.reduceBEq, Nat.reduceSub, ↓reduceIte, reduceCtorEq])
      | (refine runG_fork rfl rfl rfl rfl rfl (fun h => ?_) (fun h => ?_) <;> (try simp (disch := (refine Om.mk ?_; omega)) only [go_sem, Nat.reduceAdd, Nat.reduceMul, Nat.reduceLT, Nat.reduceLeDiff, Nat.reduceEqDiff, Nat.reduceBEq, Nat.reduceSub, ↓reduceIte, reduceCtorEq] at h))
      | (refine runQG_fork rfl rfl rfl rfl rfl (fun h => ?_) (fun h => ?_) <;> (try simp (disch := (refine Om.mk ?_; omega)) only [go_sem, Nat.reduceAdd, Nat.reduceMul, Nat.reduceLT, Nat.reduceLeDiff, Nat.reduceEqDiff, Nat.reduceBEq, Nat.reduceSub, ↓reduceIte, reduceCtorEq] at h))
      | (refine hK.skip rfl (by simp only [dstOk, Nat.reduceLT]) ?_)
      | (refine sw_cond rfl (fun h => ?_) (fun h => ?_) <;> (try simp (disch := (refine Om.mk ?_; omega)) only [go_sem, Nat.reduceAdd, Nat.reduceMul, Nat.reduceLT, Nat.reduceLeDiff, Nat.reduceEqDiff, Nat.reduceBEq, Nat.reduceSub, ↓reduceIte, reduceCtorEq] at h))
      | (refine sw_exit rfl ?_)
      | (refine sw_loopEnd ?_)
      | ((first | refine sw_ret (ret0 ?_) | refine sw_ret ?_); simp (disch := (refine Om.mk ?_; omega)) only [go_sem, Nat.reduceAdd, Nat.reduceMul, Nat.reduceLT, Nat.reduceLeDiff, Nat.reduceEqDiff, Nat.reduceBEq, Nat.reduceSub, ↓reduceIte, reduceCtorEq, Try.results52])
      | (refine hK.fork rfl rfl rfl (fun h => ?_) (fun h => ?_) <;> (try simp (disch := (refine Om.mk ?_; omega)) only [go_sem, Nat.reduceAdd, Nat.reduceMul, Nat.reduceLT, Nat.reduceLeDiff, Nat.reduceEqDiff, Nat.reduceBEq, Nat.reduceSub, ↓reduceIte, reduceCtorEq] at h))
      | (with_reducible refine And.intro (by first | omega | (simp only [List.length_append, List.length_take, List.length_drop, List.length_cons, List.length_nil]; omega)) ?_)
      | ((with_reducible refine And.intro ?_ ?_); · first | (intro x hx; subst hx; rfl) | exact upR_mem fun _ _ => rfl | (intro x; refine And.intro ?_ ?_ <;> (intros; subst_vars; rfl)))
      | fail
    · rename_i hil _
      have hri := hri (by omega)
      obtain ⟨n, hn⟩ : ∃ n : Nat, rs.getD i default = n := ⟨(rs.getD i default).toNat, by omega⟩
      have hnt : (rs.getD i default).toNat = n := by omega
      rw [hnt]
      refine sw_freeze 6 1 .any ((List.replicate n (0 : Int)).map (.int .i64)) rfl rfl (by rw [flatten_one, flat_ints, List.map_replicate]) (by simp) (cells_one fun _ => rfl) (by rw [flatten_one, ← List.map_replicate (f := D.int .i64)]; exact memOk_ints _) (.inl rfl) ?_
      simp only [go_sem, Nat.reduceAdd, Nat.reduceMul, Nat.reduceLT, Nat.reduceLeDiff, Nat.reduceEqDiff, Nat.reduceBEq, Nat.reduceSub, ↓reduceIte, reduceCtorEq]
      refine sw_loopU (ι := List Int × Bool) (fun p => [(6, .sl .any (p.1.map (.int .i64))), (7, .bool p.2)]) (fun p => []) (fun p => Ahead a i s n p.1 p.2) (fun p => (if p.2 = true then s ^ n - numR s p.1.reverse else 0)) (List.replicate n 0, true) (by (refine covers_mk0 rfl rfl ?_ ?_ ?_ ?_ <;> simp (disch := (refine Om.mk ?_; omega)) only [go_sem, Nat.reduceAdd, Nat.reduceMul, Nat.reduceLT, Nat.reduceLeDiff, Nat.reduceEqDiff, Nat.reduceBEq, Nat.reduceSub, ↓reduceIte, reduceCtorEq] <;> (try omega))) ?_ (fun p hp => ?_)
      rotate_left
      simp only [go_sem, Nat.reduceAdd, Nat.reduceMul, Nat.reduceLT, Nat.reduceLeDiff, Nat.reduceEqDiff, Nat.reduceBEq, Nat.reduceSub, ↓reduceIte, reduceCtorEq]
      obtain ⟨l, mr⟩ := p
      dsimp only at hp ⊢
      have hAh := hp
      have hlen := hp.1.1
      have hval := hp.1.2
      have hbx : ∀ x ∈ l, 0 ≤ x ∧ x ≤ 1000 := fun x hx => by have := hval x hx; omega
      repeat' first
        | exact Bool.noConfusion h
        | refine sw_seq ?_
        | refine sw_block ?_
        | refine sw_skip ?_
        | refine sw_inBlock ?_
        | refine sw_go 0 kp52 fun K hK => ?_
        | refine fun (K : List Oper → LS → Prop) (hK : KOk S 0 _ _ _ K) => ?_
        | refine sw_goD kp52 (by kernel_rfl) fun K hK => ?_
        | ((first | refine runL_go ?_ | refine runQ_go ?_); simp (disch := (refine Om.mk ?_; omega)) only [go_sem, Nat.reduceAdd, Nat.reduceMul, Nat.reduceLT, Nat.reduceLeDiff, Nat.reduceEqDiff, Nat.reduceBEq, Nat.reduceSub, ↓reduceIte, reduceCtorEq])
        | (refine hK.nil ?_; clear hK K; simp only [go_sem, Nat.reduceAdd, Nat.reduceMul, Nat.reduceLT, Nat.reduceLeDiff, Nat.reduceEqDiff, Nat.reduceBEq, Nat.reduceSub, ↓reduceIte, reduceCtorEq])
        | (refine runG_fork rfl rfl rfl rfl rfl (fun h => ?_) (fun h => ?_) <;> (try simp (disch := (refine Om.mk ?_; omega)) only [go_sem, Nat.reduceAdd, Nat.reduceMul, Nat.reduceLT, Nat.reduceLeDiff, Nat.reduceEqDiff, Nat.reduceBEq, Nat.reduceSub, ↓reduceIte, reduceCtorEq] at h))
        | (refine runQG_fork rfl rfl rfl rfl rfl (fun h => ?_) (fun h => ?_) <;> (try simp (disch := (refine Om.mk ?_; omega)) only [go_sem, Nat.reduceAdd, Nat.reduceMul, Nat.reduceLT, Nat.reduceLeDiff, Nat.reduceEqDiff, Nat.reduceBEq, Nat.reduceSub, ↓reduceIte, reduceCtorEq] at h))
        | (refine hK.skip rfl (by simp only [dstOk, Nat.reduceLT]) ?_)
        | (refine sw_cond rfl (fun h => ?_) (fun h => ?_) <;> (try simp (disch := (refine Om.mk ?_; omega)) only [go_sem, Nat.reduceAdd, Nat.reduceMul, Nat.reduceLT, Nat.reduceLeDiff, Nat.reduceEqDiff, Nat.reduceBEq, Nat.reduceSub, ↓reduceIte, reduceCtorEq] at h))
        | (refine sw_exit rfl ?_)
        | (refine sw_loopEnd ?_)
        | ((first | refine sw_ret (ret0 ?_) | refine sw_ret ?_); simp (disch := (refine Om.mk ?_; omega)) only [go_sem, Nat.reduceAdd, Nat.reduceMul, Nat.reduceLT, Nat.reduceLeDiff, Nat.reduceEqDiff, Nat.reduceBEq, Nat.reduceSub, ↓reduceIte, reduceCtorEq, Try.results52])
        | (refine hK.fork rfl rfl rfl (fun h => ?_) (fun h => ?_) <;> (try simp (disch := (refine Om.mk ?_; omega)) only [go_sem, Nat.reduceAdd, Nat.reduceMul, Nat.reduceLT, Nat.reduceLeDiff, Nat.reduceEqDiff, Nat.reduceBEq, Nat.reduceSub, ↓reduceIte, reduceCtorEq] at h))
        | (with_reducible refine And.intro (by first | omega | (simp only [List.length_append, List.length_take, List.length_drop, List.length_cons, List.length_nil]; omega)) ?_)
        | ((with_reducible refine And.intro ?_ ?_); · first | (intro x hx; subst hx; rfl) | exact upR_mem fun _ _ => rfl | (intro x; refine And.intro ?_ ?_ <;> (intros; subst_vars; rfl)))
        | fail
      · have hmr : mr = true := h
        subst hmr
        refine sw_loopU (ι := Nat) (fun p => [(9, .int .i64 p), (8, .bool (tst (∃ k < p, FoundAt a i l k)))]) (fun p => []) (fun p => p ≤ a.rules.length) (fun p => a.rules.length - p) 0 (by (refine covers_mk0 rfl rfl ?_ ?_ ?_ ?_ <;> simp (disch := (refine Om.mk ?_; omega)) only [go_sem, Nat.reduceAdd, Nat.reduceMul, Nat.reduceLT, Nat.reduceLeDiff, Nat.reduceEqDiff, Nat.reduceBEq, Nat.reduceSub, ↓reduceIte, reduceCtorEq] <;> (try omega))) ?_ (fun p hp => ?_)
        rotate_left
        simp only [go_sem, Nat.reduceAdd, Nat.reduceMul, Nat.reduceLT, Nat.reduceLeDiff, Nat.reduceEqDiff, Nat.reduceBEq, Nat.reduceSub, ↓reduceIte, reduceCtorEq]
        have hfs := found_succ a i l p
        repeat' first
          | exact Bool.noConfusion h
          | refine sw_seq ?_
          | refine sw_block ?_
          | refine sw_skip ?_
          | refine sw_inBlock ?_
          | refine sw_go 0 kp52 fun K hK => ?_
          | refine fun (K : List Oper → LS → Prop) (hK : KOk S 0 _ _ _ K) => ?_
          | refine sw_goD kp52 (by kernel_rfl) fun K hK => ?_
          | ((first | refine runL_go ?_ | refine runQ_go ?_); simp (disch := (refine Om.mk ?_; omega)) only [go_sem, Nat.reduceAdd, Nat.reduceMul, Nat.reduceLT, Nat.reduceLeDiff, Nat.reduceEqDiff, Nat.reduceBEq, Nat.reduceSub, ↓reduceIte, reduceCtorEq])
          | (refine hK.nil ?_; clear hK K; simp only [go_sem, Nat.reduceAdd, Nat.reduceMul, Nat.reduceLT, Nat.reduceLeDiff, Nat.reduceEqDiff, Nat.reduceBEq, Nat.reduceSub, ↓reduceIte, reduceCtorEq])
          | (refine runG_fork rfl rfl rfl rfl rfl (fun h => ?_) (fun h => ?_) <;> (try simp (disch := (refine Om.mk ?_; omega)) only [go_sem, Nat.reduceAdd, Nat.reduceMul, Nat.reduceLT, Nat.reduceLeDiff, Nat.reduceEqDiff, Nat.reduceBEq, Nat.reduceSub, ↓reduceIte, reduceCtorEq] at h))
          | (refine runQG_fork rfl rfl rfl rfl rfl (fun h => ?_) (fun h => ?_) <;> (try simp (disch := (refine Om.mk ?_; omega)) only [go_sem, Nat.reduceAdd, Nat.reduceMul, Nat.reduceLT, Nat.reduceLeDiff, Nat.reduceEqDiff, Nat.reduceBEq, Nat.reduceSub, ↓reduceIte, reduceCtorEq] at h))
          | (refine hK.skip rfl (by simp only [dstOk, Nat.reduceLT]) ?_)
          | (refine sw_cond rfl (fun h => ?_) (fun h => ?_) <;> (try simp (disch := (refine Om.mk ?_; omega)) only [go_sem, Nat.reduceAdd, Nat.reduceMul, Nat.reduceLT, Nat.reduceLeDiff, Nat.reduceEqDiff, Nat.reduceBEq, Nat.reduceSub, ↓reduceIte, reduceCtorEq] at h))
          | (refine sw_exit rfl ?_)
          | (refine sw_loopEnd ?_)
          | ((first | refine sw_ret (ret0 ?_) | refine sw_ret ?_); simp (disch := (refine Om.mk ?_; omega)) only [go_sem, Nat.reduceAdd, Nat.reduceMul, Nat.reduceLT, Nat.reduceLeDiff, Nat.reduceEqDiff, Nat.reduceBEq, Nat.reduceSub, ↓reduceIte, reduceCtorEq, Try.results52])
          | refine hK.call rfl rfl rfl (specSameTerm_fc _ _ _ _) ⟨(by intro p hp; cases hp), rfl, rfl, (by simp only [dstOk, Nat.reduceLT])⟩ ?_
          | refine hK.call rfl rfl rfl (nextList_fc _ l a.states (by omega) hbx) ⟨(by intro p hp; cases hp), rfl, rfl, (by simp only [dstOk, Nat.reduceLT])⟩ ?_
          | (refine hK.fork rfl rfl rfl (fun h => ?_) (fun h => ?_) <;> (try simp (disch := (refine Om.mk ?_; omega)) only [go_sem, Nat.reduceAdd, Nat.reduceMul, Nat.reduceLT, Nat.reduceLeDiff, Nat.reduceEqDiff, Nat.reduceBEq, Nat.reduceSub, ↓reduceIte, reduceCtorEq] at h))
          | (with_reducible refine And.intro (by first | omega | (simp only [List.length_append, List.length_take, List.length_drop, List.length_cons, List.length_nil]; omega)) ?_)
          | ((with_reducible refine And.intro ?_ ?_); · first | (intro x hx; subst hx; rfl) | exact upR_mem fun _ _ => rfl | (intro x; refine And.intro ?_ ?_ <;> (intros; subst_vars; rfl)))
          | fail
        · refine ⟨p + 1, (by (refine covers_mk0 rfl rfl ?_ ?_ ?_ ?_ <;> simp (disch := (refine Om.mk ?_; omega)) only [go_sem, Nat.reduceAdd, Nat.reduceMul, Nat.reduceLT, Nat.reduceLeDiff, Nat.reduceEqDiff, Nat.reduceBEq, Nat.reduceSub, ↓reduceIte, reduceCtorEq] <;> (try omega)); exact ⟨⟨fun e => (hfs (by assumption)).2 ⟨h, e⟩, fun e => ((hfs (by assumption)).1 e).2⟩, by omega⟩), by omega, by omega⟩
        · refine ⟨p + 1, (by (refine covers_mk0 rfl rfl ?_ ?_ ?_ ?_ <;> simp (disch := (refine Om.mk ?_; omega)) only [go_sem, Nat.reduceAdd, Nat.reduceMul, Nat.reduceLT, Nat.reduceLeDiff, Nat.reduceEqDiff, Nat.reduceBEq, Nat.reduceSub, ↓reduceIte, reduceCtorEq] <;> (try omega)); exact ⟨fun e => h ((hfs (by assumption)).1 e).1, by omega⟩), by omega, by omega⟩
        · exact absurd (by assumption) h
        · obtain ⟨k, hk, hf⟩ := h
          have hF : FoundP a i l := ⟨k, by omega, hf⟩
          have hA := ahead_next (by omega) hAh hF
          rw [← hse] at hA
          have hN := numR_lt (validL_rev hval)
          rw [List.length_reverse, hlen] at hN
          refine ⟨nextL a.states l, (by (refine covers_mk0 rfl rfl ?_ ?_ ?_ ?_ <;> simp (disch := (refine Om.mk ?_; omega)) only [go_sem, Nat.reduceAdd, Nat.reduceMul, Nat.reduceLT, Nat.reduceLeDiff, Nat.reduceEqDiff, Nat.reduceBEq, Nat.reduceSub, ↓reduceIte, reduceCtorEq] <;> (try omega))), hA.1, ?_⟩
          by_cases hb : (nextL a.states l).2 = true
          · simp only [hb, if_true, hA.2 hb]; omega
          · simp only [hb, if_true]; simp; omega
        · intro hw
          obtain ⟨k, hk, hf⟩ := hw i (by omega) l ((mem_allL s (rs.getD i default).toNat l).2 ⟨by omega, hval⟩)
          exact h ⟨k, by omega, hf⟩
        · obtain ⟨k, hk, hf⟩ := h
          have hF : FoundP a i l := ⟨k, by omega, hf⟩
          have hA := ahead_next (by omega) hAh hF
          rw [← hse] at hA
          have hN := numR_lt (validL_rev hval)
          rw [List.length_reverse, hlen] at hN
          refine ⟨nextL a.states l, (by (refine covers_mk0 rfl rfl ?_ ?_ ?_ ?_ <;> simp (disch := (refine Om.mk ?_; omega)) only [go_sem, Nat.reduceAdd, Nat.reduceMul, Nat.reduceLT, Nat.reduceLeDiff, Nat.reduceEqDiff, Nat.reduceBEq, Nat.reduceSub, ↓reduceIte, reduceCtorEq] <;> (try omega))), hA.1, ?_⟩
          by_cases hb : (nextL a.states l).2 = true
          · simp only [hb, if_true, hA.2 hb]; omega
          · simp only [hb, if_true]; simp; omega
        · omega
      · have hmr : mr = false := by simpa using h
        subst hmr
        refine ⟨i + 1, (by (refine covers_mk0 rfl rfl ?_ ?_ ?_ ?_ <;> simp (disch := (refine Om.mk ?_; omega)) only [go_sem, Nat.reduceAdd, Nat.reduceMul, Nat.reduceLT, Nat.reduceLeDiff, Nat.reduceEqDiff, Nat.reduceBEq, Nat.reduceSub, ↓reduceIte, reduceCtorEq] <;> (try omega))), ⟨by omega, upto_succ hj fun m hm => hAh.2.2 rfl m (by rw [← hnt]; exact hm)⟩, by omega⟩
      · exact ahead_start a i s n (by omega)
    · exact fun f hf => hj f (by omega)
    · intro j hj'; omega
  · rw [tst_false (fun h : WholeS rs a => hs h.1)]
    refine FC.args (args' := [.agg [.sl .any (rs.map (.int .i64))], AutoD a]) ?_ (by simp only [go_sem, Nat.reduceAdd, Nat.reduceMul, Nat.reduceLT, Nat.reduceLeDiff, Nat.reduceEqDiff, Nat.reduceBEq, Nat.reduceSub, ↓reduceIte, reduceCtorEq])
    refine fc_body Try.func52 rfl (by kernel_rfl) (by simp [Try.f52]) fun B => ?_
    simp only [Try.ntmps52, enumD, List.map_nil, List.map_cons, List.length_map, Nat.zero_add, Nat.reduceAdd]
    refine sw_bnd_agg 0 0 rfl rfl fun hb0_0 => ?_
    simp only [D.bnd, List.length_map] at hb0_0
    refine sw_bnd_agg 1 1 rfl rfl fun hb1_1 => ?_
    simp only [D.bnd, List.length_map] at hb1_1
    repeat' first
      | exact Bool.noConfusion h
      | refine sw_seq ?_
      | refine sw_block ?_
      | refine sw_skip ?_
      | refine sw_inBlock ?_
      | refine sw_go 0 kp52 fun K hK => ?_
      | refine fun (K : List Oper → LS → Prop) (hK : KOk S 0 _ _ _ K) => ?_
      | refine sw_goD kp52 (by kernel_rfl) fun K hK => ?_
      | ((first | refine runL_go ?_ | refine runQ_go ?_); simp (disch := (refine Om.mk ?_; omega)) only [go_sem, Nat.reduceAdd, Nat.reduceMul, Nat.reduceLT, Nat.reduceLeDiff, Nat.reduceEqDiff, Nat.reduceBEq, Nat.reduceSub, ↓reduceIte, reduceCtorEq])
      | (refine hK.nil ?_; clear hK K; simp only [go_sem, Nat.reduceAdd, Nat.reduceMul, Nat.reduceLT, Nat.reduceLeDiff, Nat.reduceEqDiff, Nat.reduceBEq, Nat.reduceSub, ↓reduceIte, reduceCtorEq])
      | (refine runG_fork rfl rfl rfl rfl rfl (fun h => ?_) (fun h => ?_) <;> (try simp (disch := (refine Om.mk ?_; omega)) only [go_sem, Nat.reduceAdd, Nat.reduceMul, Nat.reduceLT, Nat.reduceLeDiff, Nat.reduceEqDiff, Nat.reduceBEq, Nat.reduceSub, ↓reduceIte, reduceCtorEq] at h))
      | (refine runQG_fork rfl rfl rfl rfl rfl (fun h => ?_) (fun h => ?_) <;> (try simp (disch := (refine Om.mk ?_; omega)) only [go_sem, Nat.reduceAdd, Nat.reduceMul, Nat.reduceLT, Nat.reduceLeDiff, Nat.reduceEqDiff, Nat.reduceBEq, Nat.reduceSub, ↓reduceIte, reduceCtorEq] at h))
      | (refine hK.skip rfl (by simp only [dstOk, Nat.reduceLT]) ?_)
      | (refine sw_cond rfl (fun h => ?_) (fun h => ?_) <;> (try simp (disch := (refine Om.mk ?_; omega)) only [go_sem, Nat.reduceAdd, Nat.reduceMul, Nat.reduceLT, Nat.reduceLeDiff, Nat.reduceEqDiff, Nat.reduceBEq, Nat.reduceSub, ↓reduceIte, reduceCtorEq] at h))
      | (refine sw_exit rfl ?_)
      | (refine sw_loopEnd ?_)
      | ((first | refine sw_ret (ret0 ?_) | refine sw_ret ?_); simp (disch := (refine Om.mk ?_; omega)) only [go_sem, Nat.reduceAdd, Nat.reduceMul, Nat.reduceLT, Nat.reduceLeDiff, Nat.reduceEqDiff, Nat.reduceBEq, Nat.reduceSub, ↓reduceIte, reduceCtorEq, Try.results52])
      | refine hK.call rfl rfl rfl (specAutoOk_fc _ _ a) ⟨(by intro p hp; cases hp), rfl, rfl, (by simp only [dstOk, Nat.reduceLT])⟩ ?_
      | (refine hK.fork rfl rfl rfl (fun h => ?_) (fun h => ?_) <;> (try simp (disch := (refine Om.mk ?_; omega)) only [go_sem, Nat.reduceAdd, Nat.reduceMul, Nat.reduceLT, Nat.reduceLeDiff, Nat.reduceEqDiff, Nat.reduceBEq, Nat.reduceSub, ↓reduceIte, reduceCtorEq] at h))
      | (with_reducible refine And.intro (by first | omega | (simp only [List.length_append, List.length_take, List.length_drop, List.length_cons, List.length_nil]; omega)) ?_)
      | ((with_reducible refine And.intro ?_ ?_); · first | (intro x hx; subst hx; rfl) | exact upR_mem fun _ _ => rfl | (intro x; refine And.intro ?_ ?_ <;> (intros; subst_vars; rfl)))
      | fail
    exact absurd h hs
theorem implWholeInS_fc (tk : Tk) (rs : List Int) (a : AutoT) : FC S 53 [] [] [] [.agg [.sl tk (rs.map (.int .i64))], AutoD a] (.bool (tst (WholeS rs a))) [] [] := by
  rw [← tst_congr (whole_impl rs a)]
  exact implWholeIn_fc tk rs a
end Go.Proofs.Ytlpaodfkmafjjaa
