/-
  ClashesOf: the specification's side.
-/
import Derived.Test.YtlcdahaihlflaaaU08
import Derived.Test.YtlcdahaihlflaaaA26r
import Derived.Test.YtlcdahaihlflaaaA05p
namespace Go.Proofs.Ytlcdahaihlflaaa
open Go Go.Lg
set_option linter.unusedSimpArgs false
set_option linter.unusedVariables false
set_option maxHeartbeats 4000000
attribute [local irreducible] SW runL runQ runG runQG FC Ret1
theorem phiL_id {rs t : List Int} (h : TermOkP rs t) : phiL t = t := by
  unfold phiL
  conv => rhs; rw [← List.map_id t]
  exact List.map_congr_left fun x hx => by have := h.ge x hx; unfold phi; rw [if_neg (by omega)]; rfl
theorem XT.of {rs t : List Int} (h : TermOkP rs t) : XT rs t := ⟨by rw [phiL_id h]; exact h, fun x hx => by have := h.ge x hx; omega⟩
theorem subX_id {rs t : List Int} (h : TermOkP rs t) (a : Nat) : subX rs t a = subS rs t a := by unfold subX subS; rw [phiL_id h]
theorem meet_pos {rs a b : List Int} (hA : TermOkP rs a) (hB : TermOkP rs b) {p q : Nat} (hp : p < a.length) (hq : q < b.length) (f : Nat) (he : a.getD p default = b.getD q default) : (∀ pr ∈ pairsX rs (subS rs a p) (subS rs b q), MeetM rs f pr.1 pr.2) ↔ ∀ j < (argsS rs a p).length, MeetM rs f (subS rs a ((argsS rs a p).getD j default)) (subS rs b ((argsS rs b q).getD j default)) := by
  have oa := subS_ok hA hp
  have ob := subS_ok hB hq
  obtain ⟨ha0, ha1⟩ := sub_sub hA hp
  obtain ⟨hb0, hb1⟩ := sub_sub hB hq
  have el : (argsS rs (phiL (subS rs a p)) 0).length = (argsS rs a p).length := by rw [phiL_id oa, argsS_len, argsS_len, ha0]
  have key : ∀ j < (argsS rs a p).length, subX rs (subS rs a p) ((argsS rs (phiL (subS rs a p)) 0).getD j default) = subS rs a ((argsS rs a p).getD j default) ∧ subX rs (subS rs b q) ((argsS rs (phiL (subS rs b q)) 0).getD j default) = subS rs b ((argsS rs b q).getD j default) := fun j hj => by
    rw [argsS_len] at hj
    have hj2 : j < (arS rs (b.getD q default)).toNat := by rw [← he]; exact hj
    rw [phiL_id oa, phiL_id ob, subX_id oa, subX_id ob, argsS_get rs (subS rs a p) 0 j (by rw [ha0]; exact hj), argsS_get rs (subS rs b q) 0 j (by rw [hb0]; exact hj2), argsS_get rs a p j hj, argsS_get rs b q j hj2]
    exact ⟨ha1 j hj, hb1 j hj2⟩
  constructor
  · intro h j hj
    have := h (subX rs (subS rs a p) ((argsS rs (phiL (subS rs a p)) 0).getD j default), subX rs (subS rs b q) ((argsS rs (phiL (subS rs b q)) 0).getD j default)) (List.mem_map.2 ⟨j, List.mem_range.2 (by rw [el]; exact hj), rfl⟩)
    dsimp only at this
    rwa [(key j hj).1, (key j hj).2] at this
  · intro h pr hpr
    obtain ⟨j, hj, rfl⟩ := List.mem_map.1 hpr
    have hj := List.mem_range.1 hj
    rw [el] at hj
    dsimp only
    rw [(key j hj).1, (key j hj).2]
    exact h j hj
theorem arg_len {rs a : List Int} (hA : TermOkP rs a) {p : Nat} (hp : p < a.length) {j : Nat} (hj : j < (argsS rs a p).length) : (subS rs a ((argsS rs a p).getD j default)).length + 1 ≤ (subS rs a p).length := by
  have oa := subS_ok hA hp
  obtain ⟨ha0, ha1⟩ := sub_sub hA hp
  rw [argsS_len] at hj
  have h := sub_len (XT.of oa) (k := j) (by rw [phiL_id oa, argsS_len, ha0]; exact hj)
  rw [phiL_id oa, subX_id oa, argsS_get rs (subS rs a p) 0 j (by rw [ha0]; exact hj), ha1 j hj] at h
  rwa [argsS_get rs a p j hj]
def kp43 : List (Nat × List Nat) := [(0, [1, 2, 3, 4, 5]), (1, [1, 2, 3, 4, 5, 25]), (2, [10]), (3, [1, 2, 3, 4, 5, 34]), (4, [10]), (5, [1, 3, 4, 5, 11]), (6, [1, 3, 5, 11, 12]), (7, [1, 3, 5, 11, 12, 13]), (8, [1, 3, 5, 11, 12, 13, 46]), (10, [1, 3, 5, 11, 12, 13, 61]), (11, [10]), (9, [1, 3, 5, 11, 12, 13]), (12, [10])]
attribute [go_sem] kp43
theorem l26Meet_fc (rs a b : List Int) (hA : TermOkP rs a) (hB : TermOkP rs b) : ∀ (f p q : Nat), p < a.length → q < b.length → (subS rs a p).length ≤ f → FC S 43 [] [] [] [.agg [.sl .any (rs.map (.int .i64))], .sl .any (a.map (.int .i64)), .int .i64 p, .sl .any (b.map (.int .i64)), .int .i64 q] (.bool (tst (MeetM rs f (subS rs a p) (subS rs b q)))) [] [] := by
  have hal := hA.2.1
  have hbl := hB.2.1
  intro f
  induction f with
  | zero => intro p q hp hq hf; have := (subS_ok hA hp).2.1; omega
  | succ f ih =>
    intro p q hp hq hf
    have ha0 : hd (subS rs a p) = a.getD p default := (sub_sub hA hp).1
    have hb0 : hd (subS rs b q) = b.getD q default := (sub_sub hB hq).1
    by_cases h1 : a.getD p default < 0
    · rw [tst_true (show MeetM rs (f + 1) (subS rs a p) (subS rs b q) from .inl (by rw [ha0]; exact h1))]
      refine fc_body Try.func43 rfl (by kernel_rfl) (by simp [Try.f43]) fun B => ?_
      simp only [Try.ntmps43, enumD, List.map_nil, List.map_cons, List.length_map, Nat.zero_add, Nat.reduceAdd]
      repeat' first
        | ((exfalso; omega))
        | exact Bool.noConfusion h
        | refine sw_seq ?_
        | refine sw_block ?_
        | refine sw_skip ?_
        | refine sw_inBlock ?_
        | refine sw_go 0 kp43 fun K hK => ?_
        | refine fun (K : List Oper → LS → Prop) (hK : KOk S 0 _ _ _ K) => ?_
        | refine sw_goD kp43 (by kernel_rfl) fun K hK => ?_
        | ((first | refine runL_go ?_ | refine runQ_go ?_); simp (disch := (refine Om.mk ?_; omega)) only [go_sem])
        | (refine hK.nil ?_; clear hK K; simp only [go_sem])
        | (refine runG_fork rfl rfl rfl rfl rfl (fun h => ?_) (fun h => ?_) <;> (try simp (disch := (refine Om.mk ?_; omega)) only [go_sem] at h))
        | (refine runQG_fork rfl rfl rfl rfl rfl (fun h => ?_) (fun h => ?_) <;> (try simp (disch := (refine Om.mk ?_; omega)) only [go_sem] at h))
        | (refine hK.skip rfl (by simp only [dstOk, Nat.reduceLT]) ?_)
        | (refine sw_cond rfl (fun h => ?_) (fun h => ?_) <;> (try simp (disch := (refine Om.mk ?_; omega)) only [go_sem] at h))
        | (refine sw_exit rfl ?_)
        | (refine sw_loopEnd ?_)
        | ((first | refine sw_ret (ret0 ?_) | refine sw_ret ?_); simp (disch := (refine Om.mk ?_; omega)) only [go_sem, Try.results43])
        | (refine hK.fork rfl rfl rfl (fun h => ?_) (fun h => ?_) <;> (try simp (disch := (refine Om.mk ?_; omega)) only [go_sem] at h))
        | (with_reducible refine And.intro (by first | omega | (simp only [List.length_append, List.length_take, List.length_drop, List.length_cons, List.length_nil, List.length_map]; omega)) ?_)
        | ((with_reducible refine And.intro ?_ ?_); · first | (intro x hx; subst hx; rfl) | exact upR_mem fun _ _ => rfl | exact mapR_mem fun _ _ => rfl | (intro x; refine And.intro ?_ ?_ <;> (intros; subst_vars; rfl)))
        | fail
    by_cases h2 : b.getD q default < 0
    · rw [tst_true (show MeetM rs (f + 1) (subS rs a p) (subS rs b q) from .inr (.inl (by rw [hb0]; exact h2)))]
      refine fc_body Try.func43 rfl (by kernel_rfl) (by simp [Try.f43]) fun B => ?_
      simp only [Try.ntmps43, enumD, List.map_nil, List.map_cons, List.length_map, Nat.zero_add, Nat.reduceAdd]
      repeat' first
        | ((exfalso; omega))
        | exact Bool.noConfusion h
        | refine sw_seq ?_
        | refine sw_block ?_
        | refine sw_skip ?_
        | refine sw_inBlock ?_
        | refine sw_go 0 kp43 fun K hK => ?_
        | refine fun (K : List Oper → LS → Prop) (hK : KOk S 0 _ _ _ K) => ?_
        | refine sw_goD kp43 (by kernel_rfl) fun K hK => ?_
        | ((first | refine runL_go ?_ | refine runQ_go ?_); simp (disch := (refine Om.mk ?_; omega)) only [go_sem])
        | (refine hK.nil ?_; clear hK K; simp only [go_sem])
        | (refine runG_fork rfl rfl rfl rfl rfl (fun h => ?_) (fun h => ?_) <;> (try simp (disch := (refine Om.mk ?_; omega)) only [go_sem] at h))
        | (refine runQG_fork rfl rfl rfl rfl rfl (fun h => ?_) (fun h => ?_) <;> (try simp (disch := (refine Om.mk ?_; omega)) only [go_sem] at h))
        | (refine hK.skip rfl (by simp only [dstOk, Nat.reduceLT]) ?_)
        | (refine sw_cond rfl (fun h => ?_) (fun h => ?_) <;> (try simp (disch := (refine Om.mk ?_; omega)) only [go_sem] at h))
        | (refine sw_exit rfl ?_)
        | (refine sw_loopEnd ?_)
        | ((first | refine sw_ret (ret0 ?_) | refine sw_ret ?_); simp (disch := (refine Om.mk ?_; omega)) only [go_sem, Try.results43])
        | (refine hK.fork rfl rfl rfl (fun h => ?_) (fun h => ?_) <;> (try simp (disch := (refine Om.mk ?_; omega)) only [go_sem] at h))
        | (with_reducible refine And.intro (by first | omega | (simp only [List.length_append, List.length_take, List.length_drop, List.length_cons, List.length_nil, List.length_map]; omega)) ?_)
        | ((with_reducible refine And.intro ?_ ?_); · first | (intro x hx; subst hx; rfl) | exact upR_mem fun _ _ => rfl | exact mapR_mem fun _ _ => rfl | (intro x; refine And.intro ?_ ?_ <;> (intros; subst_vars; rfl)))
        | fail
    by_cases he : a.getD p default = b.getD q default
    · have hm : MeetM rs (f + 1) (subS rs a p) (subS rs b q) ↔ ∀ j < (argsS rs a p).length, MeetM rs f (subS rs a ((argsS rs a p).getD j default)) (subS rs b ((argsS rs b q).getD j default)) := by
        rw [← meet_pos hA hB hp hq f he]
        constructor
        · rintro (h | h | h)
          · rw [ha0] at h; exact absurd h h1
          · rw [hb0] at h; exact absurd h h2
          · exact h.2
        · exact fun h => .inr (.inr ⟨by rw [ha0, hb0]; exact he, h⟩)
      generalize MeetM rs (f + 1) (subS rs a p) (subS rs b q) = M at *
      have hlen : (argsS rs b q).length = (argsS rs a p).length := by rw [argsS_len, argsS_len, he]
      have hn8 : (argsS rs a p).length ≤ 60 := by
        rw [argsS_len]
        have := arS_rng hA.1 (a.getD p default)
        omega
      have hga := fun j (hj : j < (argsS rs a p).length) => (argsS_lt hA hp _ (getD_mem _ j hj)).2
      have hgb := fun j (hj : j < (argsS rs b q).length) => (argsS_lt hB hq _ (getD_mem _ j hj)).2
      have hgl := fun j => @arg_len rs a hA p hp j
      refine fc_body Try.func43 rfl (by kernel_rfl) (by simp [Try.f43]) fun B => ?_
      simp only [Try.ntmps43, enumD, List.map_nil, List.map_cons, List.length_map, Nat.zero_add, Nat.reduceAdd]
      repeat' first
        | ((exfalso; omega))
        | exact Bool.noConfusion h
        | refine sw_seq ?_
        | refine sw_block ?_
        | refine sw_skip ?_
        | refine sw_inBlock ?_
        | refine sw_go 0 kp43 fun K hK => ?_
        | refine fun (K : List Oper → LS → Prop) (hK : KOk S 0 _ _ _ K) => ?_
        | refine sw_goD kp43 (by kernel_rfl) fun K hK => ?_
        | ((first | refine runL_go ?_ | refine runQ_go ?_); simp (disch := (refine Om.mk ?_; omega)) only [go_sem])
        | (refine hK.nil ?_; clear hK K; simp only [go_sem])
        | (refine runG_fork rfl rfl rfl rfl rfl (fun h => ?_) (fun h => ?_) <;> (try simp (disch := (refine Om.mk ?_; omega)) only [go_sem] at h))
        | (refine runQG_fork rfl rfl rfl rfl rfl (fun h => ?_) (fun h => ?_) <;> (try simp (disch := (refine Om.mk ?_; omega)) only [go_sem] at h))
        | (refine hK.skip rfl (by simp only [dstOk, Nat.reduceLT]) ?_)
        | (refine sw_cond rfl (fun h => ?_) (fun h => ?_) <;> (try simp (disch := (refine Om.mk ?_; omega)) only [go_sem] at h))
        | (refine sw_exit rfl ?_)
        | (refine sw_loopEnd ?_)
        | ((first | refine sw_ret (ret0 ?_) | refine sw_ret ?_); simp (disch := (refine Om.mk ?_; omega)) only [go_sem, Try.results43])
        | refine hK.call rfl rfl rfl (l1Args_fc _ _ rs a p hA hp) ⟨(by intro p hp; cases hp), rfl, rfl, (by simp only [dstOk, Nat.reduceLT])⟩ ?_
        | refine hK.call rfl rfl rfl (l1Args_fc _ _ rs b q hB hq) ⟨(by intro p hp; cases hp), rfl, rfl, (by simp only [dstOk, Nat.reduceLT])⟩ ?_
        | (refine hK.fork rfl rfl rfl (fun h => ?_) (fun h => ?_) <;> (try simp (disch := (refine Om.mk ?_; omega)) only [go_sem] at h))
        | (with_reducible refine And.intro (by first | omega | (simp only [List.length_append, List.length_take, List.length_drop, List.length_cons, List.length_nil, List.length_map]; omega)) ?_)
        | ((with_reducible refine And.intro ?_ ?_); · first | (intro x hx; subst hx; rfl) | exact upR_mem fun _ _ => rfl | exact mapR_mem fun _ _ => rfl | (intro x; refine And.intro ?_ ?_ <;> (intros; subst_vars; rfl)))
        | fail
      refine sw_loopU (ι := Nat) (fun i => [(13, .int .i64 i)]) (fun _ => []) (fun i => i ≤ (argsS rs a p).length ∧ (∀ j < i, MeetM rs f (subS rs a ((argsS rs a p).getD j default)) (subS rs b ((argsS rs b q).getD j default)))) (fun i => (argsS rs a p).length - i) 0 (by (refine covers_mk0 rfl rfl ?_ ?_ ?_ ?_ <;> simp (disch := (refine Om.mk ?_; omega)) only [go_sem] <;> (try omega))) ⟨by omega, ?_⟩ (fun i ⟨hi, hj⟩ => ?_)
      rotate_left
      simp only [go_sem]
      by_cases hil : i < (argsS rs a p).length
      · have c := ih _ _ (hga i hil) (hgb i (by omega)) (by have := hgl i hil; omega)
        repeat' first
          | ((exfalso; omega))
          | exact Bool.noConfusion h
          | refine sw_seq ?_
          | refine sw_block ?_
          | refine sw_skip ?_
          | refine sw_inBlock ?_
          | refine sw_go 0 kp43 fun K hK => ?_
          | refine fun (K : List Oper → LS → Prop) (hK : KOk S 0 _ _ _ K) => ?_
          | refine sw_goD kp43 (by kernel_rfl) fun K hK => ?_
          | ((first | refine runL_go ?_ | refine runQ_go ?_); simp (disch := (refine Om.mk ?_; omega)) only [go_sem])
          | (refine hK.nil ?_; clear hK K; simp only [go_sem])
          | (refine runG_fork rfl rfl rfl rfl rfl (fun h => ?_) (fun h => ?_) <;> (try simp (disch := (refine Om.mk ?_; omega)) only [go_sem] at h))
          | (refine runQG_fork rfl rfl rfl rfl rfl (fun h => ?_) (fun h => ?_) <;> (try simp (disch := (refine Om.mk ?_; omega)) only [go_sem] at h))
          | (refine hK.skip rfl (by simp only [dstOk, Nat.reduceLT]) ?_)
          | (refine sw_cond rfl (fun h => ?_) (fun h => ?_) <;> (try simp (disch := (refine Om.mk ?_; omega)) only [go_sem] at h))
          | (refine sw_exit rfl ?_)
          | (refine sw_loopEnd ?_)
          | ((first | refine sw_ret (ret0 ?_) | refine sw_ret ?_); simp (disch := (refine Om.mk ?_; omega)) only [go_sem, Try.results43])
          | refine hK.call rfl rfl rfl (c) ⟨(by intro p hp; cases hp), rfl, rfl, (by simp only [dstOk, Nat.reduceLT])⟩ ?_
          | (refine hK.fork rfl rfl rfl (fun h => ?_) (fun h => ?_) <;> (try simp (disch := (refine Om.mk ?_; omega)) only [go_sem] at h))
          | (with_reducible refine And.intro (by first | omega | (simp only [List.length_append, List.length_take, List.length_drop, List.length_cons, List.length_nil, List.length_map]; omega)) ?_)
          | ((with_reducible refine And.intro ?_ ?_); · first | (intro x hx; subst hx; rfl) | exact upR_mem fun _ _ => rfl | exact mapR_mem fun _ _ => rfl | (intro x; refine And.intro ?_ ?_ <;> (intros; subst_vars; rfl)))
          | fail
        all_goals first | (intro hM; exact absurd (hm.1 hM i hil) (by assumption)) | exact ⟨i + 1, (by (refine covers_mk0 rfl rfl ?_ ?_ ?_ ?_ <;> simp (disch := (refine Om.mk ?_; omega)) only [go_sem] <;> (try omega))), ⟨by omega, upto_succ hj (by assumption)⟩, by omega⟩ | trace_state
      · repeat' first
          | ((exfalso; omega))
          | exact Bool.noConfusion h
          | refine sw_seq ?_
          | refine sw_block ?_
          | refine sw_skip ?_
          | refine sw_inBlock ?_
          | refine sw_go 0 kp43 fun K hK => ?_
          | refine fun (K : List Oper → LS → Prop) (hK : KOk S 0 _ _ _ K) => ?_
          | refine sw_goD kp43 (by kernel_rfl) fun K hK => ?_
          | ((first | refine runL_go ?_ | refine runQ_go ?_); simp (disch := (refine Om.mk ?_; omega)) only [go_sem])
          | (refine hK.nil ?_; clear hK K; simp only [go_sem])
          | (refine runG_fork rfl rfl rfl rfl rfl (fun h => ?_) (fun h => ?_) <;> (try simp (disch := (refine Om.mk ?_; omega)) only [go_sem] at h))
          | (refine runQG_fork rfl rfl rfl rfl rfl (fun h => ?_) (fun h => ?_) <;> (try simp (disch := (refine Om.mk ?_; omega)) only [go_sem] at h))
          | (refine hK.skip rfl (by simp only [dstOk, Nat.reduceLT]) ?_)
          | (refine sw_cond rfl (fun h => ?_) (fun h => ?_) <;> (try simp (disch := (refine Om.mk ?_; omega)) only [go_sem] at h))
          | (refine sw_exit rfl ?_)
          | (refine sw_loopEnd ?_)
          | ((first | refine sw_ret (ret0 ?_) | refine sw_ret ?_); simp (disch := (refine Om.mk ?_; omega)) only [go_sem, Try.results43])
          | (refine hK.fork rfl rfl rfl (fun h => ?_) (fun h => ?_) <;> (try simp (disch := (refine Om.mk ?_; omega)) only [go_sem] at h))
          | (with_reducible refine And.intro (by first | omega | (simp only [List.length_append, List.length_take, List.length_drop, List.length_cons, List.length_nil, List.length_map]; omega)) ?_)
          | ((with_reducible refine And.intro ?_ ?_); · first | (intro x hx; subst hx; rfl) | exact upR_mem fun _ _ => rfl | exact mapR_mem fun _ _ => rfl | (intro x; refine And.intro ?_ ?_ <;> (intros; subst_vars; rfl)))
          | fail
        exact hm.2 fun j hj' => hj j (by omega)
      · intro j hj; omega
    · rw [show tst (MeetM rs (f + 1) (subS rs a p) (subS rs b q)) = false from tst_not.2 (by
        rintro (h | h | h)
        · rw [ha0] at h; exact absurd h h1
        · rw [hb0] at h; exact absurd h h2
        · rw [ha0, hb0] at h; exact absurd h.1 he)]
      refine fc_body Try.func43 rfl (by kernel_rfl) (by simp [Try.f43]) fun B => ?_
      simp only [Try.ntmps43, enumD, List.map_nil, List.map_cons, List.length_map, Nat.zero_add, Nat.reduceAdd]
      repeat' first
        | ((exfalso; omega))
        | ((exfalso; exact absurd (by assumption) he))
        | exact Bool.noConfusion h
        | refine sw_seq ?_
        | refine sw_block ?_
        | refine sw_skip ?_
        | refine sw_inBlock ?_
        | refine sw_go 0 kp43 fun K hK => ?_
        | refine fun (K : List Oper → LS → Prop) (hK : KOk S 0 _ _ _ K) => ?_
        | refine sw_goD kp43 (by kernel_rfl) fun K hK => ?_
        | ((first | refine runL_go ?_ | refine runQ_go ?_); simp (disch := (refine Om.mk ?_; omega)) only [go_sem])
        | (refine hK.nil ?_; clear hK K; simp only [go_sem])
        | (refine runG_fork rfl rfl rfl rfl rfl (fun h => ?_) (fun h => ?_) <;> (try simp (disch := (refine Om.mk ?_; omega)) only [go_sem] at h))
        | (refine runQG_fork rfl rfl rfl rfl rfl (fun h => ?_) (fun h => ?_) <;> (try simp (disch := (refine Om.mk ?_; omega)) only [go_sem] at h))
        | (refine hK.skip rfl (by simp only [dstOk, Nat.reduceLT]) ?_)
        | (refine sw_cond rfl (fun h => ?_) (fun h => ?_) <;> (try simp (disch := (refine Om.mk ?_; omega)) only [go_sem] at h))
        | (refine sw_exit rfl ?_)
        | (refine sw_loopEnd ?_)
        | ((first | refine sw_ret (ret0 ?_) | refine sw_ret ?_); simp (disch := (refine Om.mk ?_; omega)) only [go_sem, Try.results43])
        | (refine hK.fork rfl rfl rfl (fun h => ?_) (fun h => ?_) <;> (try simp (disch := (refine Om.mk ?_; omega)) only [go_sem] at h))
        | (with_reducible refine And.intro (by first | omega | (simp only [List.length_append, List.length_take, List.length_drop, List.length_cons, List.length_nil, List.length_map]; omega)) ?_)
        | ((with_reducible refine And.intro ?_ ?_); · first | (intro x hx; subst hx; rfl) | exact upR_mem fun _ _ => rfl | exact mapR_mem fun _ _ => rfl | (intro x; refine And.intro ?_ ?_ <;> (intros; subst_vars; rfl)))
        | fail
end Go.Proofs.Ytlcdahaihlflaaa
