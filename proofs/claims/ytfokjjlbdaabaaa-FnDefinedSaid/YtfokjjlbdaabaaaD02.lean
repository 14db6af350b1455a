/-
  The drawing functions: signatures.
-/
import Derived.Test.YtfokjjlbdaabaaaD01
namespace Go.Proofs.Ytfokjjlbdaabaaa
open Go Go.Lg
set_option linter.unusedSimpArgs false
set_option linter.unusedVariables false
set_option maxHeartbeats 4000000
attribute [local irreducible] SW runL runQ runG runQG FC Ret1 toF redoL anyB
def sigU (bs : List Int) (c : Cu) : Nat → List Int × Cu
  | 0 => ([0], c)
  | k + 1 => ((sigU bs c k).1 ++ [belowV bs (sigU bs c k).2 3], belowC bs (sigU bs c k).2 3)
def sigV (bs : List Int) (c : Cu) : List Int × Cu := if belowV bs c 4 = 0 then sigU bs (belowC bs (belowC bs c 4) 4) (belowV bs (belowC bs c 4) 4).toNat else ([2, 1, 0], belowC bs c 4)
theorem sigU_len (bs : List Int) (c : Cu) : ∀ k, (sigU bs c k).1.length = k + 1
  | 0 => rfl
  | k + 1 => by simp [sigU, sigU_len bs c k]
theorem sigU_s1 (bs : List Int) (c : Cu) (k : Nat) : (sigU bs c (k + 1)).1 = (sigU bs c k).1 ++ [belowV bs (sigU bs c k).2 3] := rfl
theorem sigU_s2 (bs : List Int) (c : Cu) (k : Nat) : (sigU bs c (k + 1)).2 = belowC bs (sigU bs c k).2 3 := rfl
theorem sigU_z (bs : List Int) (c : Cu) : sigU bs c 0 = ([0], c) := rfl
attribute [local irreducible] sigU belowV belowC byteV nextC mixH
def kp69 : List (Nat × List Nat) := [(0, [0, 2]), (1, [0, 2, 3]), (2, [0, 2, 3, 8]), (3, [0, 2, 3]), (4, [0, 2, 3, 4]), (5, [0, 2, 3, 4, 14]), (7, [0, 2, 3, 4]), (6, [0, 2, 3, 4]), (8, [2])]
attribute [go_sem] kp69
theorem l1DrawSig_fc (id : Nat) (bs : List Int) (hb : BytesP bs) (c : Cu) : FC S 69 [] [(id + 1000, [.sl .any (bs.map (.int .u8)), .int .i64 (c).i, .int .i64 (c).h])] [] [.box (id + 1000) 0] (.agg [.sl .any ((sigV bs c).1.map (.int .i64))]) [(id + 1000, [.sl .any (bs.map (.int .u8)), .int .i64 ((sigV bs c).2).i, .int .i64 ((sigV bs c).2).h])] [] := by
  have hv := belowV_lt bs (belowC bs c 4) (show (0 : Int) < 4 by omega)
  rcases Classical.em (belowV bs c 4 = 0) with h0 | h0
  · simp only [sigV, if_pos h0]
    generalize hn : (belowV bs (belowC bs c 4) 4).toNat = n
    have hn2 : belowV bs (belowC bs c 4) 4 = (n : Int) := by omega
    have cB := l1Below_fc (id + 1000) bs hb (belowC bs c 4) 4 (by omega)
    rw [hn2] at cB
    refine fc_body Try.func69 rfl (by kernel_rfl) (by simp [Try.f69]) fun B => ?_
    simp only [Try.ntmps69, enumD, List.map_nil, List.map_cons, List.length_map, Nat.zero_add, Nat.reduceAdd]
    repeat' first
      | ((exfalso; omega))
      | exact Bool.noConfusion h
      | refine sw_seq ?_
      | refine sw_block ?_
      | refine sw_skip ?_
      | refine sw_inBlock ?_
      | refine sw_go 0 kp69 fun K hK => ?_
      | refine sw_goT 0 kp69 5 (id := 7) (by kernel_rfl) fun K hK => ?_
      | refine fun (K : List Oper → LS → Prop) (hK : KOk S 0 _ _ _ K) => ?_
      | refine sw_goD kp69 (by kernel_rfl) fun K hK => ?_
      | ((first | refine runL_go ?_ | refine runQ_go ?_); simp (disch := (refine Om.mk ?_; omega)) only [go_sem])
      | (refine hK.nil ?_; clear hK K; simp only [go_sem])
      | (refine sw_cond rfl (fun h => ?_) (fun h => ?_) <;> (try simp (disch := (refine Om.mk ?_; omega)) only [go_sem] at h))
      | (refine sw_exit rfl ?_)
      | (refine sw_loopEnd ?_)
      | ((first | refine sw_ret (ret0 ?_) | refine sw_ret ?_); simp (disch := (refine Om.mk ?_; omega)) only [go_sem, Try.results69])
      | (refine hK.callB rfl rfl rfl (l1Once_fc (id + 1000) bs hb c 4 (by omega)) ⟨⟨by simp only [Nat.reduceLT], (by first | (simp; all_goals fail) | (simp [LS.getBox, Lg.look]; all_goals fail)), by (simp [Lg.look]; all_goals fail), by (simp; all_goals fail), by (simp; all_goals fail)⟩, ⟨by (simp [D.ids, D.idsL]; all_goals fail), by (simp [D.ids, D.idsL]; all_goals fail), by (simp [D.tks, D.tksL]; all_goals fail), by (simp [D.tks, D.tksL]; all_goals fail), by (simp; all_goals fail)⟩, rfl⟩ ?_; simp (disch := (refine Om.mk ?_; omega)) only [go_sem])
      | (refine hK.callB rfl rfl rfl (cB) ⟨⟨by simp only [Nat.reduceLT], (by first | (simp; all_goals fail) | (simp [LS.getBox, Lg.look]; all_goals fail)), by (simp [Lg.look]; all_goals fail), by (simp; all_goals fail), by (simp; all_goals fail)⟩, ⟨by (simp [D.ids, D.idsL]; all_goals fail), by (simp [D.ids, D.idsL]; all_goals fail), by (simp [D.tks, D.tksL]; all_goals fail), by (simp [D.tks, D.tksL]; all_goals fail), by (simp; all_goals fail)⟩, rfl⟩ ?_; simp (disch := (refine Om.mk ?_; omega)) only [go_sem])
      | (with_reducible refine And.intro (by first | omega | (simp only [List.length_append, List.length_take, List.length_drop, List.length_cons, List.length_nil, List.length_map]; omega)) ?_)
      | ((with_reducible refine And.intro ?_ ?_); · first | (intro x hx; subst hx; rfl) | exact upR_mem fun _ _ => rfl | exact mapR_mem fun _ _ => rfl | (intro x; refine And.intro ?_ ?_ <;> (intros; subst_vars; rfl)))
      | fail
    have hn4 : n < 4 := by omega
    generalize belowC bs (belowC bs c 4) 4 = c'
    refine sw_loopT (ι := Nat) (fun k => [(4, .int .i64 ((n : Int) - k))]) (fun k => [(id + 1000, [.sl .any (bs.map (.int .u8)), .int .i64 ((sigU bs c' k).2).i, .int .i64 ((sigU bs c' k).2).h]), (3, [.sl (match k with | 0 => .full | _ + 1 => .own 23000 2 1) ((sigU bs c' k).1.map (.int .i64))])]) (fun k => match k with | 0 => [] | _ + 1 => [23000]) (fun k => k ≤ n) (fun k => n - k) 0 (by rw [sigU_z]; (refine covers_mk0 rfl rfl ?_ ?_ ?_ ?_ <;> simp (disch := (refine Om.mk ?_; omega)) only [go_sem] <;> (try omega)); all_goals first | rfl | exact ⟨rfl, rfl⟩ | exact ⟨⟨rfl, rfl⟩, rfl⟩ | omega | trace_state) (by omega) (fun k hk => ?_)
    simp only [go_sem]
    have hl := sigU_len bs c' k
    have hv3 := belowV_lt bs (sigU bs c' k).2 (show (0 : Int) < 3 by omega)
    have cB3 := l1Below_fc (id + 1000) bs hb (sigU bs c' k).2 3 (by omega)
    have hs1 := sigU_s1 bs c' k
    have hs2 := sigU_s2 bs c' k
    rcases k with _ | k
    · skip
      repeat' first
        | ((exfalso; omega))
        | ((refine ⟨(by simp), by omega, by omega, ?_⟩))
        | ((refine ⟨by simp; done, by omega, by omega, ?_⟩))
        | ((refine sw_any (id := 7) kp69 [(false, []), (false, [0]), (true, []), (false, [2]), (false, [3]), (false, [1, 4, 3]), (false, [0, 1, 2, 3, 4, 5]), (false, [6, 5, 5, 0, 1, 2, 3, 4, 5])] ⟨25, [(0, .box (id + 1000) 0), (2, .box 2 0), (3, .box 3 0), (4, .int .i64 ((n : Int) - ((0 : Nat) : Int)))], [(id + 1000, [.sl .any (bs.map (.int .u8)), .int .i64 (belowC bs (sigU bs c' 0).2 3).i, .int .i64 (belowC bs (sigU bs c' 0).2 3).h]), (2, [.sl .nil []]), (3, [.sl (.own 23000 2 1) (((sigU bs c' 0).1 ++ [belowV bs (sigU bs c' 0).2 3]).map (.int .i64))])], [], [23000], [id + 1000]⟩ (by kernel_rfl) ?_ ?_; simp only [List.length_cons, List.length_nil, Nat.reduceAdd]))
        | ((refine anyB_unf ?_; simp only [stepF_n, stepF_c, goR_n, goR_c, exR_n, exR_c, memB_n, memB_c, subB_n, subB_c, moveY_m, moveY_f, cond_t, cond_f, true_and, and_true, Bool.not_false, Bool.not_true, Bool.and_true, Bool.and_false, Bool.true_and, Bool.false_and, Bool.or_false, Bool.false_or, Bool.true_or, Bool.or_true, Nat.reduceBEq, Nat.reduceAdd]))
        | ((refine anyB_move (by simp only [Nat.reduceLT]) rfl (by simp only [go_sem]; exact rfl) ?_))
        | ((refine anyB_fa (by simp only [Nat.reduceLT]) rfl rfl rfl rfl (by decide) (by simp only [go_sem]; exact rfl) ?_))
        | ((refine hK.nil (anyB_id ?_); clear hK K))
        | ((refine lops_and ?_ ?_))
        | ((refine lops_go 0 ?_; refine fun (K : List Oper → LS → Prop) (hK : KOk S 0 _ _ _ K) => ?_; simp (disch := (refine Om.mk ?_; omega)) only [go_sem]))
        | ((refine anyB_end ?_; simp (disch := (refine Om.mk ?_; omega)) only [go_sem]; (refine covers_mk0 rfl rfl ?_ ?_ ?_ ?_ <;> simp (disch := (refine Om.mk ?_; omega)) only [go_sem] <;> (try omega)); done))
        | exact Bool.noConfusion h
        | refine sw_seq ?_
        | refine sw_block ?_
        | refine sw_skip ?_
        | refine sw_inBlock ?_
        | refine sw_go 0 kp69 fun K hK => ?_
        | refine sw_goT 0 kp69 5 (id := 7) (by kernel_rfl) fun K hK => ?_
        | refine fun (K : List Oper → LS → Prop) (hK : KOk S 0 _ _ _ K) => ?_
        | refine sw_goD kp69 (by kernel_rfl) fun K hK => ?_
        | ((first | refine runL_go ?_ | refine runQ_go ?_); simp (disch := (refine Om.mk ?_; omega)) only [go_sem])
        | (refine hK.nil ?_; clear hK K; simp only [go_sem])
        | (refine sw_cond rfl (fun h => ?_) (fun h => ?_) <;> (try simp (disch := (refine Om.mk ?_; omega)) only [go_sem] at h))
        | (refine sw_exit rfl ?_)
        | (refine sw_loopEnd ?_)
        | ((first | refine sw_ret (ret0 ?_) | refine sw_ret ?_); simp (disch := (refine Om.mk ?_; omega)) only [go_sem, Try.results69])
        | (refine hK.callB rfl rfl rfl (cB3) ⟨⟨by simp only [Nat.reduceLT], (by first | (simp; all_goals fail) | (simp [LS.getBox, Lg.look]; all_goals fail)), by (simp [Lg.look]; all_goals fail), by (simp; all_goals fail), by (simp; all_goals fail)⟩, ⟨by (simp [D.ids, D.idsL]; all_goals fail), by (simp [D.ids, D.idsL]; all_goals fail), by (simp [D.tks, D.tksL]; all_goals fail), by (simp [D.tks, D.tksL]; all_goals fail), by (simp; all_goals fail)⟩, rfl⟩ ?_; simp (disch := (refine Om.mk ?_; omega)) only [go_sem])
        | (with_reducible refine And.intro (by first | omega | (simp only [List.length_append, List.length_take, List.length_drop, List.length_cons, List.length_nil, List.length_map]; omega)) ?_)
        | ((with_reducible refine And.intro ?_ ?_); · first | (intro x hx; subst hx; rfl) | exact upR_mem fun _ _ => rfl | exact mapR_mem fun _ _ => rfl | (intro x; refine And.intro ?_ ?_ <;> (intros; subst_vars; rfl)))
        | fail
      · refine ⟨1, ?_, by omega, by omega⟩
        rw [hs1, hs2]
        exact (by (refine covers_mk0 rfl rfl ?_ ?_ ?_ ?_ <;> simp (disch := (refine Om.mk ?_; omega)) only [go_sem] <;> (try omega)); all_goals first | rfl | exact ⟨rfl, rfl⟩ | exact ⟨⟨rfl, rfl⟩, rfl⟩ | exact ⟨by omega, ⟨rfl, rfl⟩, rfl⟩ | exact ⟨by omega, rfl, rfl⟩ | trace_state)
      · have en : n = 0 := by omega
        subst en
        exact ⟨rfl, rfl, rfl⟩
    · skip
      repeat' first
        | ((exfalso; omega))
        | ((refine ⟨(by simp), by omega, by omega, ?_⟩))
        | ((refine ⟨by simp; done, by omega, by omega, ?_⟩))
        | ((refine sw_any (id := 7) kp69 [(false, []), (false, [0]), (true, []), (false, [2]), (false, [3]), (false, [1, 4, 3]), (false, [0, 1, 2, 3, 4, 5]), (false, [6, 5, 5, 0, 1, 2, 3, 4, 5])] ⟨25, [(0, .box (id + 1000) 0), (2, .box 2 0), (3, .box 3 0), (4, .int .i64 ((n : Int) - ((k : Int) + 1)))], [(id + 1000, [.sl .any (bs.map (.int .u8)), .int .i64 (belowC bs (sigU bs c' (k + 1)).2 3).i, .int .i64 (belowC bs (sigU bs c' (k + 1)).2 3).h]), (2, [.sl .nil []]), (3, [.sl (.own 23000 2 1) (((sigU bs c' (k + 1)).1 ++ [belowV bs (sigU bs c' (k + 1)).2 3]).map (.int .i64))])], [], [23000], [id + 1000]⟩ (by kernel_rfl) ?_ ?_; simp only [List.length_cons, List.length_nil, Nat.reduceAdd]))
        | ((refine anyB_unf ?_; simp only [stepF_n, stepF_c, goR_n, goR_c, exR_n, exR_c, memB_n, memB_c, subB_n, subB_c, moveY_m, moveY_f, cond_t, cond_f, true_and, and_true, Bool.not_false, Bool.not_true, Bool.and_true, Bool.and_false, Bool.true_and, Bool.false_and, Bool.or_false, Bool.false_or, Bool.true_or, Bool.or_true, Nat.reduceBEq, Nat.reduceAdd]))
        | ((refine anyB_move (by simp only [Nat.reduceLT]) rfl (by simp only [go_sem]; exact rfl) ?_))
        | ((refine anyB_fa (by simp only [Nat.reduceLT]) rfl rfl rfl rfl (by decide) (by simp only [go_sem]; exact rfl) ?_))
        | ((refine hK.nil (anyB_id ?_); clear hK K))
        | ((refine lops_and ?_ ?_))
        | ((refine lops_go 0 ?_; refine fun (K : List Oper → LS → Prop) (hK : KOk S 0 _ _ _ K) => ?_; simp (disch := (refine Om.mk ?_; omega)) only [go_sem]))
        | ((refine anyB_end ?_; simp (disch := (refine Om.mk ?_; omega)) only [go_sem]; (refine covers_mk0 rfl rfl ?_ ?_ ?_ ?_ <;> simp (disch := (refine Om.mk ?_; omega)) only [go_sem] <;> (try omega)); done))
        | exact Bool.noConfusion h
        | refine sw_seq ?_
        | refine sw_block ?_
        | refine sw_skip ?_
        | refine sw_inBlock ?_
        | refine sw_go 0 kp69 fun K hK => ?_
        | refine sw_goT 0 kp69 5 (id := 7) (by kernel_rfl) fun K hK => ?_
        | refine fun (K : List Oper → LS → Prop) (hK : KOk S 0 _ _ _ K) => ?_
        | refine sw_goD kp69 (by kernel_rfl) fun K hK => ?_
        | ((first | refine runL_go ?_ | refine runQ_go ?_); simp (disch := (refine Om.mk ?_; omega)) only [go_sem])
        | (refine hK.nil ?_; clear hK K; simp only [go_sem])
        | (refine sw_cond rfl (fun h => ?_) (fun h => ?_) <;> (try simp (disch := (refine Om.mk ?_; omega)) only [go_sem] at h))
        | (refine sw_exit rfl ?_)
        | (refine sw_loopEnd ?_)
        | ((first | refine sw_ret (ret0 ?_) | refine sw_ret ?_); simp (disch := (refine Om.mk ?_; omega)) only [go_sem, Try.results69])
        | (refine hK.callB rfl rfl rfl (cB3) ⟨⟨by simp only [Nat.reduceLT], (by first | (simp; all_goals fail) | (simp [LS.getBox, Lg.look]; all_goals fail)), by (simp [Lg.look]; all_goals fail), by (simp; all_goals fail), by (simp; all_goals fail)⟩, ⟨by (simp [D.ids, D.idsL]; all_goals fail), by (simp [D.ids, D.idsL]; all_goals fail), by (simp [D.tks, D.tksL]; all_goals fail), by (simp [D.tks, D.tksL]; all_goals fail), by (simp; all_goals fail)⟩, rfl⟩ ?_; simp (disch := (refine Om.mk ?_; omega)) only [go_sem])
        | (with_reducible refine And.intro (by first | omega | (simp only [List.length_append, List.length_take, List.length_drop, List.length_cons, List.length_nil, List.length_map]; omega)) ?_)
        | ((with_reducible refine And.intro ?_ ?_); · first | (intro x hx; subst hx; rfl) | exact upR_mem fun _ _ => rfl | exact mapR_mem fun _ _ => rfl | (intro x; refine And.intro ?_ ?_ <;> (intros; subst_vars; rfl)))
        | fail
      · refine ⟨k + 1 + 1, ?_, by omega, by omega⟩
        rw [hs1, hs2]
        exact (by (refine covers_mk0 rfl rfl ?_ ?_ ?_ ?_ <;> simp (disch := (refine Om.mk ?_; omega)) only [go_sem] <;> (try omega)); all_goals first | rfl | exact ⟨rfl, rfl⟩ | exact ⟨⟨rfl, rfl⟩, rfl⟩ | exact ⟨by omega, ⟨rfl, rfl⟩, rfl⟩ | exact ⟨by omega, rfl, rfl⟩ | trace_state)
      · have en : n = (k + 1) := by omega
        subst en
        exact ⟨rfl, rfl, rfl⟩
  · simp only [sigV, if_neg h0]
    refine fc_body Try.func69 rfl (by kernel_rfl) (by simp [Try.f69]) fun B => ?_
    simp only [Try.ntmps69, enumD, List.map_nil, List.map_cons, List.length_map, Nat.zero_add, Nat.reduceAdd]
    repeat' first
      | ((exfalso; omega))
      | exact Bool.noConfusion h
      | refine sw_seq ?_
      | refine sw_block ?_
      | refine sw_skip ?_
      | refine sw_inBlock ?_
      | refine sw_go 0 kp69 fun K hK => ?_
      | refine sw_goT 0 kp69 5 (id := 7) (by kernel_rfl) fun K hK => ?_
      | refine fun (K : List Oper → LS → Prop) (hK : KOk S 0 _ _ _ K) => ?_
      | refine sw_goD kp69 (by kernel_rfl) fun K hK => ?_
      | ((first | refine runL_go ?_ | refine runQ_go ?_); simp (disch := (refine Om.mk ?_; omega)) only [go_sem])
      | (refine hK.nil ?_; clear hK K; simp only [go_sem])
      | (refine sw_cond rfl (fun h => ?_) (fun h => ?_) <;> (try simp (disch := (refine Om.mk ?_; omega)) only [go_sem] at h))
      | (refine sw_exit rfl ?_)
      | (refine sw_loopEnd ?_)
      | ((first | refine sw_ret (ret0 ?_) | refine sw_ret ?_); simp (disch := (refine Om.mk ?_; omega)) only [go_sem, Try.results69])
      | (refine hK.callB rfl rfl rfl (l1Once_fc (id + 1000) bs hb c 4 (by omega)) ⟨⟨by simp only [Nat.reduceLT], (by first | (simp; all_goals fail) | (simp [LS.getBox, Lg.look]; all_goals fail)), by (simp [Lg.look]; all_goals fail), by (simp; all_goals fail), by (simp; all_goals fail)⟩, ⟨by (simp [D.ids, D.idsL]; all_goals fail), by (simp [D.ids, D.idsL]; all_goals fail), by (simp [D.tks, D.tksL]; all_goals fail), by (simp [D.tks, D.tksL]; all_goals fail), by (simp; all_goals fail)⟩, rfl⟩ ?_; simp (disch := (refine Om.mk ?_; omega)) only [go_sem])
      | (with_reducible refine And.intro (by first | omega | (simp only [List.length_append, List.length_take, List.length_drop, List.length_cons, List.length_nil, List.length_map]; omega)) ?_)
      | ((with_reducible refine And.intro ?_ ?_); · first | (intro x hx; subst hx; rfl) | exact upR_mem fun _ _ => rfl | exact mapR_mem fun _ _ => rfl | (intro x; refine And.intro ?_ ?_ <;> (intros; subst_vars; rfl)))
      | fail
    all_goals trace_state
end Go.Proofs.Ytfokjjlbdaabaaa
