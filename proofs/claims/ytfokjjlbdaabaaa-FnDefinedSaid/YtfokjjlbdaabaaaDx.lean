/-
  D0R, D0S, D0T, D0U, D0V, D08, one behind the other.
-/
import Derived.Test.YtfokjjlbdaabaaaF09p
import Derived.Test.YtfokjjlbdaabaaaA05m
import Derived.Test.YtfokjjlbdaabaaaA06s
import Derived.Test.YtfokjjlbdaabaaaA03
import Derived.Test.YtfokjjlbdaabaaaF07
import Derived.Test.YtfokjjlbdaabaaaLgK13
import Derived.Test.YtfokjjlbdaabaaaLgK12
import Derived.Test.YtfokjjlbdaabaaaF08
section
namespace Go.Proofs.Ytfokjjlbdaabaaa
open Go Go.Lg
set_option linter.unusedSimpArgs false
set_option linter.unusedVariables false
set_option maxHeartbeats 4000000
attribute [local irreducible] SW runL runQ runG runQG FC Ret1 toF redoL anyB
theorem idsL_intsZ (k : IntKind) (xs : List Int) : D.idsL (xs.map (.int k)) = [] := by
  induction xs with
  | nil => rfl
  | cons x r ih => simp [D.idsL, D.ids, ih]
theorem safeIL_intsZ (k : Nat) (tk : List Nat) (xs : List Int) : D.safeIL k tk (xs.map (.int .i64)) = true := safeIL_of fun d hd => by obtain ⟨x, _, rfl⟩ := List.mem_map.1 hd; rfl
open Classical in
noncomputable def ruleU (rs l r : List Int) : RuleT := if seenS [] l = [] ∧ ∃ n ∈ r, n < 0 ∧ n ∉ l then ⟨l, subS rs l (l.length - 1)⟩ else ⟨l, r.map (fixF l ((seenS [] l).getD 0 default))⟩
theorem ruleU_stay {rs l r : List Int} (h : ∀ j < r.length, ¬ (r.getD j default < 0 ∧ r.getD j default ∉ l)) : ruleU rs l r = ⟨l, r⟩ := by
  have hm : ∀ n ∈ r, ¬ (n < 0 ∧ n ∉ l) := fun n hn => by
    obtain ⟨j, hj, rfl⟩ := List.getElem_of_mem hn
    have := h j hj
    rwa [List.getD_eq_getElem?_getD, List.getElem?_eq_getElem hj] at this
  unfold ruleU
  rw [if_neg (fun hx => by obtain ⟨_, n, hn, hb⟩ := hx; exact hm n hn hb)]
  have e : r.map (fixF l ((seenS [] l).getD 0 default)) = r := by
    conv => rhs; rw [← List.map_id r]
    exact List.map_congr_left fun n hn => by unfold fixF; rw [if_neg (hm n hn)]; rfl
  rw [e]
theorem ruleU_leaf {rs l r : List Int} (h : seenS [] l = []) {j : Nat} (hj : j < r.length) (hb : r.getD j default < 0 ∧ r.getD j default ∉ l) : ruleU rs l r = ⟨l, subS rs l (l.length - 1)⟩ := if_pos ⟨h, _, getD_mem r j hj, hb⟩
theorem ruleU_fix {rs l r : List Int} (h : seenS [] l ≠ []) : ruleU rs l r = ⟨l, r.map (fixF l ((seenS [] l).getD 0 default))⟩ := if_neg fun hx => h hx.1
noncomputable def ruleW (bs rs : List Int) (q : List Int × Cu) : RuleT × Cu := (ruleU rs q.1 (termV bs rs 2 (belowV bs q.2 3).toNat (belowC bs q.2 3)).1, (termV bs rs 2 (belowV bs q.2 3).toNat (belowC bs q.2 3)).2)
noncomputable def ruleV (bs rs : List Int) (c : Cu) : RuleT × Cu := ruleW bs rs (leftV bs rs (termV bs rs 2 (1 + belowV bs c 2).toNat (belowC bs c 2)))
attribute [local irreducible] termV belowV belowC byteV nextC mixH nodeU
def kp85 : List (Nat × List Nat) := [(0, [0, 3, 4]), (1, [0, 3, 4, 5]), (2, [0, 3, 4, 5, 20]), (3, [0, 3, 4, 6]), (4, [0, 3, 4, 5, 6]), (5, [0, 3, 4, 5, 7]), (6, [0, 3, 4, 5, 7, 34]), (8, [0, 3, 4, 5, 7]), (7, [0, 3, 4, 5, 7]), (9, [3, 4, 5, 8]), (10, [3, 4, 5, 8, 9]), (11, [3, 4, 5, 8, 9, 51]), (13, [3, 4, 5, 8, 9, 67]), (14, [3, 4, 5, 8, 9, 10]), (15, [3, 4, 5, 8, 9, 10, 72]), (16, [4]), (17, [3, 4, 5, 8, 9]), (12, [3, 4, 5, 8, 9]), (18, [4])]
attribute [go_sem] kp85
theorem l6DrawRule_fc (bs : List Int) (hb : BytesP bs) (rs : List Int) (hs : SigOkP rs) (id : Nat) (c : Cu) : FC S 85 [] [(id + 1000, [.sl .any (bs.map (.int .u8)), .int .i64 (c).i, .int .i64 (c).h])] [] [.box (id + 1000) 0, .agg [.sl .any (rs.map (.int .i64))]] (RuleD (ruleV bs rs c).1) [(id + 1000, [.sl .any (bs.map (.int .u8)), .int .i64 ((ruleV bs rs c).2).i, .int .i64 ((ruleV bs rs c).2).h])] [] := by
  have hl := hs.1
  have hv := belowV_lt bs c (show (0 : Int) < 2 by omega)
  have cB := l1Below_fc (id + 1000) bs hb c 2 (by omega)
  obtain ⟨d, hd, hd3⟩ : ∃ d : Nat, belowV bs c 2 = (d : Int) ∧ d ≤ 1 := ⟨(belowV bs c 2).toNat, by omega, by omega⟩
  unfold ruleV
  rw [hd] at cB ⊢
  rw [show (1 + (d : Int)).toNat = d + 1 by omega]
  have cT := l1DrawTerm_fc bs hb rs hs 2 (by omega) id (d + 1) (by omega) (belowC bs c 2)
  rw [show ((d + 1 : Nat) : Int) + 1 = 2 + (d : Int) by omega] at cT
  have hT := termV_ok hs bs (vars := 2) (by omega) (d := d + 1) (by omega) (belowC bs c 2)
  generalize termV bs rs 2 (d + 1) (belowC bs c 2) = p at *
  clear hd hv
  generalize belowC bs c 2 = c1 at *
  obtain ⟨t, c2⟩ := p
  dsimp only at cT hT
  have ht := hT.2.1
  by_cases h0 : t.getD 0 default < 0
  · have hvf := belowV_lt bs c2 (n := (rs.length : Int)) (by omega)
    have cF := l1Below_fc (id + 1000) bs hb c2 rs.length (by omega)
    obtain ⟨f0, hf0, hfl⟩ : ∃ f0 : Nat, belowV bs c2 rs.length = (f0 : Int) ∧ f0 < rs.length := ⟨(belowV bs c2 rs.length).toNat, by omega, by omega⟩
    have hU := leftV_ok hs bs (p := (t, c2)) hT
    have e1 : leftV bs rs (t, c2) = nodeU (termV bs rs 2 0) (belowV bs c2 rs.length) (belowC bs c2 rs.length) (rs.getD (belowV bs c2 rs.length).toNat default).toNat := if_pos h0
    rw [e1] at hU ⊢
    rw [hf0] at cF
    rw [hf0, Int.toNat_natCast] at hU ⊢
    have hr0 := hs.2 f0 hfl
    obtain ⟨ar, har⟩ : ∃ ar : Nat, rs.getD f0 default = (ar : Int) := ⟨(rs.getD f0 default).toNat, by omega⟩
    rw [har, Int.toNat_natCast] at hU ⊢
    generalize belowC bs c2 rs.length = c5 at cF hU ⊢
    obtain ⟨u, c6, hN⟩ : ∃ u c6, nodeU (termV bs rs 2 0) f0 c5 ar = (u, c6) := ⟨_, _, rfl⟩
    rw [hN] at hU ⊢
    dsimp only at hU
    have hu := hU.2.1
    have hv3 := belowV_lt bs c6 (show (0 : Int) < 3 by omega)
    have cB3 := l1Below_fc (id + 1000) bs hb c6 3 (by omega)
    obtain ⟨e, he, he3⟩ : ∃ e : Nat, belowV bs c6 3 = (e : Int) ∧ e ≤ 2 := ⟨(belowV bs c6 3).toNat, by omega, by omega⟩
    unfold ruleW
    dsimp only
    rw [he] at cB3 ⊢
    rw [Int.toNat_natCast]
    have cR := l1DrawTerm_fc bs hb rs hs 2 (by omega) id e (by omega) (belowC bs c6 3)
    rw [show (e : Int) + 1 = 1 + (e : Int) by omega] at cR
    have hR := termV_ok hs bs (vars := 2) (by omega) (d := e) (by omega) (belowC bs c6 3)
    generalize termV bs rs 2 e (belowC bs c6 3) = q at *
    clear he hv3
    generalize belowC bs c6 3 = c3 at *
    obtain ⟨r, c4⟩ := q
    dsimp only at cR hR ⊢
    have hr := hR.2.1
    have hne : r ≠ [] := by rintro rfl; simp at hr
    refine fc_bodyP Try.func85 rfl (by kernel_rfl) (by simp [Try.f85]) fun B hP => ?_
    simp only [Try.ntmps85, enumD, List.map_nil, List.map_cons, List.length_map, Nat.zero_add, Nat.reduceAdd]
    repeat' first
      | ((exfalso; omega))
      | ((refine sw_any (id := 1) kp85 [(true, []), (false, []), (true, []), (false, [2]), (false, [3]), (false, [0, 1, 4, 3]), (false, [5, 5, 0, 1, 2, 3, 4, 5])] ⟨90, [(0, .box (id + 1000) 0), (3, .box 3 0), (4, .box 4 0), (5, .sl (.own 17000 2 1) (t.map (.int .i64)))], [(id + 1000, [.sl .any (bs.map (.int .u8)), .int .i64 (c2).i, .int .i64 (c2).h]), (3, [.sl .any (rs.map (.int .i64))]), (4, [.sl .nil [], .sl .nil []])], [], [17000], [id + 1000]⟩ (by kernel_rfl) ?_ ?_; simp only [List.length_cons, List.length_nil, Nat.reduceAdd]))
      | ((refine anyB_unf ?_; simp only [stepF_n, stepF_c, goR_n, goR_c, exR_n, exR_c, memB_n, memB_c, subB_n, subB_c, moveY_m, moveY_f, cond_t, cond_f, true_and, and_true, Bool.not_false, Bool.not_true, Bool.and_true, Bool.and_false, Bool.true_and, Bool.false_and, Bool.or_false, Bool.false_or, Bool.true_or, Bool.or_true, Nat.reduceBEq, Nat.reduceAdd]))
      | ((refine anyB_move (by simp only [Nat.reduceLT]) rfl (by simp only [go_sem]; exact rfl) ?_))
      | ((refine anyB_fa (by simp only [Nat.reduceLT]) rfl rfl rfl rfl (by decide) (by simp only [go_sem]; exact rfl) ?_))
      | ((refine hK.nil (anyB_id ?_); clear hK K))
      | ((refine lops_and ?_ ?_))
      | ((refine lops_go 0 ?_; refine fun (K : List Oper → LS → Prop) (hK : KOk S 0 _ _ _ K) => ?_; simp (disch := (refine Om.mk ?_; omega)) only [go_sem]))
      | ((refine anyB_end ?_; simp (disch := (refine Om.mk ?_; omega)) only [go_sem]; (refine covers_mk0 rfl rfl ?_ ?_ ?_ ?_ <;> simp (disch := (refine Om.mk ?_; omega)) only [go_sem] <;> (try omega)); done))
      | ((refine anyB_end ?_; simp (disch := (refine Om.mk ?_; omega)) only [go_sem]; (refine covers_mk0 rfl rfl ?_ ?_ ?_ ?_ <;> simp (disch := (refine Om.mk ?_; omega)) only [go_sem] <;> (try omega)); all_goals (simp; done)))
      | ((refine sw_goB (id := 4) 0 kp85 1 42000 rfl fun K hK => ?_))
      | ((refine ⟨_, _, _, rfl, rfl, rfl, ⟨⟨by simp only [Nat.reduceLT], by decide, by decide, by decide⟩, rfl, by simp [D.strip, strip1, D.cells, D.memOk, TyI.size]⟩, rfl, by simp only [Nat.reduceLT], ?_⟩; simp only [go_sem]))
      | ((rw [har]; simp only [go_sem]))
      | exact Bool.noConfusion h
      | refine sw_seq ?_
      | refine sw_block ?_
      | refine sw_skip ?_
      | refine sw_inBlock ?_
      | refine sw_go 0 kp85 fun K hK => ?_
      | refine fun (K : List Oper → LS → Prop) (hK : KOk S 0 _ _ _ K) => ?_
      | refine sw_goD kp85 (by kernel_rfl) fun K hK => ?_
      | ((first | refine runL_go ?_ | refine runQ_go ?_); simp (disch := (refine Om.mk ?_; omega)) only [go_sem])
      | (refine hK.nil ?_; clear hK K; simp only [go_sem])
      | (refine runG_fork rfl rfl rfl rfl rfl (fun h => ?_) (fun h => ?_) <;> (try simp (disch := (refine Om.mk ?_; omega)) only [go_sem] at h))
      | (refine runQG_fork rfl rfl rfl rfl rfl (fun h => ?_) (fun h => ?_) <;> (try simp (disch := (refine Om.mk ?_; omega)) only [go_sem] at h))
      | (refine hK.skip rfl (by simp only [dstOk, Nat.reduceLT]) ?_)
      | (refine sw_cond rfl (fun h => ?_) (fun h => ?_) <;> (try simp (disch := (refine Om.mk ?_; omega)) only [go_sem] at h))
      | (refine sw_exit rfl ?_)
      | (refine sw_loopEnd ?_)
      | ((first | refine sw_ret (ret0 ?_) | refine sw_ret ?_); simp (disch := (refine Om.mk ?_; omega)) only [go_sem, Try.results85])
      | (refine hK.callB rfl rfl rfl (cB) ⟨⟨by simp only [Nat.reduceLT], (by first | (simp; all_goals fail) | (simp [LS.getBox, Lg.look]; all_goals fail)), by (simp [Lg.look]; all_goals fail), by (simp; all_goals fail), by (simp; all_goals fail)⟩, ⟨by (simp [D.ids, D.idsL]; all_goals fail), by (simp [D.ids, D.idsL]; all_goals fail), by (simp [D.tks, D.tksL]; all_goals fail), by (simp [D.tks, D.tksL]; all_goals fail), by (simp; all_goals fail)⟩, rfl⟩ ?_; simp (disch := (refine Om.mk ?_; omega)) only [go_sem])
      | (refine hK.callB rfl rfl rfl (cT) ⟨⟨by simp only [Nat.reduceLT], (by first | (simp; all_goals fail) | (simp [LS.getBox, Lg.look]; all_goals fail)), by (simp [Lg.look]; all_goals fail), by (simp; all_goals fail), by (simp; all_goals fail)⟩, ⟨by (simp [D.ids, D.idsL]; all_goals fail), by (simp [D.ids, D.idsL]; all_goals fail), by (simp [D.tks, D.tksL]; all_goals fail), by (simp [D.tks, D.tksL]; all_goals fail), by (simp; all_goals fail)⟩, rfl⟩ ?_; simp (disch := (refine Om.mk ?_; omega)) only [go_sem])
      | (refine hK.callB rfl rfl rfl (cF) ⟨⟨by simp only [Nat.reduceLT], (by first | (simp; all_goals fail) | (simp [LS.getBox, Lg.look]; all_goals fail)), by (simp [Lg.look]; all_goals fail), by (simp; all_goals fail), by (simp; all_goals fail)⟩, ⟨by (simp [D.ids, D.idsL]; all_goals fail), by (simp [D.ids, D.idsL]; all_goals fail), by (simp [D.tks, D.tksL]; all_goals fail), by (simp [D.tks, D.tksL]; all_goals fail), by (simp; all_goals fail)⟩, rfl⟩ ?_; simp (disch := (refine Om.mk ?_; omega)) only [go_sem])
      | (refine hK.fork rfl rfl rfl (fun h => ?_) (fun h => ?_) <;> (try simp (disch := (refine Om.mk ?_; omega)) only [go_sem] at h))
      | (with_reducible refine And.intro (by first | omega | (simp only [List.length_append, List.length_take, List.length_drop, List.length_cons, List.length_nil, List.length_map]; omega)) ?_)
      | ((with_reducible refine And.intro ?_ ?_); · first | (intro x hx; subst hx; rfl) | exact upR_mem fun _ _ => rfl | exact mapR_mem fun _ _ => rfl | (intro x; refine And.intro ?_ ?_ <;> (intros; subst_vars; rfl)))
      | fail
    refine sw_loopT (ι := Nat) (fun k => [(7, .int .i64 ((ar : Int) - k)), (5, .sl (.own 42000 2 1) ((nodeU (termV bs rs 2 0) f0 c5 k).1.map (.int .i64)))]) (fun k => [(id + 1000, [.sl .any (bs.map (.int .u8)), .int .i64 ((nodeU (termV bs rs 2 0) f0 c5 k).2).i, .int .i64 ((nodeU (termV bs rs 2 0) f0 c5 k).2).h])]) (fun _ => [42000]) (fun k => k ≤ ar) (fun k => ar - k) 0 (by rw [nodeU_z]; (refine covers_mk0 rfl rfl ?_ ?_ ?_ ?_ <;> simp (disch := (refine Om.mk ?_; omega)) only [go_sem] <;> (try omega)); all_goals first | rfl | exact ⟨rfl, rfl⟩ | omega | trace_state) (by omega) (fun k hk => ?_)
    simp only [go_sem]
    have hl1 := nodeU_len (fun c => termV_len bs rs hs 2 0 c) (f0 : Int) c5 k
    have hl2 := termV_len bs rs hs 2 0 (nodeU (termV bs rs 2 0) f0 c5 k).2
    rw [Nat.pow_zero] at hl1 hl2
    have hs1 := nodeU_s1 (termV bs rs 2 0) f0 c5 k
    have hs2 := nodeU_s2 (termV bs rs 2 0) f0 c5 k
    have ih' := l1DrawTerm_fc bs hb rs hs 2 (by omega) id 0 (by omega) (nodeU (termV bs rs 2 0) f0 c5 k).2
    rw [show (((0 : Nat)) : Int) + 1 = 1 by rfl] at ih'
    by_cases hk2 : k < ar
    · generalize nodeU (termV bs rs 2 0) f0 c5 k = p at *
      repeat' first
        | ((exfalso; omega))
        | ((refine ⟨(by simp), by omega, by omega, ?_⟩))
        | exact Bool.noConfusion h
        | refine sw_seq ?_
        | refine sw_block ?_
        | refine sw_skip ?_
        | refine sw_inBlock ?_
        | refine sw_go 0 kp85 fun K hK => ?_
        | refine fun (K : List Oper → LS → Prop) (hK : KOk S 0 _ _ _ K) => ?_
        | refine sw_goD kp85 (by kernel_rfl) fun K hK => ?_
        | ((first | refine runL_go ?_ | refine runQ_go ?_); simp (disch := (refine Om.mk ?_; omega)) only [go_sem])
        | (refine hK.nil ?_; clear hK K; simp only [go_sem])
        | (refine runG_fork rfl rfl rfl rfl rfl (fun h => ?_) (fun h => ?_) <;> (try simp (disch := (refine Om.mk ?_; omega)) only [go_sem] at h))
        | (refine runQG_fork rfl rfl rfl rfl rfl (fun h => ?_) (fun h => ?_) <;> (try simp (disch := (refine Om.mk ?_; omega)) only [go_sem] at h))
        | (refine hK.skip rfl (by simp only [dstOk, Nat.reduceLT]) ?_)
        | (refine sw_cond rfl (fun h => ?_) (fun h => ?_) <;> (try simp (disch := (refine Om.mk ?_; omega)) only [go_sem] at h))
        | (refine sw_exit rfl ?_)
        | (refine sw_loopEnd ?_)
        | ((first | refine sw_ret (ret0 ?_) | refine sw_ret ?_); simp (disch := (refine Om.mk ?_; omega)) only [go_sem, Try.results85])
        | (refine hK.callB rfl rfl rfl (ih') ⟨⟨by simp only [Nat.reduceLT], (by first | (simp; all_goals fail) | (simp [LS.getBox, Lg.look]; all_goals fail)), by (simp [Lg.look]; all_goals fail), by (simp; all_goals fail), by (simp; all_goals fail)⟩, ⟨by (simp [D.ids, D.idsL]; all_goals fail), by (simp [D.ids, D.idsL]; all_goals fail), by (simp [D.tks, D.tksL]; all_goals fail), by (simp [D.tks, D.tksL]; all_goals fail), by (simp; all_goals fail)⟩, rfl⟩ ?_; simp (disch := (refine Om.mk ?_; omega)) only [go_sem])
        | (refine hK.fork rfl rfl rfl (fun h => ?_) (fun h => ?_) <;> (try simp (disch := (refine Om.mk ?_; omega)) only [go_sem] at h))
        | (with_reducible refine And.intro (by first | omega | (simp only [List.length_append, List.length_take, List.length_drop, List.length_cons, List.length_nil, List.length_map]; omega)) ?_)
        | ((with_reducible refine And.intro ?_ ?_); · first | (intro x hx; subst hx; rfl) | exact upR_mem fun _ _ => rfl | exact mapR_mem fun _ _ => rfl | (intro x; refine And.intro ?_ ?_ <;> (intros; subst_vars; rfl)))
        | fail
      refine ⟨k + 1, ?_, by omega, by omega⟩
      rw [hs1, hs2]
      exact (by (refine covers_mk0 rfl rfl ?_ ?_ ?_ ?_ <;> simp (disch := (refine Om.mk ?_; omega)) only [go_sem] <;> (try omega)); all_goals first | rfl | exact ⟨rfl, rfl⟩ | exact ⟨by omega, rfl⟩ | omega | trace_state)
    · obtain rfl : k = ar := by omega
      rw [hN]
      dsimp only
      by_cases hvs : seenS [] u = []
      · have cO := l2Order_fc u (by omega)
        rw [hvs] at cO
        have cS := l1Sub_fc .any (.own 42000 2 1) rs u (u.length - 1) hU (by omega)
        rw [show ((u.length - 1 : Nat) : Int) = (u.length : Int) - 1 by omega] at cS
        repeat' first
          | ((exfalso; omega))
          | ((refine sw_any (id := 9) kp85 [(true, []), (false, []), (true, []), (false, [2]), (false, [3]), (false, [0, 1, 4, 3]), (false, [5, 5, 0, 1, 2, 3, 4, 5])] ⟨90, [(3, .box 3 0), (4, .box 4 0), (5, .sl (.own 42000 2 1) (u.map (.int .i64))), (8, .sl (.own 48000 2 1) (r.map (.int .i64)))], [(id + 1000, [.sl .any (bs.map (.int .u8)), .int .i64 (c4).i, .int .i64 (c4).h]), (3, [.sl .any (rs.map (.int .i64))]), (4, [.sl .nil [], .sl .nil []])], [], [48000, 42000], [id + 1000]⟩ (by kernel_rfl) ?_ ?_; simp only [List.length_cons, List.length_nil, Nat.reduceAdd]))
          | ((refine anyB_unf ?_; simp only [stepF_n, stepF_c, goR_n, goR_c, exR_n, exR_c, memB_n, memB_c, subB_n, subB_c, moveY_m, moveY_f, cond_t, cond_f, true_and, and_true, Bool.not_false, Bool.not_true, Bool.and_true, Bool.and_false, Bool.true_and, Bool.false_and, Bool.or_false, Bool.false_or, Bool.true_or, Bool.or_true, Nat.reduceBEq, Nat.reduceAdd]))
          | ((refine anyB_move (by simp only [Nat.reduceLT]) rfl (by simp only [go_sem]; exact rfl) ?_))
          | ((refine anyB_fa (by simp only [Nat.reduceLT]) rfl rfl rfl rfl (by decide) (by simp only [go_sem]; exact rfl) ?_))
          | ((refine hK.nil (anyB_id ?_); clear hK K))
          | ((refine lops_and ?_ ?_))
          | ((refine lops_go 0 ?_; refine fun (K : List Oper → LS → Prop) (hK : KOk S 0 _ _ _ K) => ?_; simp (disch := (refine Om.mk ?_; omega)) only [go_sem]))
          | ((refine anyB_end ?_; simp (disch := (refine Om.mk ?_; omega)) only [go_sem]; (refine covers_mk0 rfl rfl ?_ ?_ ?_ ?_ <;> simp (disch := (refine Om.mk ?_; omega)) only [go_sem] <;> (try omega)); done))
          | ((refine anyB_end ?_; simp (disch := (refine Om.mk ?_; omega)) only [go_sem]; (refine covers_mk0 rfl rfl ?_ ?_ ?_ ?_ <;> simp (disch := (refine Om.mk ?_; omega)) only [go_sem] <;> (try omega)); all_goals (simp; done)))
          | exact Bool.noConfusion h
          | refine sw_seq ?_
          | refine sw_block ?_
          | refine sw_skip ?_
          | refine sw_inBlock ?_
          | refine sw_go 0 kp85 fun K hK => ?_
          | refine fun (K : List Oper → LS → Prop) (hK : KOk S 0 _ _ _ K) => ?_
          | refine sw_goD kp85 (by kernel_rfl) fun K hK => ?_
          | ((first | refine runL_go ?_ | refine runQ_go ?_); simp (disch := (refine Om.mk ?_; omega)) only [go_sem])
          | (refine hK.nil ?_; clear hK K; simp only [go_sem])
          | (refine runG_fork rfl rfl rfl rfl rfl (fun h => ?_) (fun h => ?_) <;> (try simp (disch := (refine Om.mk ?_; omega)) only [go_sem] at h))
          | (refine runQG_fork rfl rfl rfl rfl rfl (fun h => ?_) (fun h => ?_) <;> (try simp (disch := (refine Om.mk ?_; omega)) only [go_sem] at h))
          | (refine hK.skip rfl (by simp only [dstOk, Nat.reduceLT]) ?_)
          | (refine sw_cond rfl (fun h => ?_) (fun h => ?_) <;> (try simp (disch := (refine Om.mk ?_; omega)) only [go_sem] at h))
          | (refine sw_exit rfl ?_)
          | (refine sw_loopEnd ?_)
          | ((first | refine sw_ret (ret0 ?_) | refine sw_ret ?_); simp (disch := (refine Om.mk ?_; omega)) only [go_sem, Try.results85])
          | (refine hK.callB rfl rfl rfl (cB3) ⟨⟨by simp only [Nat.reduceLT], (by first | (simp; all_goals fail) | (simp [LS.getBox, Lg.look]; all_goals fail)), by (simp [Lg.look]; all_goals fail), by (simp; all_goals fail), by (simp; all_goals fail)⟩, ⟨by (simp [D.ids, D.idsL]; all_goals fail), by (simp [D.ids, D.idsL]; all_goals fail), by (simp [D.tks, D.tksL]; all_goals fail), by (simp [D.tks, D.tksL]; all_goals fail), by (simp; all_goals fail)⟩, rfl⟩ ?_; simp (disch := (refine Om.mk ?_; omega)) only [go_sem])
          | (refine hK.callB rfl rfl rfl (cR) ⟨⟨by simp only [Nat.reduceLT], (by first | (simp; all_goals fail) | (simp [LS.getBox, Lg.look]; all_goals fail)), by (simp [Lg.look]; all_goals fail), by (simp; all_goals fail), by (simp; all_goals fail)⟩, ⟨by (simp [D.ids, D.idsL]; all_goals fail), by (simp [D.ids, D.idsL]; all_goals fail), by (simp [D.tks, D.tksL]; all_goals fail), by (simp [D.tks, D.tksL]; all_goals fail), by (simp; all_goals fail)⟩, rfl⟩ ?_; simp (disch := (refine Om.mk ?_; omega)) only [go_sem])
          | (refine hK.fork rfl rfl rfl (fun h => ?_) (fun h => ?_) <;> (try simp (disch := (refine Om.mk ?_; omega)) only [go_sem] at h))
          | (with_reducible refine And.intro (by first | omega | (simp only [List.length_append, List.length_take, List.length_drop, List.length_cons, List.length_nil, List.length_map]; omega)) ?_)
          | ((with_reducible refine And.intro ?_ ?_); · first | (intro x hx; subst hx; rfl) | exact upR_mem fun _ _ => rfl | exact mapR_mem fun _ _ => rfl | (intro x; refine And.intro ?_ ?_ <;> (intros; subst_vars; rfl)))
          | fail
        refine sw_loopT (ι := Nat) (fun i => [(9, .int .i64 i)]) (fun _ => []) (fun _ => [48000, 42000]) (fun i => i ≤ r.length ∧ ∀ j < i, ¬ (r.getD j default < 0 ∧ r.getD j default ∉ u)) (fun i => r.length - i) 0 (by (refine covers_mk0 rfl rfl ?_ ?_ ?_ ?_ <;> simp (disch := (refine Om.mk ?_; omega)) only [go_sem] <;> (try omega))) ⟨by omega, fun j hj => absurd hj (by omega)⟩ (fun i hi => ?_)
        obtain ⟨hi, hj⟩ := hi
        simp only [go_sem]
        by_cases hil : i < r.length
        · repeat' first
            | ((exfalso; omega))
            | exact Bool.noConfusion h
            | refine sw_seq ?_
            | refine sw_block ?_
            | refine sw_skip ?_
            | refine sw_inBlock ?_
            | refine sw_go 0 kp85 fun K hK => ?_
            | refine fun (K : List Oper → LS → Prop) (hK : KOk S 0 _ _ _ K) => ?_
            | refine sw_goD kp85 (by kernel_rfl) fun K hK => ?_
            | ((first | refine runL_go ?_ | refine runQ_go ?_); simp (disch := (refine Om.mk ?_; omega)) only [go_sem])
            | (refine hK.nil ?_; clear hK K; simp only [go_sem])
            | (refine runG_fork rfl rfl rfl rfl rfl (fun h => ?_) (fun h => ?_) <;> (try simp (disch := (refine Om.mk ?_; omega)) only [go_sem] at h))
            | (refine runQG_fork rfl rfl rfl rfl rfl (fun h => ?_) (fun h => ?_) <;> (try simp (disch := (refine Om.mk ?_; omega)) only [go_sem] at h))
            | (refine hK.skip rfl (by simp only [dstOk, Nat.reduceLT]) ?_)
            | (refine sw_cond rfl (fun h => ?_) (fun h => ?_) <;> (try simp (disch := (refine Om.mk ?_; omega)) only [go_sem] at h))
            | (refine sw_exit rfl ?_)
            | (refine sw_loopEnd ?_)
            | ((first | refine sw_ret (ret0 ?_) | refine sw_ret ?_); simp (disch := (refine Om.mk ?_; omega)) only [go_sem, Try.results85])
            | refine hK.call rfl rfl rfl (l1Has_fc _ _ _) ⟨(by intro p hp; cases hp), rfl, rfl, (by simp only [dstOk, Nat.reduceLT])⟩ ?_
            | (refine hK.call rfl rfl rfl (FC.args (cO) ?le) ⟨(by intro p hp; cases hp), rfl, rfl, (by simp only [dstOk, Nat.reduceLT])⟩ ?_; case le => (simp only [go_sem]; repeat' first | exact trivial | exact D.le.refl _ | exact D.le.any | refine And.intro ?_ ?_))
            | refine hK.call rfl rfl rfl (cS) ⟨(by intro p hp; cases hp), rfl, rfl, (by simp only [dstOk, Nat.reduceLT])⟩ ?_
            | (refine hK.fork rfl rfl rfl (fun h => ?_) (fun h => ?_) <;> (try simp (disch := (refine Om.mk ?_; omega)) only [go_sem] at h))
            | (with_reducible refine And.intro (by first | omega | (simp only [List.length_append, List.length_take, List.length_drop, List.length_cons, List.length_nil, List.length_map]; omega)) ?_)
            | ((with_reducible refine And.intro ?_ ?_); · first | (intro x hx; subst hx; rfl) | exact upR_mem fun _ _ => rfl | exact mapR_mem fun _ _ => rfl | (intro x; refine And.intro ?_ ?_ <;> (intros; subst_vars; rfl)))
            | fail
          all_goals first | exact ⟨i + 1, (by (refine covers_mk0 rfl rfl ?_ ?_ ?_ ?_ <;> simp (disch := (refine Om.mk ?_; omega)) only [go_sem] <;> (try omega))), ⟨by omega, upto_succ hj (by intro hb; first | exact hb.2 (by assumption) | omega)⟩, by omega⟩ | (rw [ruleU_leaf hvs hil ⟨by assumption, by assumption⟩]; exact ⟨rfl, rfl⟩) | trace_state
        · repeat' first
            | ((exfalso; omega))
            | exact Bool.noConfusion h
            | refine sw_seq ?_
            | refine sw_block ?_
            | refine sw_skip ?_
            | refine sw_inBlock ?_
            | refine sw_go 0 kp85 fun K hK => ?_
            | refine fun (K : List Oper → LS → Prop) (hK : KOk S 0 _ _ _ K) => ?_
            | refine sw_goD kp85 (by kernel_rfl) fun K hK => ?_
            | ((first | refine runL_go ?_ | refine runQ_go ?_); simp (disch := (refine Om.mk ?_; omega)) only [go_sem])
            | (refine hK.nil ?_; clear hK K; simp only [go_sem])
            | (refine runG_fork rfl rfl rfl rfl rfl (fun h => ?_) (fun h => ?_) <;> (try simp (disch := (refine Om.mk ?_; omega)) only [go_sem] at h))
            | (refine runQG_fork rfl rfl rfl rfl rfl (fun h => ?_) (fun h => ?_) <;> (try simp (disch := (refine Om.mk ?_; omega)) only [go_sem] at h))
            | (refine hK.skip rfl (by simp only [dstOk, Nat.reduceLT]) ?_)
            | (refine sw_cond rfl (fun h => ?_) (fun h => ?_) <;> (try simp (disch := (refine Om.mk ?_; omega)) only [go_sem] at h))
            | (refine sw_exit rfl ?_)
            | (refine sw_loopEnd ?_)
            | ((first | refine sw_ret (ret0 ?_) | refine sw_ret ?_); simp (disch := (refine Om.mk ?_; omega)) only [go_sem, Try.results85])
            | (refine hK.fork rfl rfl rfl (fun h => ?_) (fun h => ?_) <;> (try simp (disch := (refine Om.mk ?_; omega)) only [go_sem] at h))
            | (with_reducible refine And.intro (by first | omega | (simp only [List.length_append, List.length_take, List.length_drop, List.length_cons, List.length_nil, List.length_map]; omega)) ?_)
            | ((with_reducible refine And.intro ?_ ?_); · first | (intro x hx; subst hx; rfl) | exact upR_mem fun _ _ => rfl | exact mapR_mem fun _ _ => rfl | (intro x; refine And.intro ?_ ?_ <;> (intros; subst_vars; rfl)))
            | fail
          rw [ruleU_stay fun j hj' => hj j (by omega)]
          exact ⟨rfl, rfl⟩
      · have hv0 : 0 < (seenS [] u).length := List.length_pos_iff.2 hvs
        have cO := l2Order_fc u (by omega)
        repeat' first
          | ((exfalso; omega))
          | ((refine sw_any (id := 9) kp85 [(true, []), (false, []), (true, []), (false, [2]), (false, [3]), (false, [0, 1, 4, 3]), (false, [5, 5, 0, 1, 2, 3, 4, 5])] ⟨90, [(3, .box 3 0), (4, .box 4 0), (5, .sl (.own 42000 2 1) (u.map (.int .i64))), (8, .sl (.own 48000 2 1) (r.map (.int .i64)))], [(id + 1000, [.sl .any (bs.map (.int .u8)), .int .i64 (c4).i, .int .i64 (c4).h]), (3, [.sl .any (rs.map (.int .i64))]), (4, [.sl .nil [], .sl .nil []])], [], [48000, 42000], [id + 1000]⟩ (by kernel_rfl) ?_ ?_; simp only [List.length_cons, List.length_nil, Nat.reduceAdd]))
          | ((refine anyB_unf ?_; simp only [stepF_n, stepF_c, goR_n, goR_c, exR_n, exR_c, memB_n, memB_c, subB_n, subB_c, moveY_m, moveY_f, cond_t, cond_f, true_and, and_true, Bool.not_false, Bool.not_true, Bool.and_true, Bool.and_false, Bool.true_and, Bool.false_and, Bool.or_false, Bool.false_or, Bool.true_or, Bool.or_true, Nat.reduceBEq, Nat.reduceAdd]))
          | ((refine anyB_move (by simp only [Nat.reduceLT]) rfl (by simp only [go_sem]; exact rfl) ?_))
          | ((refine anyB_fa (by simp only [Nat.reduceLT]) rfl rfl rfl rfl (by decide) (by simp only [go_sem]; exact rfl) ?_))
          | ((refine hK.nil (anyB_id ?_); clear hK K))
          | ((refine lops_and ?_ ?_))
          | ((refine lops_go 0 ?_; refine fun (K : List Oper → LS → Prop) (hK : KOk S 0 _ _ _ K) => ?_; simp (disch := (refine Om.mk ?_; omega)) only [go_sem]))
          | ((refine anyB_end ?_; simp (disch := (refine Om.mk ?_; omega)) only [go_sem]; (refine covers_mk0 rfl rfl ?_ ?_ ?_ ?_ <;> simp (disch := (refine Om.mk ?_; omega)) only [go_sem] <;> (try omega)); done))
          | ((refine anyB_end ?_; simp (disch := (refine Om.mk ?_; omega)) only [go_sem]; (refine covers_mk0 rfl rfl ?_ ?_ ?_ ?_ <;> simp (disch := (refine Om.mk ?_; omega)) only [go_sem] <;> (try omega)); all_goals (simp; done)))
          | ((refine sw_thawAt 10 8 500 rfl (by simp) hne (by simp only [List.mem_cons, List.not_mem_nil, or_false]; omega) hP [(4, .box 4 0), (5, .sl (.own 42000 2 1) (u.map (.int .i64)))] [(id + 1000, [.sl .any (bs.map (.int .u8)), .int .i64 (c4).i, .int .i64 (c4).h]), (4, [.sl .nil [], .sl .nil []])] (by intro q hq; simp only [List.mem_cons, List.not_mem_nil, or_false] at hq; rcases hq with rfl | rfl <;> exact ⟨rfl, by simp [D.safeI, safeIL_intsZ], by simp [D.ids, D.idsL, idsL_intsZ]⟩) (by intro q hq; simp only [List.mem_cons, List.not_mem_nil, or_false] at hq; rcases hq with rfl | rfl <;> exact ⟨by first | omega | (show id + 1000 ≠ 500; omega), by simp [Lg.look], by simp [D.safeIL, D.safeI, D.offIL, offI_u8, safeI_u8, safeIL_intsZ], by simp [D.idsL, D.ids, idsL_intsZ]⟩) ?_; simp only [go_sem]))
          | exact Bool.noConfusion h
          | refine sw_seq ?_
          | refine sw_block ?_
          | refine sw_skip ?_
          | refine sw_inBlock ?_
          | refine sw_go 0 kp85 fun K hK => ?_
          | refine fun (K : List Oper → LS → Prop) (hK : KOk S 0 _ _ _ K) => ?_
          | refine sw_goD kp85 (by kernel_rfl) fun K hK => ?_
          | ((first | refine runL_go ?_ | refine runQ_go ?_); simp (disch := (refine Om.mk ?_; omega)) only [go_sem])
          | (refine hK.nil ?_; clear hK K; simp only [go_sem])
          | (refine runG_fork rfl rfl rfl rfl rfl (fun h => ?_) (fun h => ?_) <;> (try simp (disch := (refine Om.mk ?_; omega)) only [go_sem] at h))
          | (refine runQG_fork rfl rfl rfl rfl rfl (fun h => ?_) (fun h => ?_) <;> (try simp (disch := (refine Om.mk ?_; omega)) only [go_sem] at h))
          | (refine hK.skip rfl (by simp only [dstOk, Nat.reduceLT]) ?_)
          | (refine sw_cond rfl (fun h => ?_) (fun h => ?_) <;> (try simp (disch := (refine Om.mk ?_; omega)) only [go_sem] at h))
          | (refine sw_exit rfl ?_)
          | (refine sw_loopEnd ?_)
          | ((first | refine sw_ret (ret0 ?_) | refine sw_ret ?_); simp (disch := (refine Om.mk ?_; omega)) only [go_sem, Try.results85])
          | (refine hK.callB rfl rfl rfl (cB3) ⟨⟨by simp only [Nat.reduceLT], (by first | (simp; all_goals fail) | (simp [LS.getBox, Lg.look]; all_goals fail)), by (simp [Lg.look]; all_goals fail), by (simp; all_goals fail), by (simp; all_goals fail)⟩, ⟨by (simp [D.ids, D.idsL]; all_goals fail), by (simp [D.ids, D.idsL]; all_goals fail), by (simp [D.tks, D.tksL]; all_goals fail), by (simp [D.tks, D.tksL]; all_goals fail), by (simp; all_goals fail)⟩, rfl⟩ ?_; simp (disch := (refine Om.mk ?_; omega)) only [go_sem])
          | (refine hK.callB rfl rfl rfl (cR) ⟨⟨by simp only [Nat.reduceLT], (by first | (simp; all_goals fail) | (simp [LS.getBox, Lg.look]; all_goals fail)), by (simp [Lg.look]; all_goals fail), by (simp; all_goals fail), by (simp; all_goals fail)⟩, ⟨by (simp [D.ids, D.idsL]; all_goals fail), by (simp [D.ids, D.idsL]; all_goals fail), by (simp [D.tks, D.tksL]; all_goals fail), by (simp [D.tks, D.tksL]; all_goals fail), by (simp; all_goals fail)⟩, rfl⟩ ?_; simp (disch := (refine Om.mk ?_; omega)) only [go_sem])
          | (refine hK.fork rfl rfl rfl (fun h => ?_) (fun h => ?_) <;> (try simp (disch := (refine Om.mk ?_; omega)) only [go_sem] at h))
          | (with_reducible refine And.intro (by first | omega | (simp only [List.length_append, List.length_take, List.length_drop, List.length_cons, List.length_nil, List.length_map]; omega)) ?_)
          | ((with_reducible refine And.intro ?_ ?_); · first | (intro x hx; subst hx; rfl) | exact upR_mem fun _ _ => rfl | exact mapR_mem fun _ _ => rfl | (intro x; refine And.intro ?_ ?_ <;> (intros; subst_vars; rfl)))
          | fail
        rw [ruleU_fix hvs]
        generalize hvd : (seenS [] u).getD 0 default = v at *
        refine sw_loopT (ι := Nat) (fun i => [(9, .int .i64 i)]) (fun i => [(500, (fixR u r v i).map (.int .i64))]) (fun _ => [42000]) (fun i => i ≤ r.length) (fun i => r.length - i) 0 (by (refine covers_mk0 rfl rfl ?_ ?_ ?_ ?_ <;> simp (disch := (refine Om.mk ?_; omega)) only [go_sem] <;> (try omega)); all_goals first | (simp [fixR]; done) | (simp; done)) (by omega) (fun i hi => ?_)
        simp only [go_sem]
        have hfl := fixR_len u r v i
        have hfg := @fixR_get u r v i
        have hfn := @fixR_next u r v i
        have hfs := @fixR_stay u r v i
        by_cases hil : i < r.length
        · have hfg := hfg hil
          repeat' first
            | ((exfalso; omega))
            | exact Bool.noConfusion h
            | refine sw_seq ?_
            | refine sw_block ?_
            | refine sw_skip ?_
            | refine sw_inBlock ?_
            | refine sw_go 0 kp85 fun K hK => ?_
            | refine fun (K : List Oper → LS → Prop) (hK : KOk S 0 _ _ _ K) => ?_
            | refine sw_goD kp85 (by kernel_rfl) fun K hK => ?_
            | ((first | refine runL_go ?_ | refine runQ_go ?_); simp (disch := (refine Om.mk ?_; omega)) only [go_sem])
            | (refine hK.nil ?_; clear hK K; simp only [go_sem])
            | (refine runG_fork rfl rfl rfl rfl rfl (fun h => ?_) (fun h => ?_) <;> (try simp (disch := (refine Om.mk ?_; omega)) only [go_sem] at h))
            | (refine runQG_fork rfl rfl rfl rfl rfl (fun h => ?_) (fun h => ?_) <;> (try simp (disch := (refine Om.mk ?_; omega)) only [go_sem] at h))
            | (refine hK.skip rfl (by simp only [dstOk, Nat.reduceLT]) ?_)
            | (refine sw_cond rfl (fun h => ?_) (fun h => ?_) <;> (try simp (disch := (refine Om.mk ?_; omega)) only [go_sem] at h))
            | (refine sw_exit rfl ?_)
            | (refine sw_loopEnd ?_)
            | ((first | refine sw_ret (ret0 ?_) | refine sw_ret ?_); simp (disch := (refine Om.mk ?_; omega)) only [go_sem, Try.results85])
            | refine hK.call rfl rfl rfl (l1Has_fc _ _ _) ⟨(by intro p hp; cases hp), rfl, rfl, (by simp only [dstOk, Nat.reduceLT])⟩ ?_
            | (refine hK.call rfl rfl rfl (FC.args (cO) ?le) ⟨(by intro p hp; cases hp), rfl, rfl, (by simp only [dstOk, Nat.reduceLT])⟩ ?_; case le => (simp only [go_sem]; repeat' first | exact trivial | exact D.le.refl _ | exact D.le.any | refine And.intro ?_ ?_))
            | (refine hK.fork rfl rfl rfl (fun h => ?_) (fun h => ?_) <;> (try simp (disch := (refine Om.mk ?_; omega)) only [go_sem] at h))
            | (with_reducible refine And.intro (by first | omega | (simp only [List.length_append, List.length_take, List.length_drop, List.length_cons, List.length_nil, List.length_map]; omega)) ?_)
            | ((with_reducible refine And.intro ?_ ?_); · first | (intro x hx; subst hx; rfl) | exact upR_mem fun _ _ => rfl | exact mapR_mem fun _ _ => rfl | (intro x; refine And.intro ?_ ?_ <;> (intros; subst_vars; rfl)))
            | fail
          · rw [hfg] at *
            rw [hvd]
            exact ⟨i + 1, (by rw [hfn hil, show fixF u v (r.getD i default) = v from if_pos ⟨by assumption, by assumption⟩]; (refine covers_mk0 rfl rfl ?_ ?_ ?_ ?_ <;> simp (disch := (refine Om.mk ?_; omega)) only [go_sem] <;> (try omega))), by omega, by omega⟩
          all_goals rw [hfg] at *
          all_goals exact ⟨i + 1, (by rw [hfs hil (by intro hb; first | exact hb.2 (by assumption) | omega)]; (refine covers_mk0 rfl rfl ?_ ?_ ?_ ?_ <;> simp (disch := (refine Om.mk ?_; omega)) only [go_sem] <;> (try omega))), by omega, by omega⟩
        · repeat' first
            | ((exfalso; omega))
            | ((refine sw_goAt (id := 18) 0 kp85 0 rfl fun K hK => ?_))
            | exact Bool.noConfusion h
            | refine sw_seq ?_
            | refine sw_block ?_
            | refine sw_skip ?_
            | refine sw_inBlock ?_
            | refine sw_go 0 kp85 fun K hK => ?_
            | refine fun (K : List Oper → LS → Prop) (hK : KOk S 0 _ _ _ K) => ?_
            | refine sw_goD kp85 (by kernel_rfl) fun K hK => ?_
            | ((first | refine runL_go ?_ | refine runQ_go ?_); simp (disch := (refine Om.mk ?_; omega)) only [go_sem])
            | (refine hK.nil ?_; clear hK K; simp only [go_sem])
            | (refine runG_fork rfl rfl rfl rfl rfl (fun h => ?_) (fun h => ?_) <;> (try simp (disch := (refine Om.mk ?_; omega)) only [go_sem] at h))
            | (refine runQG_fork rfl rfl rfl rfl rfl (fun h => ?_) (fun h => ?_) <;> (try simp (disch := (refine Om.mk ?_; omega)) only [go_sem] at h))
            | (refine hK.skip rfl (by simp only [dstOk, Nat.reduceLT]) ?_)
            | (refine sw_cond rfl (fun h => ?_) (fun h => ?_) <;> (try simp (disch := (refine Om.mk ?_; omega)) only [go_sem] at h))
            | (refine sw_exit rfl ?_)
            | (refine sw_loopEnd ?_)
            | ((first | refine sw_ret (ret0 ?_) | refine sw_ret ?_); simp (disch := (refine Om.mk ?_; omega)) only [go_sem, Try.results85])
            | (refine hK.fork rfl rfl rfl (fun h => ?_) (fun h => ?_) <;> (try simp (disch := (refine Om.mk ?_; omega)) only [go_sem] at h))
            | (with_reducible refine And.intro (by first | omega | (simp only [List.length_append, List.length_take, List.length_drop, List.length_cons, List.length_nil, List.length_map]; omega)) ?_)
            | ((with_reducible refine And.intro ?_ ?_); · first | (intro x hx; subst hx; rfl) | exact upR_mem fun _ _ => rfl | exact mapR_mem fun _ _ => rfl | (intro x; refine And.intro ?_ ?_ <;> (intros; subst_vars; rfl)))
            | fail
          refine lops_freeze 8 1 .any (id := 500) (n := r.length) (cs := ((fixR u r v i).map (.int .i64))) ((fixR u r v i).map (.int .i64)) (by simp [Lg.look]) (by simp [Lg.look]) (flat_ints _).symm (by rw [List.length_map, fixR_len]) (cells_one fun _ => rfl) (memOk_ints _) (.inl rfl) ?_
          simp only [go_sem]
          refine lops_go 0 ?_
          refine fun (K : List Oper → LS → Prop) (hK : KOk S 0 _ _ _ K) => ?_
          simp only [go_sem]
          repeat' first
            | exact Bool.noConfusion h
            | refine sw_seq ?_
            | refine sw_block ?_
            | refine sw_skip ?_
            | refine sw_inBlock ?_
            | refine sw_go 0 kp85 fun K hK => ?_
            | refine fun (K : List Oper → LS → Prop) (hK : KOk S 0 _ _ _ K) => ?_
            | refine sw_goD kp85 (by kernel_rfl) fun K hK => ?_
            | ((first | refine runL_go ?_ | refine runQ_go ?_); simp (disch := (refine Om.mk ?_; omega)) only [go_sem])
            | (refine hK.nil ?_; clear hK K; simp only [go_sem])
            | (refine runG_fork rfl rfl rfl rfl rfl (fun h => ?_) (fun h => ?_) <;> (try simp (disch := (refine Om.mk ?_; omega)) only [go_sem] at h))
            | (refine runQG_fork rfl rfl rfl rfl rfl (fun h => ?_) (fun h => ?_) <;> (try simp (disch := (refine Om.mk ?_; omega)) only [go_sem] at h))
            | (refine hK.skip rfl (by simp only [dstOk, Nat.reduceLT]) ?_)
            | (refine sw_cond rfl (fun h => ?_) (fun h => ?_) <;> (try simp (disch := (refine Om.mk ?_; omega)) only [go_sem] at h))
            | (refine sw_exit rfl ?_)
            | (refine sw_loopEnd ?_)
            | ((first | refine sw_ret (ret0 ?_) | refine sw_ret ?_); simp (disch := (refine Om.mk ?_; omega)) only [go_sem, Try.results85])
            | (refine hK.fork rfl rfl rfl (fun h => ?_) (fun h => ?_) <;> (try simp (disch := (refine Om.mk ?_; omega)) only [go_sem] at h))
            | (with_reducible refine And.intro (by first | omega | (simp only [List.length_append, List.length_take, List.length_drop, List.length_cons, List.length_nil, List.length_map]; omega)) ?_)
            | ((with_reducible refine And.intro ?_ ?_); · first | (intro x hx; subst hx; rfl) | exact upR_mem fun _ _ => rfl | exact mapR_mem fun _ _ => rfl | (intro x; refine And.intro ?_ ?_ <;> (intros; subst_vars; rfl)))
            | fail
          all_goals first | (rw [show i = r.length by omega, fixR_all]; done) | (rw [show i = r.length by omega, fixR_all]; exact ⟨rfl, rfl⟩) | trace_state
  · have e1 : leftV bs rs (t, c2) = (t, c2) := if_neg h0
    rw [e1]
    have hv3 := belowV_lt bs c2 (show (0 : Int) < 3 by omega)
    have cB3 := l1Below_fc (id + 1000) bs hb c2 3 (by omega)
    obtain ⟨e, he, he3⟩ : ∃ e : Nat, belowV bs c2 3 = (e : Int) ∧ e ≤ 2 := ⟨(belowV bs c2 3).toNat, by omega, by omega⟩
    unfold ruleW
    dsimp only
    rw [he] at cB3 ⊢
    rw [Int.toNat_natCast]
    have cR := l1DrawTerm_fc bs hb rs hs 2 (by omega) id e (by omega) (belowC bs c2 3)
    rw [show (e : Int) + 1 = 1 + (e : Int) by omega] at cR
    have hR := termV_ok hs bs (vars := 2) (by omega) (d := e) (by omega) (belowC bs c2 3)
    generalize termV bs rs 2 e (belowC bs c2 3) = q at *
    clear he hv3
    generalize belowC bs c2 3 = c3 at *
    obtain ⟨r, c4⟩ := q
    dsimp only at cR hR ⊢
    have hr := hR.2.1
    have hne : r ≠ [] := by rintro rfl; simp at hr
    by_cases hvs : seenS [] t = []
    · have cO := l2Order_fc t (by omega)
      rw [hvs] at cO
      have cS := l1Sub_fc .any (.own 17000 2 1) rs t (t.length - 1) hT (by omega)
      rw [show ((t.length - 1 : Nat) : Int) = (t.length : Int) - 1 by omega] at cS
      refine fc_bodyP Try.func85 rfl (by kernel_rfl) (by simp [Try.f85]) fun B hP => ?_
      simp only [Try.ntmps85, enumD, List.map_nil, List.map_cons, List.length_map, Nat.zero_add, Nat.reduceAdd]
      repeat' first
        | ((exfalso; omega))
        | ((refine sw_any (id := 1) kp85 [(true, []), (false, []), (true, []), (false, [2]), (false, [3]), (false, [0, 1, 4, 3]), (false, [5, 5, 0, 1, 2, 3, 4, 5])] ⟨90, [(0, .box (id + 1000) 0), (3, .box 3 0), (4, .box 4 0), (5, .sl (.own 17000 2 1) (t.map (.int .i64)))], [(id + 1000, [.sl .any (bs.map (.int .u8)), .int .i64 (c2).i, .int .i64 (c2).h]), (3, [.sl .any (rs.map (.int .i64))]), (4, [.sl .nil [], .sl .nil []])], [], [17000], [id + 1000]⟩ (by kernel_rfl) ?_ ?_; simp only [List.length_cons, List.length_nil, Nat.reduceAdd]))
        | ((refine sw_any (id := 9) kp85 [(true, []), (false, []), (true, []), (false, [2]), (false, [3]), (false, [0, 1, 4, 3]), (false, [5, 5, 0, 1, 2, 3, 4, 5])] ⟨90, [(3, .box 3 0), (4, .box 4 0), (5, .sl (.own 17000 2 1) (t.map (.int .i64))), (8, .sl (.own 48000 2 1) (r.map (.int .i64)))], [(id + 1000, [.sl .any (bs.map (.int .u8)), .int .i64 (c4).i, .int .i64 (c4).h]), (3, [.sl .any (rs.map (.int .i64))]), (4, [.sl .nil [], .sl .nil []])], [], [48000, 17000], [id + 1000]⟩ (by kernel_rfl) ?_ ?_; simp only [List.length_cons, List.length_nil, Nat.reduceAdd]))
        | ((refine anyB_unf ?_; simp only [stepF_n, stepF_c, goR_n, goR_c, exR_n, exR_c, memB_n, memB_c, subB_n, subB_c, moveY_m, moveY_f, cond_t, cond_f, true_and, and_true, Bool.not_false, Bool.not_true, Bool.and_true, Bool.and_false, Bool.true_and, Bool.false_and, Bool.or_false, Bool.false_or, Bool.true_or, Bool.or_true, Nat.reduceBEq, Nat.reduceAdd]))
        | ((refine anyB_move (by simp only [Nat.reduceLT]) rfl (by simp only [go_sem]; exact rfl) ?_))
        | ((refine anyB_fa (by simp only [Nat.reduceLT]) rfl rfl rfl rfl (by decide) (by simp only [go_sem]; exact rfl) ?_))
        | ((refine hK.nil (anyB_id ?_); clear hK K))
        | ((refine lops_and ?_ ?_))
        | ((refine lops_go 0 ?_; refine fun (K : List Oper → LS → Prop) (hK : KOk S 0 _ _ _ K) => ?_; simp (disch := (refine Om.mk ?_; omega)) only [go_sem]))
        | ((refine anyB_end ?_; simp (disch := (refine Om.mk ?_; omega)) only [go_sem]; (refine covers_mk0 rfl rfl ?_ ?_ ?_ ?_ <;> simp (disch := (refine Om.mk ?_; omega)) only [go_sem] <;> (try omega)); done))
        | ((refine anyB_end ?_; simp (disch := (refine Om.mk ?_; omega)) only [go_sem]; (refine covers_mk0 rfl rfl ?_ ?_ ?_ ?_ <;> simp (disch := (refine Om.mk ?_; omega)) only [go_sem] <;> (try omega)); all_goals (simp; done)))
        | exact Bool.noConfusion h
        | refine sw_seq ?_
        | refine sw_block ?_
        | refine sw_skip ?_
        | refine sw_inBlock ?_
        | refine sw_go 0 kp85 fun K hK => ?_
        | refine fun (K : List Oper → LS → Prop) (hK : KOk S 0 _ _ _ K) => ?_
        | refine sw_goD kp85 (by kernel_rfl) fun K hK => ?_
        | ((first | refine runL_go ?_ | refine runQ_go ?_); simp (disch := (refine Om.mk ?_; omega)) only [go_sem])
        | (refine hK.nil ?_; clear hK K; simp only [go_sem])
        | (refine runG_fork rfl rfl rfl rfl rfl (fun h => ?_) (fun h => ?_) <;> (try simp (disch := (refine Om.mk ?_; omega)) only [go_sem] at h))
        | (refine runQG_fork rfl rfl rfl rfl rfl (fun h => ?_) (fun h => ?_) <;> (try simp (disch := (refine Om.mk ?_; omega)) only [go_sem] at h))
        | (refine hK.skip rfl (by simp only [dstOk, Nat.reduceLT]) ?_)
        | (refine sw_cond rfl (fun h => ?_) (fun h => ?_) <;> (try simp (disch := (refine Om.mk ?_; omega)) only [go_sem] at h))
        | (refine sw_exit rfl ?_)
        | (refine sw_loopEnd ?_)
        | ((first | refine sw_ret (ret0 ?_) | refine sw_ret ?_); simp (disch := (refine Om.mk ?_; omega)) only [go_sem, Try.results85])
        | (refine hK.callB rfl rfl rfl (cB) ⟨⟨by simp only [Nat.reduceLT], (by first | (simp; all_goals fail) | (simp [LS.getBox, Lg.look]; all_goals fail)), by (simp [Lg.look]; all_goals fail), by (simp; all_goals fail), by (simp; all_goals fail)⟩, ⟨by (simp [D.ids, D.idsL]; all_goals fail), by (simp [D.ids, D.idsL]; all_goals fail), by (simp [D.tks, D.tksL]; all_goals fail), by (simp [D.tks, D.tksL]; all_goals fail), by (simp; all_goals fail)⟩, rfl⟩ ?_; simp (disch := (refine Om.mk ?_; omega)) only [go_sem])
        | (refine hK.callB rfl rfl rfl (cT) ⟨⟨by simp only [Nat.reduceLT], (by first | (simp; all_goals fail) | (simp [LS.getBox, Lg.look]; all_goals fail)), by (simp [Lg.look]; all_goals fail), by (simp; all_goals fail), by (simp; all_goals fail)⟩, ⟨by (simp [D.ids, D.idsL]; all_goals fail), by (simp [D.ids, D.idsL]; all_goals fail), by (simp [D.tks, D.tksL]; all_goals fail), by (simp [D.tks, D.tksL]; all_goals fail), by (simp; all_goals fail)⟩, rfl⟩ ?_; simp (disch := (refine Om.mk ?_; omega)) only [go_sem])
        | (refine hK.callB rfl rfl rfl (cB3) ⟨⟨by simp only [Nat.reduceLT], (by first | (simp; all_goals fail) | (simp [LS.getBox, Lg.look]; all_goals fail)), by (simp [Lg.look]; all_goals fail), by (simp; all_goals fail), by (simp; all_goals fail)⟩, ⟨by (simp [D.ids, D.idsL]; all_goals fail), by (simp [D.ids, D.idsL]; all_goals fail), by (simp [D.tks, D.tksL]; all_goals fail), by (simp [D.tks, D.tksL]; all_goals fail), by (simp; all_goals fail)⟩, rfl⟩ ?_; simp (disch := (refine Om.mk ?_; omega)) only [go_sem])
        | (refine hK.callB rfl rfl rfl (cR) ⟨⟨by simp only [Nat.reduceLT], (by first | (simp; all_goals fail) | (simp [LS.getBox, Lg.look]; all_goals fail)), by (simp [Lg.look]; all_goals fail), by (simp; all_goals fail), by (simp; all_goals fail)⟩, ⟨by (simp [D.ids, D.idsL]; all_goals fail), by (simp [D.ids, D.idsL]; all_goals fail), by (simp [D.tks, D.tksL]; all_goals fail), by (simp [D.tks, D.tksL]; all_goals fail), by (simp; all_goals fail)⟩, rfl⟩ ?_; simp (disch := (refine Om.mk ?_; omega)) only [go_sem])
        | (refine hK.fork rfl rfl rfl (fun h => ?_) (fun h => ?_) <;> (try simp (disch := (refine Om.mk ?_; omega)) only [go_sem] at h))
        | (with_reducible refine And.intro (by first | omega | (simp only [List.length_append, List.length_take, List.length_drop, List.length_cons, List.length_nil, List.length_map]; omega)) ?_)
        | ((with_reducible refine And.intro ?_ ?_); · first | (intro x hx; subst hx; rfl) | exact upR_mem fun _ _ => rfl | exact mapR_mem fun _ _ => rfl | (intro x; refine And.intro ?_ ?_ <;> (intros; subst_vars; rfl)))
        | fail
      refine sw_loopT (ι := Nat) (fun i => [(9, .int .i64 i)]) (fun _ => []) (fun _ => [48000, 17000]) (fun i => i ≤ r.length ∧ ∀ j < i, ¬ (r.getD j default < 0 ∧ r.getD j default ∉ t)) (fun i => r.length - i) 0 (by (refine covers_mk0 rfl rfl ?_ ?_ ?_ ?_ <;> simp (disch := (refine Om.mk ?_; omega)) only [go_sem] <;> (try omega))) ⟨by omega, fun j hj => absurd hj (by omega)⟩ (fun i hi => ?_)
      obtain ⟨hi, hj⟩ := hi
      simp only [go_sem]
      by_cases hil : i < r.length
      · repeat' first
          | ((exfalso; omega))
          | exact Bool.noConfusion h
          | refine sw_seq ?_
          | refine sw_block ?_
          | refine sw_skip ?_
          | refine sw_inBlock ?_
          | refine sw_go 0 kp85 fun K hK => ?_
          | refine fun (K : List Oper → LS → Prop) (hK : KOk S 0 _ _ _ K) => ?_
          | refine sw_goD kp85 (by kernel_rfl) fun K hK => ?_
          | ((first | refine runL_go ?_ | refine runQ_go ?_); simp (disch := (refine Om.mk ?_; omega)) only [go_sem])
          | (refine hK.nil ?_; clear hK K; simp only [go_sem])
          | (refine runG_fork rfl rfl rfl rfl rfl (fun h => ?_) (fun h => ?_) <;> (try simp (disch := (refine Om.mk ?_; omega)) only [go_sem] at h))
          | (refine runQG_fork rfl rfl rfl rfl rfl (fun h => ?_) (fun h => ?_) <;> (try simp (disch := (refine Om.mk ?_; omega)) only [go_sem] at h))
          | (refine hK.skip rfl (by simp only [dstOk, Nat.reduceLT]) ?_)
          | (refine sw_cond rfl (fun h => ?_) (fun h => ?_) <;> (try simp (disch := (refine Om.mk ?_; omega)) only [go_sem] at h))
          | (refine sw_exit rfl ?_)
          | (refine sw_loopEnd ?_)
          | ((first | refine sw_ret (ret0 ?_) | refine sw_ret ?_); simp (disch := (refine Om.mk ?_; omega)) only [go_sem, Try.results85])
          | refine hK.call rfl rfl rfl (l1Has_fc _ _ _) ⟨(by intro p hp; cases hp), rfl, rfl, (by simp only [dstOk, Nat.reduceLT])⟩ ?_
          | (refine hK.call rfl rfl rfl (FC.args (cO) ?le) ⟨(by intro p hp; cases hp), rfl, rfl, (by simp only [dstOk, Nat.reduceLT])⟩ ?_; case le => (simp only [go_sem]; repeat' first | exact trivial | exact D.le.refl _ | exact D.le.any | refine And.intro ?_ ?_))
          | refine hK.call rfl rfl rfl (cS) ⟨(by intro p hp; cases hp), rfl, rfl, (by simp only [dstOk, Nat.reduceLT])⟩ ?_
          | (refine hK.fork rfl rfl rfl (fun h => ?_) (fun h => ?_) <;> (try simp (disch := (refine Om.mk ?_; omega)) only [go_sem] at h))
          | (with_reducible refine And.intro (by first | omega | (simp only [List.length_append, List.length_take, List.length_drop, List.length_cons, List.length_nil, List.length_map]; omega)) ?_)
          | ((with_reducible refine And.intro ?_ ?_); · first | (intro x hx; subst hx; rfl) | exact upR_mem fun _ _ => rfl | exact mapR_mem fun _ _ => rfl | (intro x; refine And.intro ?_ ?_ <;> (intros; subst_vars; rfl)))
          | fail
        all_goals first | exact ⟨i + 1, (by (refine covers_mk0 rfl rfl ?_ ?_ ?_ ?_ <;> simp (disch := (refine Om.mk ?_; omega)) only [go_sem] <;> (try omega))), ⟨by omega, upto_succ hj (by intro hb; first | exact hb.2 (by assumption) | omega)⟩, by omega⟩ | (rw [ruleU_leaf hvs hil ⟨by assumption, by assumption⟩]; exact ⟨rfl, rfl⟩) | trace_state
      · repeat' first
          | ((exfalso; omega))
          | exact Bool.noConfusion h
          | refine sw_seq ?_
          | refine sw_block ?_
          | refine sw_skip ?_
          | refine sw_inBlock ?_
          | refine sw_go 0 kp85 fun K hK => ?_
          | refine fun (K : List Oper → LS → Prop) (hK : KOk S 0 _ _ _ K) => ?_
          | refine sw_goD kp85 (by kernel_rfl) fun K hK => ?_
          | ((first | refine runL_go ?_ | refine runQ_go ?_); simp (disch := (refine Om.mk ?_; omega)) only [go_sem])
          | (refine hK.nil ?_; clear hK K; simp only [go_sem])
          | (refine runG_fork rfl rfl rfl rfl rfl (fun h => ?_) (fun h => ?_) <;> (try simp (disch := (refine Om.mk ?_; omega)) only [go_sem] at h))
          | (refine runQG_fork rfl rfl rfl rfl rfl (fun h => ?_) (fun h => ?_) <;> (try simp (disch := (refine Om.mk ?_; omega)) only [go_sem] at h))
          | (refine hK.skip rfl (by simp only [dstOk, Nat.reduceLT]) ?_)
          | (refine sw_cond rfl (fun h => ?_) (fun h => ?_) <;> (try simp (disch := (refine Om.mk ?_; omega)) only [go_sem] at h))
          | (refine sw_exit rfl ?_)
          | (refine sw_loopEnd ?_)
          | ((first | refine sw_ret (ret0 ?_) | refine sw_ret ?_); simp (disch := (refine Om.mk ?_; omega)) only [go_sem, Try.results85])
          | (refine hK.fork rfl rfl rfl (fun h => ?_) (fun h => ?_) <;> (try simp (disch := (refine Om.mk ?_; omega)) only [go_sem] at h))
          | (with_reducible refine And.intro (by first | omega | (simp only [List.length_append, List.length_take, List.length_drop, List.length_cons, List.length_nil, List.length_map]; omega)) ?_)
          | ((with_reducible refine And.intro ?_ ?_); · first | (intro x hx; subst hx; rfl) | exact upR_mem fun _ _ => rfl | exact mapR_mem fun _ _ => rfl | (intro x; refine And.intro ?_ ?_ <;> (intros; subst_vars; rfl)))
          | fail
        rw [ruleU_stay fun j hj' => hj j (by omega)]
        exact ⟨rfl, rfl⟩
    · have hv0 : 0 < (seenS [] t).length := List.length_pos_iff.2 hvs
      have cO := l2Order_fc t (by omega)
      refine fc_bodyP Try.func85 rfl (by kernel_rfl) (by simp [Try.f85]) fun B hP => ?_
      simp only [Try.ntmps85, enumD, List.map_nil, List.map_cons, List.length_map, Nat.zero_add, Nat.reduceAdd]
      repeat' first
        | ((exfalso; omega))
        | ((refine sw_any (id := 1) kp85 [(true, []), (false, []), (true, []), (false, [2]), (false, [3]), (false, [0, 1, 4, 3]), (false, [5, 5, 0, 1, 2, 3, 4, 5])] ⟨90, [(0, .box (id + 1000) 0), (3, .box 3 0), (4, .box 4 0), (5, .sl (.own 17000 2 1) (t.map (.int .i64)))], [(id + 1000, [.sl .any (bs.map (.int .u8)), .int .i64 (c2).i, .int .i64 (c2).h]), (3, [.sl .any (rs.map (.int .i64))]), (4, [.sl .nil [], .sl .nil []])], [], [17000], [id + 1000]⟩ (by kernel_rfl) ?_ ?_; simp only [List.length_cons, List.length_nil, Nat.reduceAdd]))
        | ((refine sw_any (id := 9) kp85 [(true, []), (false, []), (true, []), (false, [2]), (false, [3]), (false, [0, 1, 4, 3]), (false, [5, 5, 0, 1, 2, 3, 4, 5])] ⟨90, [(3, .box 3 0), (4, .box 4 0), (5, .sl (.own 17000 2 1) (t.map (.int .i64))), (8, .sl (.own 48000 2 1) (r.map (.int .i64)))], [(id + 1000, [.sl .any (bs.map (.int .u8)), .int .i64 (c4).i, .int .i64 (c4).h]), (3, [.sl .any (rs.map (.int .i64))]), (4, [.sl .nil [], .sl .nil []])], [], [48000, 17000], [id + 1000]⟩ (by kernel_rfl) ?_ ?_; simp only [List.length_cons, List.length_nil, Nat.reduceAdd]))
        | ((refine anyB_unf ?_; simp only [stepF_n, stepF_c, goR_n, goR_c, exR_n, exR_c, memB_n, memB_c, subB_n, subB_c, moveY_m, moveY_f, cond_t, cond_f, true_and, and_true, Bool.not_false, Bool.not_true, Bool.and_true, Bool.and_false, Bool.true_and, Bool.false_and, Bool.or_false, Bool.false_or, Bool.true_or, Bool.or_true, Nat.reduceBEq, Nat.reduceAdd]))
        | ((refine anyB_move (by simp only [Nat.reduceLT]) rfl (by simp only [go_sem]; exact rfl) ?_))
        | ((refine anyB_fa (by simp only [Nat.reduceLT]) rfl rfl rfl rfl (by decide) (by simp only [go_sem]; exact rfl) ?_))
        | ((refine hK.nil (anyB_id ?_); clear hK K))
        | ((refine lops_and ?_ ?_))
        | ((refine lops_go 0 ?_; refine fun (K : List Oper → LS → Prop) (hK : KOk S 0 _ _ _ K) => ?_; simp (disch := (refine Om.mk ?_; omega)) only [go_sem]))
        | ((refine anyB_end ?_; simp (disch := (refine Om.mk ?_; omega)) only [go_sem]; (refine covers_mk0 rfl rfl ?_ ?_ ?_ ?_ <;> simp (disch := (refine Om.mk ?_; omega)) only [go_sem] <;> (try omega)); done))
        | ((refine anyB_end ?_; simp (disch := (refine Om.mk ?_; omega)) only [go_sem]; (refine covers_mk0 rfl rfl ?_ ?_ ?_ ?_ <;> simp (disch := (refine Om.mk ?_; omega)) only [go_sem] <;> (try omega)); all_goals (simp; done)))
        | ((refine sw_thawAt 10 8 500 rfl (by simp) hne (by simp only [List.mem_cons, List.not_mem_nil, or_false]; omega) hP [(4, .box 4 0), (5, .sl (.own 17000 2 1) (t.map (.int .i64)))] [(id + 1000, [.sl .any (bs.map (.int .u8)), .int .i64 (c4).i, .int .i64 (c4).h]), (4, [.sl .nil [], .sl .nil []])] (by intro q hq; simp only [List.mem_cons, List.not_mem_nil, or_false] at hq; rcases hq with rfl | rfl <;> exact ⟨rfl, by simp [D.safeI, safeIL_intsZ], by simp [D.ids, D.idsL, idsL_intsZ]⟩) (by intro q hq; simp only [List.mem_cons, List.not_mem_nil, or_false] at hq; rcases hq with rfl | rfl <;> exact ⟨by first | omega | (show id + 1000 ≠ 500; omega), by simp [Lg.look], by simp [D.safeIL, D.safeI, D.offIL, offI_u8, safeI_u8, safeIL_intsZ], by simp [D.idsL, D.ids, idsL_intsZ]⟩) ?_; simp only [go_sem]))
        | exact Bool.noConfusion h
        | refine sw_seq ?_
        | refine sw_block ?_
        | refine sw_skip ?_
        | refine sw_inBlock ?_
        | refine sw_go 0 kp85 fun K hK => ?_
        | refine fun (K : List Oper → LS → Prop) (hK : KOk S 0 _ _ _ K) => ?_
        | refine sw_goD kp85 (by kernel_rfl) fun K hK => ?_
        | ((first | refine runL_go ?_ | refine runQ_go ?_); simp (disch := (refine Om.mk ?_; omega)) only [go_sem])
        | (refine hK.nil ?_; clear hK K; simp only [go_sem])
        | (refine runG_fork rfl rfl rfl rfl rfl (fun h => ?_) (fun h => ?_) <;> (try simp (disch := (refine Om.mk ?_; omega)) only [go_sem] at h))
        | (refine runQG_fork rfl rfl rfl rfl rfl (fun h => ?_) (fun h => ?_) <;> (try simp (disch := (refine Om.mk ?_; omega)) only [go_sem] at h))
        | (refine hK.skip rfl (by simp only [dstOk, Nat.reduceLT]) ?_)
        | (refine sw_cond rfl (fun h => ?_) (fun h => ?_) <;> (try simp (disch := (refine Om.mk ?_; omega)) only [go_sem] at h))
        | (refine sw_exit rfl ?_)
        | (refine sw_loopEnd ?_)
        | ((first | refine sw_ret (ret0 ?_) | refine sw_ret ?_); simp (disch := (refine Om.mk ?_; omega)) only [go_sem, Try.results85])
        | (refine hK.callB rfl rfl rfl (cB) ⟨⟨by simp only [Nat.reduceLT], (by first | (simp; all_goals fail) | (simp [LS.getBox, Lg.look]; all_goals fail)), by (simp [Lg.look]; all_goals fail), by (simp; all_goals fail), by (simp; all_goals fail)⟩, ⟨by (simp [D.ids, D.idsL]; all_goals fail), by (simp [D.ids, D.idsL]; all_goals fail), by (simp [D.tks, D.tksL]; all_goals fail), by (simp [D.tks, D.tksL]; all_goals fail), by (simp; all_goals fail)⟩, rfl⟩ ?_; simp (disch := (refine Om.mk ?_; omega)) only [go_sem])
        | (refine hK.callB rfl rfl rfl (cT) ⟨⟨by simp only [Nat.reduceLT], (by first | (simp; all_goals fail) | (simp [LS.getBox, Lg.look]; all_goals fail)), by (simp [Lg.look]; all_goals fail), by (simp; all_goals fail), by (simp; all_goals fail)⟩, ⟨by (simp [D.ids, D.idsL]; all_goals fail), by (simp [D.ids, D.idsL]; all_goals fail), by (simp [D.tks, D.tksL]; all_goals fail), by (simp [D.tks, D.tksL]; all_goals fail), by (simp; all_goals fail)⟩, rfl⟩ ?_; simp (disch := (refine Om.mk ?_; omega)) only [go_sem])
        | (refine hK.callB rfl rfl rfl (cB3) ⟨⟨by simp only [Nat.reduceLT], (by first | (simp; all_goals fail) | (simp [LS.getBox, Lg.look]; all_goals fail)), by (simp [Lg.look]; all_goals fail), by (simp; all_goals fail), by (simp; all_goals fail)⟩, ⟨by (simp [D.ids, D.idsL]; all_goals fail), by (simp [D.ids, D.idsL]; all_goals fail), by (simp [D.tks, D.tksL]; all_goals fail), by (simp [D.tks, D.tksL]; all_goals fail), by (simp; all_goals fail)⟩, rfl⟩ ?_; simp (disch := (refine Om.mk ?_; omega)) only [go_sem])
        | (refine hK.callB rfl rfl rfl (cR) ⟨⟨by simp only [Nat.reduceLT], (by first | (simp; all_goals fail) | (simp [LS.getBox, Lg.look]; all_goals fail)), by (simp [Lg.look]; all_goals fail), by (simp; all_goals fail), by (simp; all_goals fail)⟩, ⟨by (simp [D.ids, D.idsL]; all_goals fail), by (simp [D.ids, D.idsL]; all_goals fail), by (simp [D.tks, D.tksL]; all_goals fail), by (simp [D.tks, D.tksL]; all_goals fail), by (simp; all_goals fail)⟩, rfl⟩ ?_; simp (disch := (refine Om.mk ?_; omega)) only [go_sem])
        | (refine hK.fork rfl rfl rfl (fun h => ?_) (fun h => ?_) <;> (try simp (disch := (refine Om.mk ?_; omega)) only [go_sem] at h))
        | (with_reducible refine And.intro (by first | omega | (simp only [List.length_append, List.length_take, List.length_drop, List.length_cons, List.length_nil, List.length_map]; omega)) ?_)
        | ((with_reducible refine And.intro ?_ ?_); · first | (intro x hx; subst hx; rfl) | exact upR_mem fun _ _ => rfl | exact mapR_mem fun _ _ => rfl | (intro x; refine And.intro ?_ ?_ <;> (intros; subst_vars; rfl)))
        | fail
      rw [ruleU_fix hvs]
      generalize hvd : (seenS [] t).getD 0 default = v at *
      refine sw_loopT (ι := Nat) (fun i => [(9, .int .i64 i)]) (fun i => [(500, (fixR t r v i).map (.int .i64))]) (fun _ => [17000]) (fun i => i ≤ r.length) (fun i => r.length - i) 0 (by (refine covers_mk0 rfl rfl ?_ ?_ ?_ ?_ <;> simp (disch := (refine Om.mk ?_; omega)) only [go_sem] <;> (try omega)); all_goals first | (simp [fixR]; done) | (simp; done)) (by omega) (fun i hi => ?_)
      simp only [go_sem]
      have hfl := fixR_len t r v i
      have hfg := @fixR_get t r v i
      have hfn := @fixR_next t r v i
      have hfs := @fixR_stay t r v i
      by_cases hil : i < r.length
      · have hfg := hfg hil
        repeat' first
          | ((exfalso; omega))
          | exact Bool.noConfusion h
          | refine sw_seq ?_
          | refine sw_block ?_
          | refine sw_skip ?_
          | refine sw_inBlock ?_
          | refine sw_go 0 kp85 fun K hK => ?_
          | refine fun (K : List Oper → LS → Prop) (hK : KOk S 0 _ _ _ K) => ?_
          | refine sw_goD kp85 (by kernel_rfl) fun K hK => ?_
          | ((first | refine runL_go ?_ | refine runQ_go ?_); simp (disch := (refine Om.mk ?_; omega)) only [go_sem])
          | (refine hK.nil ?_; clear hK K; simp only [go_sem])
          | (refine runG_fork rfl rfl rfl rfl rfl (fun h => ?_) (fun h => ?_) <;> (try simp (disch := (refine Om.mk ?_; omega)) only [go_sem] at h))
          | (refine runQG_fork rfl rfl rfl rfl rfl (fun h => ?_) (fun h => ?_) <;> (try simp (disch := (refine Om.mk ?_; omega)) only [go_sem] at h))
          | (refine hK.skip rfl (by simp only [dstOk, Nat.reduceLT]) ?_)
          | (refine sw_cond rfl (fun h => ?_) (fun h => ?_) <;> (try simp (disch := (refine Om.mk ?_; omega)) only [go_sem] at h))
          | (refine sw_exit rfl ?_)
          | (refine sw_loopEnd ?_)
          | ((first | refine sw_ret (ret0 ?_) | refine sw_ret ?_); simp (disch := (refine Om.mk ?_; omega)) only [go_sem, Try.results85])
          | refine hK.call rfl rfl rfl (l1Has_fc _ _ _) ⟨(by intro p hp; cases hp), rfl, rfl, (by simp only [dstOk, Nat.reduceLT])⟩ ?_
          | (refine hK.call rfl rfl rfl (FC.args (cO) ?le) ⟨(by intro p hp; cases hp), rfl, rfl, (by simp only [dstOk, Nat.reduceLT])⟩ ?_; case le => (simp only [go_sem]; repeat' first | exact trivial | exact D.le.refl _ | exact D.le.any | refine And.intro ?_ ?_))
          | (refine hK.fork rfl rfl rfl (fun h => ?_) (fun h => ?_) <;> (try simp (disch := (refine Om.mk ?_; omega)) only [go_sem] at h))
          | (with_reducible refine And.intro (by first | omega | (simp only [List.length_append, List.length_take, List.length_drop, List.length_cons, List.length_nil, List.length_map]; omega)) ?_)
          | ((with_reducible refine And.intro ?_ ?_); · first | (intro x hx; subst hx; rfl) | exact upR_mem fun _ _ => rfl | exact mapR_mem fun _ _ => rfl | (intro x; refine And.intro ?_ ?_ <;> (intros; subst_vars; rfl)))
          | fail
        · rw [hfg] at *
          rw [hvd]
          exact ⟨i + 1, (by rw [hfn hil, show fixF t v (r.getD i default) = v from if_pos ⟨by assumption, by assumption⟩]; (refine covers_mk0 rfl rfl ?_ ?_ ?_ ?_ <;> simp (disch := (refine Om.mk ?_; omega)) only [go_sem] <;> (try omega))), by omega, by omega⟩
        all_goals rw [hfg] at *
        all_goals exact ⟨i + 1, (by rw [hfs hil (by intro hb; first | exact hb.2 (by assumption) | omega)]; (refine covers_mk0 rfl rfl ?_ ?_ ?_ ?_ <;> simp (disch := (refine Om.mk ?_; omega)) only [go_sem] <;> (try omega))), by omega, by omega⟩
      · repeat' first
          | ((exfalso; omega))
          | ((refine sw_goAt (id := 18) 0 kp85 0 rfl fun K hK => ?_))
          | exact Bool.noConfusion h
          | refine sw_seq ?_
          | refine sw_block ?_
          | refine sw_skip ?_
          | refine sw_inBlock ?_
          | refine sw_go 0 kp85 fun K hK => ?_
          | refine fun (K : List Oper → LS → Prop) (hK : KOk S 0 _ _ _ K) => ?_
          | refine sw_goD kp85 (by kernel_rfl) fun K hK => ?_
          | ((first | refine runL_go ?_ | refine runQ_go ?_); simp (disch := (refine Om.mk ?_; omega)) only [go_sem])
          | (refine hK.nil ?_; clear hK K; simp only [go_sem])
          | (refine runG_fork rfl rfl rfl rfl rfl (fun h => ?_) (fun h => ?_) <;> (try simp (disch := (refine Om.mk ?_; omega)) only [go_sem] at h))
          | (refine runQG_fork rfl rfl rfl rfl rfl (fun h => ?_) (fun h => ?_) <;> (try simp (disch := (refine Om.mk ?_; omega)) only [go_sem] at h))
          | (refine hK.skip rfl (by simp only [dstOk, Nat.reduceLT]) ?_)
          | (refine sw_cond rfl (fun h => ?_) (fun h => ?_) <;> (try simp (disch := (refine Om.mk ?_; omega)) only [go_sem] at h))
          | (refine sw_exit rfl ?_)
          | (refine sw_loopEnd ?_)
          | ((first | refine sw_ret (ret0 ?_) | refine sw_ret ?_); simp (disch := (refine Om.mk ?_; omega)) only [go_sem, Try.results85])
          | (refine hK.fork rfl rfl rfl (fun h => ?_) (fun h => ?_) <;> (try simp (disch := (refine Om.mk ?_; omega)) only [go_sem] at h))
          | (with_reducible refine And.intro (by first | omega | (simp only [List.length_append, List.length_take, List.length_drop, List.length_cons, List.length_nil, List.length_map]; omega)) ?_)
          | ((with_reducible refine And.intro ?_ ?_); · first | (intro x hx; subst hx; rfl) | exact upR_mem fun _ _ => rfl | exact mapR_mem fun _ _ => rfl | (intro x; refine And.intro ?_ ?_ <;> (intros; subst_vars; rfl)))
          | fail
        refine lops_freeze 8 1 .any (id := 500) (n := r.length) (cs := ((fixR t r v i).map (.int .i64))) ((fixR t r v i).map (.int .i64)) (by simp [Lg.look]) (by simp [Lg.look]) (flat_ints _).symm (by rw [List.length_map, fixR_len]) (cells_one fun _ => rfl) (memOk_ints _) (.inl rfl) ?_
        simp only [go_sem]
        refine lops_go 0 ?_
        refine fun (K : List Oper → LS → Prop) (hK : KOk S 0 _ _ _ K) => ?_
        simp only [go_sem]
        repeat' first
          | exact Bool.noConfusion h
          | refine sw_seq ?_
          | refine sw_block ?_
          | refine sw_skip ?_
          | refine sw_inBlock ?_
          | refine sw_go 0 kp85 fun K hK => ?_
          | refine fun (K : List Oper → LS → Prop) (hK : KOk S 0 _ _ _ K) => ?_
          | refine sw_goD kp85 (by kernel_rfl) fun K hK => ?_
          | ((first | refine runL_go ?_ | refine runQ_go ?_); simp (disch := (refine Om.mk ?_; omega)) only [go_sem])
          | (refine hK.nil ?_; clear hK K; simp only [go_sem])
          | (refine runG_fork rfl rfl rfl rfl rfl (fun h => ?_) (fun h => ?_) <;> (try simp (disch := (refine Om.mk ?_; omega)) only [go_sem] at h))
          | (refine runQG_fork rfl rfl rfl rfl rfl (fun h => ?_) (fun h => ?_) <;> (try simp (disch := (refine Om.mk ?_; omega)) only [go_sem] at h))
          | (refine hK.skip rfl (by simp only [dstOk, Nat.reduceLT]) ?_)
          | (refine sw_cond rfl (fun h => ?_) (fun h => ?_) <;> (try simp (disch := (refine Om.mk ?_; omega)) only [go_sem] at h))
          | (refine sw_exit rfl ?_)
          | (refine sw_loopEnd ?_)
          | ((first | refine sw_ret (ret0 ?_) | refine sw_ret ?_); simp (disch := (refine Om.mk ?_; omega)) only [go_sem, Try.results85])
          | (refine hK.fork rfl rfl rfl (fun h => ?_) (fun h => ?_) <;> (try simp (disch := (refine Om.mk ?_; omega)) only [go_sem] at h))
          | (with_reducible refine And.intro (by first | omega | (simp only [List.length_append, List.length_take, List.length_drop, List.length_cons, List.length_nil, List.length_map]; omega)) ?_)
          | ((with_reducible refine And.intro ?_ ?_); · first | (intro x hx; subst hx; rfl) | exact upR_mem fun _ _ => rfl | exact mapR_mem fun _ _ => rfl | (intro x; refine And.intro ?_ ?_ <;> (intros; subst_vars; rfl)))
          | fail
        all_goals first | (rw [show i = r.length by omega, fixR_all]; done) | (rw [show i = r.length by omega, fixR_all]; exact ⟨rfl, rfl⟩) | trace_state
end Go.Proofs.Ytfokjjlbdaabaaa
end
section
namespace Go.Proofs.Ytfokjjlbdaabaaa
open Go Go.Lg
set_option linter.unusedSimpArgs false
set_option linter.unusedVariables false
set_option maxHeartbeats 4000000
attribute [local irreducible] SW runL runQ runG runQG FC Ret1 toF redoL anyB
theorem tksL_rules (xs : List RuleT) : D.tksL (xs.map RuleD) = [] := by
  induction xs with
  | nil => rfl
  | cons x r ih => simp [D.tksL, D.tks, RuleD, tksL_ints, ih]
theorem idsL_rules (xs : List RuleT) : D.idsL (xs.map RuleD) = [] := by
  induction xs with
  | nil => rfl
  | cons x r ih => simp [D.idsL, D.ids, RuleD, idsL_intsZ, ih]
theorem puOk_rules (p : Nat → Bool) (xs : List RuleT) : ((xs.map RuleD).all fun d => d.puOk p) = true := by
  rw [List.all_map]
  exact List.all_eq_true.2 fun _ _ => rfl
noncomputable def drawN (bs rs : List Int) (c : Cu) : Nat → List RuleT × Cu
  | 0 => ([], c)
  | k + 1 => ((drawN bs rs c k).1 ++ [(ruleV bs rs (drawN bs rs c k).2).1], (ruleV bs rs (drawN bs rs c k).2).2)
theorem drawN_s1 (bs rs : List Int) (c : Cu) (k : Nat) : (drawN bs rs c (k + 1)).1 = (drawN bs rs c k).1 ++ [(ruleV bs rs (drawN bs rs c k).2).1] := rfl
theorem drawN_s2 (bs rs : List Int) (c : Cu) (k : Nat) : (drawN bs rs c (k + 1)).2 = (ruleV bs rs (drawN bs rs c k).2).2 := rfl
theorem drawN_z (bs rs : List Int) (c : Cu) : drawN bs rs c 0 = ([], c) := rfl
theorem drawN_len (bs rs : List Int) (c : Cu) : ∀ k, (drawN bs rs c k).1.length = k
  | 0 => rfl
  | k + 1 => by rw [drawN_s1, List.length_append, drawN_len bs rs c k]; rfl
noncomputable def sysV (bs : List Int) (c : Cu) : SystemT × Cu :=
  if belowV bs c 2 = 0 then (knownS (belowV bs (belowC bs c 2) 7), belowC bs (belowC bs c 2) 7)
  else (⟨(sigV bs (belowC bs c 2)).1, (drawN bs (sigV bs (belowC bs c 2)).1 (belowC bs (sigV bs (belowC bs c 2)).2 4) (belowV bs (sigV bs (belowC bs c 2)).2 4).toNat).1⟩, (drawN bs (sigV bs (belowC bs c 2)).1 (belowC bs (sigV bs (belowC bs c 2)).2 4) (belowV bs (sigV bs (belowC bs c 2)).2 4).toNat).2)
attribute [local irreducible] termV belowV belowC byteV nextC mixH nodeU ruleV sigV drawN
def kp51 : List (Nat × List Nat) := [(0, [0, 2]), (1, [0, 2, 6]), (2, [2]), (3, [0, 2, 3]), (4, [0, 2, 3, 4]), (5, [0, 2, 3, 4, 16]), (7, [0, 2, 3, 4]), (6, [0, 2, 3, 4]), (8, [2])]
attribute [go_sem] kp51
theorem l6Draw_fc (bs : List Int) (hb : BytesP bs) (id : Nat) (c : Cu) : FC S 51 [] [(id + 1000, [.sl .any (bs.map (.int .u8)), .int .i64 (c).i, .int .i64 (c).h])] [] [.box (id + 1000) 0] (SystemD (sysV bs c).1) [(id + 1000, [.sl .any (bs.map (.int .u8)), .int .i64 ((sysV bs c).2).i, .int .i64 ((sysV bs c).2).h])] [] := by
  have cO := l1Once_fc (id + 1000) bs hb c 2 (by omega)
  unfold sysV
  rcases Classical.em (belowV bs c 2 = 0) with h2 | h2
  · rw [if_pos h2]
    have cB := l1Below_fc (id + 1000) bs hb (belowC bs c 2) 7 (by omega)
    refine fc_bodyP Try.func51 rfl (by kernel_rfl) (by simp [Try.f51]) fun B hP => ?_
    simp only [Try.ntmps51, enumD, List.map_nil, List.map_cons, List.length_map, Nat.zero_add, Nat.reduceAdd]
    repeat' first
      | ((exact absurd h2 (by assumption)))
      | exact Bool.noConfusion h
      | refine sw_seq ?_
      | refine sw_block ?_
      | refine sw_skip ?_
      | refine sw_inBlock ?_
      | refine sw_go 0 kp51 fun K hK => ?_
      | refine sw_goT 0 kp51 7 (id := 7) (by kernel_rfl) fun K hK => ?_
      | refine fun (K : List Oper → LS → Prop) (hK : KOk S 0 _ _ _ K) => ?_
      | refine sw_goD kp51 (by kernel_rfl) fun K hK => ?_
      | ((first | refine runL_go ?_ | refine runQ_go ?_); simp (disch := (refine Om.mk ?_; omega)) only [go_sem])
      | (refine hK.nil ?_; clear hK K; simp only [go_sem])
      | (refine sw_cond rfl (fun h => ?_) (fun h => ?_) <;> (try simp (disch := (refine Om.mk ?_; omega)) only [go_sem] at h))
      | (refine sw_exit rfl ?_)
      | (refine sw_loopEnd ?_)
      | ((first | refine sw_ret (ret0 ?_) | refine sw_ret ?_); simp (disch := (refine Om.mk ?_; omega)) only [go_sem, Try.results51])
      | (refine hK.callB rfl rfl rfl (cO) ⟨⟨by simp only [Nat.reduceLT], (by first | (simp; all_goals fail) | (simp [LS.getBox, Lg.look]; all_goals fail)), by (simp [Lg.look]; all_goals fail), by (simp; all_goals fail), by (simp; all_goals fail)⟩, ⟨by (simp [D.ids, D.idsL]; all_goals fail), by (simp [D.ids, D.idsL]; all_goals fail), by (simp [D.tks, D.tksL]; all_goals fail), by (simp [D.tks, D.tksL]; all_goals fail), by (simp; all_goals fail)⟩, rfl⟩ ?_; simp (disch := (refine Om.mk ?_; omega)) only [go_sem])
      | (refine hK.callB rfl rfl rfl (cB) ⟨⟨by simp only [Nat.reduceLT], (by first | (simp; all_goals fail) | (simp [LS.getBox, Lg.look]; all_goals fail)), by (simp [Lg.look]; all_goals fail), by (simp; all_goals fail), by (simp; all_goals fail)⟩, ⟨by (simp [D.ids, D.idsL]; all_goals fail), by (simp [D.ids, D.idsL]; all_goals fail), by (simp [D.tks, D.tksL]; all_goals fail), by (simp [D.tks, D.tksL]; all_goals fail), by (simp; all_goals fail)⟩, rfl⟩ ?_; simp (disch := (refine Om.mk ?_; omega)) only [go_sem])
      | refine hK.call rfl rfl rfl (l6KnownF_fc _) ⟨(by intro p hp; cases hp), rfl, rfl, (by simp only [dstOk, Nat.reduceLT])⟩ ?_
      | (with_reducible refine And.intro (by first | omega | (simp only [List.length_append, List.length_take, List.length_drop, List.length_cons, List.length_nil, List.length_map]; omega)) ?_)
      | ((with_reducible refine And.intro ?_ ?_); · first | (intro x hx; subst hx; rfl) | exact upR_mem fun _ _ => rfl | exact mapR_mem fun _ _ => rfl | (intro x; refine And.intro ?_ ?_ <;> (intros; subst_vars; rfl)))
      | fail
  · rw [if_neg h2]
    generalize belowC bs c 2 = c1 at *
    have cS := l1DrawSig_fc id bs hb c1
    have hs := sigV_ok bs c1
    generalize sigV bs c1 = p at *
    obtain ⟨rs, c2⟩ := p
    dsimp only at cS hs ⊢
    have hv := belowV_lt bs c2 (show (0 : Int) < 4 by omega)
    have cM := l1Below_fc (id + 1000) bs hb c2 4 (by omega)
    obtain ⟨m, hm, hm3⟩ : ∃ m : Nat, belowV bs c2 4 = (m : Int) ∧ m ≤ 3 := ⟨(belowV bs c2 4).toNat, by omega, by omega⟩
    rw [hm] at cM ⊢
    rw [Int.toNat_natCast]
    generalize belowC bs c2 4 = c3 at *
    refine fc_bodyP Try.func51 rfl (by kernel_rfl) (by simp [Try.f51]) fun B hP => ?_
    simp only [Try.ntmps51, enumD, List.map_nil, List.map_cons, List.length_map, Nat.zero_add, Nat.reduceAdd]
    repeat' first
      | ((exact absurd (by assumption) h2))
      | ((exfalso; exact absurd (by assumption) h2))
      | exact Bool.noConfusion h
      | refine sw_seq ?_
      | refine sw_block ?_
      | refine sw_skip ?_
      | refine sw_inBlock ?_
      | refine sw_go 0 kp51 fun K hK => ?_
      | refine sw_goT 0 kp51 7 (id := 7) (by kernel_rfl) fun K hK => ?_
      | refine fun (K : List Oper → LS → Prop) (hK : KOk S 0 _ _ _ K) => ?_
      | refine sw_goD kp51 (by kernel_rfl) fun K hK => ?_
      | ((first | refine runL_go ?_ | refine runQ_go ?_); simp (disch := (refine Om.mk ?_; omega)) only [go_sem])
      | (refine hK.nil ?_; clear hK K; simp only [go_sem])
      | (refine sw_cond rfl (fun h => ?_) (fun h => ?_) <;> (try simp (disch := (refine Om.mk ?_; omega)) only [go_sem] at h))
      | (refine sw_exit rfl ?_)
      | (refine sw_loopEnd ?_)
      | ((first | refine sw_ret (ret0 ?_) | refine sw_ret ?_); simp (disch := (refine Om.mk ?_; omega)) only [go_sem, Try.results51])
      | (refine hK.callB rfl rfl rfl (cO) ⟨⟨by simp only [Nat.reduceLT], (by first | (simp; all_goals fail) | (simp [LS.getBox, Lg.look]; all_goals fail)), by (simp [Lg.look]; all_goals fail), by (simp; all_goals fail), by (simp; all_goals fail)⟩, ⟨by (simp [D.ids, D.idsL]; all_goals fail), by (simp [D.ids, D.idsL]; all_goals fail), by (simp [D.tks, D.tksL]; all_goals fail), by (simp [D.tks, D.tksL]; all_goals fail), by (simp; all_goals fail)⟩, rfl⟩ ?_; simp (disch := (refine Om.mk ?_; omega)) only [go_sem])
      | (refine hK.callB rfl rfl rfl (cS) ⟨⟨by simp only [Nat.reduceLT], (by first | (simp; all_goals fail) | (simp [LS.getBox, Lg.look]; all_goals fail)), by (simp [Lg.look]; all_goals fail), by (simp; all_goals fail), by (simp; all_goals fail)⟩, ⟨by (simp [D.ids, D.idsL]; all_goals fail), by (simp [D.ids, D.idsL]; all_goals fail), by (simp [D.tks, D.tksL]; all_goals fail), by (simp [D.tks, D.tksL]; all_goals fail), by (simp; all_goals fail)⟩, rfl⟩ ?_; simp (disch := (refine Om.mk ?_; omega)) only [go_sem])
      | (refine hK.callB rfl rfl rfl (cM) ⟨⟨by simp only [Nat.reduceLT], (by first | (simp; all_goals fail) | (simp [LS.getBox, Lg.look]; all_goals fail)), by (simp [Lg.look]; all_goals fail), by (simp; all_goals fail), by (simp; all_goals fail)⟩, ⟨by (simp [D.ids, D.idsL]; all_goals fail), by (simp [D.ids, D.idsL]; all_goals fail), by (simp [D.tks, D.tksL]; all_goals fail), by (simp [D.tks, D.tksL]; all_goals fail), by (simp; all_goals fail)⟩, rfl⟩ ?_; simp (disch := (refine Om.mk ?_; omega)) only [go_sem])
      | (with_reducible refine And.intro (by first | omega | (simp only [List.length_append, List.length_take, List.length_drop, List.length_cons, List.length_nil, List.length_map]; omega)) ?_)
      | ((with_reducible refine And.intro ?_ ?_); · first | (intro x hx; subst hx; rfl) | exact upR_mem fun _ _ => rfl | exact mapR_mem fun _ _ => rfl | (intro x; refine And.intro ?_ ?_ <;> (intros; subst_vars; rfl)))
      | fail
    refine sw_tokBox 3 1 27000 35 2 rfl rfl rfl ?_
    simp only [go_sem]
    refine sw_loopT (ι := Nat) (fun k => [(4, .int .i64 ((m : Int) - k))]) (fun k => [(id + 1000, [.sl .any (bs.map (.int .u8)), .int .i64 ((drawN bs rs c3 k).2).i, .int .i64 ((drawN bs rs c3 k).2).h]), (3, [.sl .any (rs.map (.int .i64)), .sl (.own 27000 35 2) ((drawN bs rs c3 k).1.map RuleD)])]) (fun _ => [27000]) (fun k => k ≤ m) (fun k => m - k) 0 (by rw [drawN_z]; (refine covers_mk0 rfl rfl ?_ ?_ ?_ ?_ <;> simp (disch := (refine Om.mk ?_; omega)) only [go_sem] <;> (try omega)); all_goals first | rfl | exact ⟨rfl, rfl⟩ | omega | trace_state) (by omega) (fun k hk => ?_)
    simp only [go_sem]
    have hl1 := drawN_len bs rs c3 k
    have hs1 := drawN_s1 bs rs c3 k
    have hs2 := drawN_s2 bs rs c3 k
    have cR := l6DrawRule_fc bs hb rs hs id (drawN bs rs c3 k).2
    by_cases hk2 : k < m
    · generalize drawN bs rs c3 k = p at *
      obtain ⟨l, c5⟩ := p
      dsimp only at cR hs1 hs2 hl1 ⊢
      generalize ruleV bs rs c5 = q at *
      obtain ⟨ru, c6⟩ := q
      dsimp only at cR hs1 hs2 ⊢
      repeat' first
        | ((exfalso; omega))
        | ((refine sw_any (id := 7) kp51 [(false, []), (false, [0]), (true, []), (false, []), (false, [3]), (false, [2, 4]), (false, [5]), (false, [1, 6, 5]), (false, [0, 1, 2, 3, 4, 5, 6, 7]), (false, [8, 7, 7, 0, 1, 2, 3, 4, 5, 6, 7])] ⟨29, [(0, .box (id + 1000) 0), (2, .box 2 0), (3, .box 3 0), (4, .int .i64 ((m : Int) - k))], [(id + 1000, [.sl .any (bs.map (.int .u8)), .int .i64 (c6).i, .int .i64 (c6).h]), (2, [.sl .nil [], .sl .nil []]), (3, [.sl .any (rs.map (.int .i64)), .sl (.own 27000 35 2) (l.map RuleD ++ [RuleD ru])])], [], [27000], [id + 1000]⟩ (by kernel_rfl) ?_ ?_; simp only [List.length_cons, List.length_nil, Nat.reduceAdd]))
        | ((refine anyB_unf ?_; simp only [stepF_n, stepF_c, goR_n, goR_c, exR_n, exR_c, memB_n, memB_c, subB_n, subB_c, moveY_m, moveY_f, cond_t, cond_f, true_and, and_true, Bool.not_false, Bool.not_true, Bool.and_true, Bool.and_false, Bool.true_and, Bool.false_and, Bool.or_false, Bool.false_or, Bool.true_or, Bool.or_true, Nat.reduceBEq, Nat.reduceAdd]))
        | ((refine anyB_move (by simp only [Nat.reduceLT]) rfl (by simp only [go_sem]; exact rfl) ?_))
        | ((refine anyB_fa (by simp only [Nat.reduceLT]) rfl rfl rfl rfl (by decide) (by simp only [go_sem]; exact rfl) ?_))
        | ((refine hK.nil (anyB_id ?_); clear hK K))
        | ((refine lops_and ?_ ?_))
        | ((refine lops_go 0 ?_; refine fun (K : List Oper → LS → Prop) (hK : KOk S 0 _ _ _ K) => ?_; simp (disch := (refine Om.mk ?_; omega)) only [go_sem]))
        | ((refine anyB_end ?_; simp (disch := (refine Om.mk ?_; omega)) only [go_sem]; (refine covers_mk0 rfl rfl ?_ ?_ ?_ ?_ <;> simp (disch := (refine Om.mk ?_; omega)) only [go_sem] <;> (try omega)); done))
        | ((refine anyB_end ?_; simp (disch := (refine Om.mk ?_; omega)) only [go_sem]; (refine covers_mk0 rfl rfl ?_ ?_ ?_ ?_ <;> simp (disch := (refine Om.mk ?_; omega)) only [go_sem] <;> (try omega)); all_goals (simp; done)))
        | ((refine hK.callB rfl rfl rfl (cR) ⟨⟨by simp only [Nat.reduceLT], (by simp), (by simp [Lg.look]), (by simp), (by simp)⟩, ⟨by simp [D.ids, D.idsL, RuleD, idsL_intsZ], by simp [D.ids, D.idsL, RuleD, idsL_intsZ], by simp [D.tks, D.tksL, RuleD, tksL_ints], by simp [D.tks, D.tksL, RuleD, tksL_ints], by simp⟩, (by simp [LS.clean, D.puOk, D.pu, D.pu1, D.tks, D.tksL, tksL_ints, tksL_rules, puOk_rules, inTok])⟩ ?_; simp (disch := (refine Om.mk ?_; omega)) only [go_sem]))
        | ((refine ⟨(by simp), by omega, by omega, ?_⟩))
        | exact Bool.noConfusion h
        | refine sw_seq ?_
        | refine sw_block ?_
        | refine sw_skip ?_
        | refine sw_inBlock ?_
        | refine sw_go 0 kp51 fun K hK => ?_
        | refine sw_goT 0 kp51 7 (id := 7) (by kernel_rfl) fun K hK => ?_
        | refine fun (K : List Oper → LS → Prop) (hK : KOk S 0 _ _ _ K) => ?_
        | refine sw_goD kp51 (by kernel_rfl) fun K hK => ?_
        | ((first | refine runL_go ?_ | refine runQ_go ?_); simp (disch := (refine Om.mk ?_; omega)) only [go_sem])
        | (refine hK.nil ?_; clear hK K; simp only [go_sem])
        | (refine sw_cond rfl (fun h => ?_) (fun h => ?_) <;> (try simp (disch := (refine Om.mk ?_; omega)) only [go_sem] at h))
        | (refine sw_exit rfl ?_)
        | (refine sw_loopEnd ?_)
        | ((first | refine sw_ret (ret0 ?_) | refine sw_ret ?_); simp (disch := (refine Om.mk ?_; omega)) only [go_sem, Try.results51])
        | (with_reducible refine And.intro (by first | omega | (simp only [List.length_append, List.length_take, List.length_drop, List.length_cons, List.length_nil, List.length_map]; omega)) ?_)
        | ((with_reducible refine And.intro ?_ ?_); · first | (intro x hx; subst hx; rfl) | exact upR_mem fun _ _ => rfl | exact mapR_mem fun _ _ => rfl | (intro x; refine And.intro ?_ ?_ <;> (intros; subst_vars; rfl)))
        | fail
      refine ⟨k + 1, ?_, by omega, by omega⟩
      rw [hs1, hs2, List.map_append]
      exact (by (refine covers_mk0 rfl rfl ?_ ?_ ?_ ?_ <;> simp (disch := (refine Om.mk ?_; omega)) only [go_sem] <;> (try omega)); all_goals first | rfl | exact ⟨rfl, rfl⟩ | omega | exact ⟨rfl, by omega⟩ | exact ⟨by omega, rfl⟩ | trace_state)
    · obtain rfl : k = m := by omega
      repeat' first
        | ((exfalso; omega))
        | exact Bool.noConfusion h
        | refine sw_seq ?_
        | refine sw_block ?_
        | refine sw_skip ?_
        | refine sw_inBlock ?_
        | refine sw_go 0 kp51 fun K hK => ?_
        | refine sw_goT 0 kp51 7 (id := 7) (by kernel_rfl) fun K hK => ?_
        | refine fun (K : List Oper → LS → Prop) (hK : KOk S 0 _ _ _ K) => ?_
        | refine sw_goD kp51 (by kernel_rfl) fun K hK => ?_
        | ((first | refine runL_go ?_ | refine runQ_go ?_); simp (disch := (refine Om.mk ?_; omega)) only [go_sem])
        | (refine hK.nil ?_; clear hK K; simp only [go_sem])
        | (refine sw_cond rfl (fun h => ?_) (fun h => ?_) <;> (try simp (disch := (refine Om.mk ?_; omega)) only [go_sem] at h))
        | (refine sw_exit rfl ?_)
        | (refine sw_loopEnd ?_)
        | ((first | refine sw_ret (ret0 ?_) | refine sw_ret ?_); simp (disch := (refine Om.mk ?_; omega)) only [go_sem, Try.results51])
        | (with_reducible refine And.intro (by first | omega | (simp only [List.length_append, List.length_take, List.length_drop, List.length_cons, List.length_nil, List.length_map]; omega)) ?_)
        | ((with_reducible refine And.intro ?_ ?_); · first | (intro x hx; subst hx; rfl) | exact upR_mem fun _ _ => rfl | exact mapR_mem fun _ _ => rfl | (intro x; refine And.intro ?_ ?_ <;> (intros; subst_vars; rfl)))
        | fail
  end Go.Proofs.Ytfokjjlbdaabaaa
end
section
namespace Go.Proofs.Ytfokjjlbdaabaaa
open Go Go.Lg
set_option linter.unusedSimpArgs false
set_option linter.unusedVariables false
set_option maxHeartbeats 4000000
attribute [local irreducible] SW runL runQ runG runQG FC Ret1 toF redoL anyB
attribute [local irreducible] sigU belowV belowC byteV nextC mixH fromV
theorem l1DrawSigA_fc (id : Nat) (bs : List Int) (hb : BytesP bs) (c : Cu) (h0 : ¬ belowV bs c 4 = 0) : FC S 69 [] [(id + 1000, [.sl .any (bs.map (.int .u8)), .int .i64 (c).i, .int .i64 (c).h])] [] [.box (id + 1000) 0] (.agg [.sl .full ([2, 1, 0].map (.int .i64))]) [(id + 1000, [.sl .any (bs.map (.int .u8)), .int .i64 (belowC bs c 4).i, .int .i64 (belowC bs c 4).h])] [] := by
  refine fc_body Try.func69 rfl (by kernel_rfl) (by simp [Try.f69]) fun B => ?_
  simp only [Try.ntmps69, enumD, List.map_nil, List.map_cons, List.length_map, Nat.zero_add, Nat.reduceAdd]
  repeat' first
    | ((exact absurd (by assumption) h0))
    | ((exfalso; omega))
    | exact Bool.noConfusion h
    | refine sw_seq ?_
    | refine sw_block ?_
    | refine sw_skip ?_
    | refine sw_inBlock ?_
    | refine sw_go 0 kp69 fun K hK => ?_
    | refine sw_goT 0 kp69 5 (id := 7) (by kernel_rfl) fun K hK => ?_
    | refine fun (K : List Oper → LS → Prop) (hK : KOk S 0 _ _ _ K) => ?_
    | refine sw_goD kp69 (by kernel_rfl) fun K hK => ?_
    | ((first | refine runL_go ?_ | refine runQ_go ?_); simp (disch := (refine Om.mk ?_; omega)) only [go_sem])
    | (refine hK.nil ?_; clear hK K; simp only [go_sem])
    | (refine sw_cond rfl (fun h => ?_) (fun h => ?_) <;> (try simp (disch := (refine Om.mk ?_; omega)) only [go_sem] at h))
    | (refine sw_exit rfl ?_)
    | (refine sw_loopEnd ?_)
    | ((first | refine sw_ret (ret0 ?_) | refine sw_ret ?_); simp (disch := (refine Om.mk ?_; omega)) only [go_sem, Try.results69])
    | (refine hK.callB rfl rfl rfl (l1Once_fc (id + 1000) bs hb c 4 (by omega)) ⟨⟨by simp only [Nat.reduceLT], (by first | (simp; all_goals fail) | (simp [LS.getBox, Lg.look]; all_goals fail)), by (simp [Lg.look]; all_goals fail), by (simp; all_goals fail), by (simp; all_goals fail)⟩, ⟨by (simp [D.ids, D.idsL]; all_goals fail), by (simp [D.ids, D.idsL]; all_goals fail), by (simp [D.tks, D.tksL]; all_goals fail), by (simp [D.tks, D.tksL]; all_goals fail), by (simp; all_goals fail)⟩, rfl⟩ ?_; simp (disch := (refine Om.mk ?_; omega)) only [go_sem])
    | (with_reducible refine And.intro (by first | omega | (simp only [List.length_append, List.length_take, List.length_drop, List.length_cons, List.length_nil, List.length_map]; omega)) ?_)
    | ((with_reducible refine And.intro ?_ ?_); · first | (intro x hx; subst hx; rfl) | exact upR_mem fun _ _ => rfl | exact mapR_mem fun _ _ => rfl | (intro x; refine And.intro ?_ ?_ <;> (intros; subst_vars; rfl)))
    | fail
  all_goals trace_state
theorem l1DrawSigB_fc (id : Nat) (bs : List Int) (hb : BytesP bs) (c : Cu) (h0 : belowV bs c 4 = 0) (hn : belowV bs (belowC bs c 4) 4 = 0) : FC S 69 [] [(id + 1000, [.sl .any (bs.map (.int .u8)), .int .i64 (c).i, .int .i64 (c).h])] [] [.box (id + 1000) 0] (.agg [.sl .full ([0].map (.int .i64))]) [(id + 1000, [.sl .any (bs.map (.int .u8)), .int .i64 (belowC bs (belowC bs c 4) 4).i, .int .i64 (belowC bs (belowC bs c 4) 4).h])] [] := by
  have cB := l1Below_fc (id + 1000) bs hb (belowC bs c 4) 4 (by omega)
  rw [hn] at cB
  refine fc_body Try.func69 rfl (by kernel_rfl) (by simp [Try.f69]) fun B => ?_
  simp only [Try.ntmps69, enumD, List.map_nil, List.map_cons, List.length_map, Nat.zero_add, Nat.reduceAdd]
  repeat' first
    | ((exact absurd h0 (by assumption)))
    | ((exfalso; omega))
    | exact Bool.noConfusion h
    | refine sw_seq ?_
    | refine sw_block ?_
    | refine sw_skip ?_
    | refine sw_inBlock ?_
    | refine sw_go 0 kp69 fun K hK => ?_
    | refine sw_goT 0 kp69 5 (id := 7) (by kernel_rfl) fun K hK => ?_
    | refine fun (K : List Oper → LS → Prop) (hK : KOk S 0 _ _ _ K) => ?_
    | refine sw_goD kp69 (by kernel_rfl) fun K hK => ?_
    | ((first | refine runL_go ?_ | refine runQ_go ?_); simp (disch := (refine Om.mk ?_; omega)) only [go_sem])
    | (refine hK.nil ?_; clear hK K; simp only [go_sem])
    | (refine sw_cond rfl (fun h => ?_) (fun h => ?_) <;> (try simp (disch := (refine Om.mk ?_; omega)) only [go_sem] at h))
    | (refine sw_exit rfl ?_)
    | (refine sw_loopEnd ?_)
    | ((first | refine sw_ret (ret0 ?_) | refine sw_ret ?_); simp (disch := (refine Om.mk ?_; omega)) only [go_sem, Try.results69])
    | (refine hK.callB rfl rfl rfl (l1Once_fc (id + 1000) bs hb c 4 (by omega)) ⟨⟨by simp only [Nat.reduceLT], (by first | (simp; all_goals fail) | (simp [LS.getBox, Lg.look]; all_goals fail)), by (simp [Lg.look]; all_goals fail), by (simp; all_goals fail), by (simp; all_goals fail)⟩, ⟨by (simp [D.ids, D.idsL]; all_goals fail), by (simp [D.ids, D.idsL]; all_goals fail), by (simp [D.tks, D.tksL]; all_goals fail), by (simp [D.tks, D.tksL]; all_goals fail), by (simp; all_goals fail)⟩, rfl⟩ ?_; simp (disch := (refine Om.mk ?_; omega)) only [go_sem])
    | (refine hK.callB rfl rfl rfl (cB) ⟨⟨by simp only [Nat.reduceLT], (by first | (simp; all_goals fail) | (simp [LS.getBox, Lg.look]; all_goals fail)), by (simp [Lg.look]; all_goals fail), by (simp; all_goals fail), by (simp; all_goals fail)⟩, ⟨by (simp [D.ids, D.idsL]; all_goals fail), by (simp [D.ids, D.idsL]; all_goals fail), by (simp [D.tks, D.tksL]; all_goals fail), by (simp [D.tks, D.tksL]; all_goals fail), by (simp; all_goals fail)⟩, rfl⟩ ?_; simp (disch := (refine Om.mk ?_; omega)) only [go_sem])
    | (with_reducible refine And.intro (by first | omega | (simp only [List.length_append, List.length_take, List.length_drop, List.length_cons, List.length_nil, List.length_map]; omega)) ?_)
    | ((with_reducible refine And.intro ?_ ?_); · first | (intro x hx; subst hx; rfl) | exact upR_mem fun _ _ => rfl | exact mapR_mem fun _ _ => rfl | (intro x; refine And.intro ?_ ?_ <;> (intros; subst_vars; rfl)))
    | fail
  generalize belowC bs (belowC bs c 4) 4 = c'
  refine sw_loopT (ι := Nat) (fun k => []) (fun k => []) (fun k => []) (fun k => k = 0) (fun k => k) 0 (by (refine covers_mk0 rfl rfl ?_ ?_ ?_ ?_ <;> simp (disch := (refine Om.mk ?_; omega)) only [go_sem] <;> (try omega)); all_goals first | rfl | exact ⟨rfl, rfl⟩ | trace_state) rfl (fun k hk => ?_)
  simp only [go_sem]
  repeat' first
    | ((exfalso; omega))
    | exact Bool.noConfusion h
    | refine sw_seq ?_
    | refine sw_block ?_
    | refine sw_skip ?_
    | refine sw_inBlock ?_
    | refine sw_go 0 kp69 fun K hK => ?_
    | refine sw_goT 0 kp69 5 (id := 7) (by kernel_rfl) fun K hK => ?_
    | refine fun (K : List Oper → LS → Prop) (hK : KOk S 0 _ _ _ K) => ?_
    | refine sw_goD kp69 (by kernel_rfl) fun K hK => ?_
    | ((first | refine runL_go ?_ | refine runQ_go ?_); simp (disch := (refine Om.mk ?_; omega)) only [go_sem])
    | (refine hK.nil ?_; clear hK K; simp only [go_sem])
    | (refine sw_cond rfl (fun h => ?_) (fun h => ?_) <;> (try simp (disch := (refine Om.mk ?_; omega)) only [go_sem] at h))
    | (refine sw_exit rfl ?_)
    | (refine sw_loopEnd ?_)
    | ((first | refine sw_ret (ret0 ?_) | refine sw_ret ?_); simp (disch := (refine Om.mk ?_; omega)) only [go_sem, Try.results69])
    | (with_reducible refine And.intro (by first | omega | (simp only [List.length_append, List.length_take, List.length_drop, List.length_cons, List.length_nil, List.length_map]; omega)) ?_)
    | ((with_reducible refine And.intro ?_ ?_); · first | (intro x hx; subst hx; rfl) | exact upR_mem fun _ _ => rfl | exact mapR_mem fun _ _ => rfl | (intro x; refine And.intro ?_ ?_ <;> (intros; subst_vars; rfl)))
    | fail
  all_goals trace_state
theorem l1DrawSigC_fc (id : Nat) (bs : List Int) (hb : BytesP bs) (c : Cu) (h0 : belowV bs c 4 = 0) (hne : ¬ belowV bs (belowC bs c 4) 4 = 0) : FC S 69 [] [(id + 1000, [.sl .any (bs.map (.int .u8)), .int .i64 (c).i, .int .i64 (c).h])] [] [.box (id + 1000) 0] (.agg [.sl (.own 0 2 1) ((sigU bs (belowC bs (belowC bs c 4) 4) (belowV bs (belowC bs c 4) 4).toNat).1.map (.int .i64))]) [(id + 1000, [.sl .any (bs.map (.int .u8)), .int .i64 ((sigU bs (belowC bs (belowC bs c 4) 4) (belowV bs (belowC bs c 4) 4).toNat).2).i, .int .i64 ((sigU bs (belowC bs (belowC bs c 4) 4) (belowV bs (belowC bs c 4) 4).toNat).2).h])] [0] := by
  have hv := belowV_lt bs (belowC bs c 4) (show (0 : Int) < 4 by omega)
  generalize hn : (belowV bs (belowC bs c 4) 4).toNat = n
  have hn2 : belowV bs (belowC bs c 4) 4 = (n : Int) := by omega
  have cB := l1Below_fc (id + 1000) bs hb (belowC bs c 4) 4 (by omega)
  rw [hn2] at cB
  refine fc_body1 Try.func69 rfl (by kernel_rfl) (by simp [Try.f69]) fun B => ?_
  simp only [Try.ntmps69, enumD, List.map_nil, List.map_cons, List.length_map, Nat.zero_add, Nat.reduceAdd]
  repeat' first
    | ((exact absurd h0 (by assumption)))
    | ((exfalso; omega))
    | exact Bool.noConfusion h
    | refine sw_seq ?_
    | refine sw_block ?_
    | refine sw_skip ?_
    | refine sw_inBlock ?_
    | refine sw_go 0 kp69 fun K hK => ?_
    | refine sw_goT 0 kp69 5 (id := 7) (by kernel_rfl) fun K hK => ?_
    | refine fun (K : List Oper → LS → Prop) (hK : KOk S 0 _ _ _ K) => ?_
    | refine sw_goD kp69 (by kernel_rfl) fun K hK => ?_
    | ((first | refine runL_go ?_ | refine runQ_go ?_); simp (disch := (refine Om.mk ?_; omega)) only [go_sem])
    | (refine hK.nil ?_; clear hK K; simp only [go_sem])
    | (refine sw_cond rfl (fun h => ?_) (fun h => ?_) <;> (try simp (disch := (refine Om.mk ?_; omega)) only [go_sem] at h))
    | (refine sw_exit rfl ?_)
    | (refine sw_loopEnd ?_)
    | ((first | refine sw_ret (ret0 ?_) | refine sw_ret ?_); simp (disch := (refine Om.mk ?_; omega)) only [go_sem, Try.results69])
    | (refine hK.callB rfl rfl rfl (l1Once_fc (id + 1000) bs hb c 4 (by omega)) ⟨⟨by simp only [Nat.reduceLT], (by first | (simp; all_goals fail) | (simp [LS.getBox, Lg.look]; all_goals fail)), by (simp [Lg.look]; all_goals fail), by (simp; all_goals fail), by (simp; all_goals fail)⟩, ⟨by (simp [D.ids, D.idsL]; all_goals fail), by (simp [D.ids, D.idsL]; all_goals fail), by (simp [D.tks, D.tksL]; all_goals fail), by (simp [D.tks, D.tksL]; all_goals fail), by (simp; all_goals fail)⟩, rfl⟩ ?_; simp (disch := (refine Om.mk ?_; omega)) only [go_sem])
    | (refine hK.callB rfl rfl rfl (cB) ⟨⟨by simp only [Nat.reduceLT], (by first | (simp; all_goals fail) | (simp [LS.getBox, Lg.look]; all_goals fail)), by (simp [Lg.look]; all_goals fail), by (simp; all_goals fail), by (simp; all_goals fail)⟩, ⟨by (simp [D.ids, D.idsL]; all_goals fail), by (simp [D.ids, D.idsL]; all_goals fail), by (simp [D.tks, D.tksL]; all_goals fail), by (simp [D.tks, D.tksL]; all_goals fail), by (simp; all_goals fail)⟩, rfl⟩ ?_; simp (disch := (refine Om.mk ?_; omega)) only [go_sem])
    | (with_reducible refine And.intro (by first | omega | (simp only [List.length_append, List.length_take, List.length_drop, List.length_cons, List.length_nil, List.length_map]; omega)) ?_)
    | ((with_reducible refine And.intro ?_ ?_); · first | (intro x hx; subst hx; rfl) | exact upR_mem fun _ _ => rfl | exact mapR_mem fun _ _ => rfl | (intro x; refine And.intro ?_ ?_ <;> (intros; subst_vars; rfl)))
    | fail
  have hn4 : n < 4 := by omega
  have hn0 : 0 < n := by omega
  generalize belowC bs (belowC bs c 4) 4 = c'
  refine sw_loopT (ι := Nat) (fun k => [(4, .int .i64 ((n : Int) - k))]) (fun k => [(id + 1000, [.sl .any (bs.map (.int .u8)), .int .i64 ((sigU bs c' k).2).i, .int .i64 ((sigU bs c' k).2).h]), (3, [.sl (match k with | 0 => .full | _ + 1 => .own 23000 2 1) ((sigU bs c' k).1.map (.int .i64))])]) (fun k => match k with | 0 => [] | _ + 1 => [23000]) (fun k => k ≤ n) (fun k => n - k) 0 (by rw [sigU_z]; (refine covers_mk0 rfl rfl ?_ ?_ ?_ ?_ <;> simp (disch := (refine Om.mk ?_; omega)) only [go_sem] <;> (try omega)); all_goals first | rfl | exact ⟨rfl, rfl⟩ | exact ⟨⟨rfl, rfl⟩, rfl⟩ | omega | trace_state) (by omega) (fun k hk => ?_)
  simp only [go_sem]
  have hl := sigU_len bs c' k
  have hv3 := belowV_lt bs (sigU bs c' k).2 (show (0 : Int) < 3 by omega)
  have cB3 := l1Below_fc (id + 1000) bs hb (sigU bs c' k).2 3 (by omega)
  have hs1 := sigU_s1 bs c' k
  have hs2 := sigU_s2 bs c' k
  rcases k with _ | k
  · skip
    repeat' first
      | ((exfalso; omega))
      | ((refine ⟨(by simp), by omega, by omega, ?_⟩))
      | ((refine ⟨by simp; done, by omega, by omega, ?_⟩))
      | ((refine sw_any (id := 7) kp69 [(false, []), (false, [0]), (true, []), (false, [2]), (false, [3]), (false, [1, 4, 3]), (false, [0, 1, 2, 3, 4, 5]), (false, [6, 5, 5, 0, 1, 2, 3, 4, 5])] ⟨25, [(0, .box (id + 1000) 0), (2, .box 2 0), (3, .box 3 0), (4, .int .i64 ((n : Int) - ((0 : Nat) : Int)))], [(id + 1000, [.sl .any (bs.map (.int .u8)), .int .i64 (belowC bs (sigU bs c' 0).2 3).i, .int .i64 (belowC bs (sigU bs c' 0).2 3).h]), (2, [.sl .nil []]), (3, [.sl (.own 23000 2 1) (((sigU bs c' 0).1 ++ [belowV bs (sigU bs c' 0).2 3]).map (.int .i64))])], [], [23000], [id + 1000]⟩ (by kernel_rfl) ?_ ?_; simp only [List.length_cons, List.length_nil, Nat.reduceAdd]))
      | ((refine anyB_unf ?_; simp only [stepF_n, stepF_c, goR_n, goR_c, exR_n, exR_c, memB_n, memB_c, subB_n, subB_c, moveY_m, moveY_f, cond_t, cond_f, true_and, and_true, Bool.not_false, Bool.not_true, Bool.and_true, Bool.and_false, Bool.true_and, Bool.false_and, Bool.or_false, Bool.false_or, Bool.true_or, Bool.or_true, Nat.reduceBEq, Nat.reduceAdd]))
      | ((refine anyB_move (by simp only [Nat.reduceLT]) rfl (by simp only [go_sem]; exact rfl) ?_))
      | ((refine anyB_fa (by simp only [Nat.reduceLT]) rfl rfl rfl rfl (by decide) (by simp only [go_sem]; exact rfl) ?_))
      | ((refine hK.nil (anyB_id ?_); clear hK K))
      | ((refine lops_and ?_ ?_))
      | ((refine lops_go 0 ?_; refine fun (K : List Oper → LS → Prop) (hK : KOk S 0 _ _ _ K) => ?_; simp (disch := (refine Om.mk ?_; omega)) only [go_sem]))
      | ((refine anyB_end ?_; simp (disch := (refine Om.mk ?_; omega)) only [go_sem]; (refine covers_mk0 rfl rfl ?_ ?_ ?_ ?_ <;> simp (disch := (refine Om.mk ?_; omega)) only [go_sem] <;> (try omega)); done))
      | exact Bool.noConfusion h
      | refine sw_seq ?_
      | refine sw_block ?_
      | refine sw_skip ?_
      | refine sw_inBlock ?_
      | refine sw_go 0 kp69 fun K hK => ?_
      | refine sw_goT 0 kp69 5 (id := 7) (by kernel_rfl) fun K hK => ?_
      | refine fun (K : List Oper → LS → Prop) (hK : KOk S 0 _ _ _ K) => ?_
      | refine sw_goD kp69 (by kernel_rfl) fun K hK => ?_
      | ((first | refine runL_go ?_ | refine runQ_go ?_); simp (disch := (refine Om.mk ?_; omega)) only [go_sem])
      | (refine hK.nil ?_; clear hK K; simp only [go_sem])
      | (refine sw_cond rfl (fun h => ?_) (fun h => ?_) <;> (try simp (disch := (refine Om.mk ?_; omega)) only [go_sem] at h))
      | (refine sw_exit rfl ?_)
      | (refine sw_loopEnd ?_)
      | ((first | refine sw_ret (ret0 ?_) | refine sw_ret ?_); simp (disch := (refine Om.mk ?_; omega)) only [go_sem, Try.results69])
      | (refine hK.callB rfl rfl rfl (cB3) ⟨⟨by simp only [Nat.reduceLT], (by first | (simp; all_goals fail) | (simp [LS.getBox, Lg.look]; all_goals fail)), by (simp [Lg.look]; all_goals fail), by (simp; all_goals fail), by (simp; all_goals fail)⟩, ⟨by (simp [D.ids, D.idsL]; all_goals fail), by (simp [D.ids, D.idsL]; all_goals fail), by (simp [D.tks, D.tksL]; all_goals fail), by (simp [D.tks, D.tksL]; all_goals fail), by (simp; all_goals fail)⟩, rfl⟩ ?_; simp (disch := (refine Om.mk ?_; omega)) only [go_sem])
      | (with_reducible refine And.intro (by first | omega | (simp only [List.length_append, List.length_take, List.length_drop, List.length_cons, List.length_nil, List.length_map]; omega)) ?_)
      | ((with_reducible refine And.intro ?_ ?_); · first | (intro x hx; subst hx; rfl) | exact upR_mem fun _ _ => rfl | exact mapR_mem fun _ _ => rfl | (intro x; refine And.intro ?_ ?_ <;> (intros; subst_vars; rfl)))
      | fail
    refine ⟨1, ?_, by omega, by omega⟩
    rw [hs1, hs2]
    exact (by (refine covers_mk0 rfl rfl ?_ ?_ ?_ ?_ <;> simp (disch := (refine Om.mk ?_; omega)) only [go_sem] <;> (try omega)); all_goals first | rfl | exact ⟨rfl, rfl⟩ | exact ⟨⟨rfl, rfl⟩, rfl⟩ | exact ⟨by omega, ⟨rfl, rfl⟩, rfl⟩ | exact ⟨by omega, rfl, rfl⟩ | trace_state)
  · skip
    repeat' first
      | ((exfalso; omega))
      | ((refine ⟨(by simp), by omega, by omega, ?_⟩))
      | ((refine ⟨by simp; done, by omega, by omega, ?_⟩))
      | ((refine sw_any (id := 7) kp69 [(false, []), (false, [0]), (true, []), (false, [2]), (false, [3]), (false, [1, 4, 3]), (false, [0, 1, 2, 3, 4, 5]), (false, [6, 5, 5, 0, 1, 2, 3, 4, 5])] ⟨25, [(0, .box (id + 1000) 0), (2, .box 2 0), (3, .box 3 0), (4, .int .i64 ((n : Int) - ((k : Int) + 1)))], [(id + 1000, [.sl .any (bs.map (.int .u8)), .int .i64 (belowC bs (sigU bs c' (k + 1)).2 3).i, .int .i64 (belowC bs (sigU bs c' (k + 1)).2 3).h]), (2, [.sl .nil []]), (3, [.sl (.own 23000 2 1) (((sigU bs c' (k + 1)).1 ++ [belowV bs (sigU bs c' (k + 1)).2 3]).map (.int .i64))])], [], [23000], [id + 1000]⟩ (by kernel_rfl) ?_ ?_; simp only [List.length_cons, List.length_nil, Nat.reduceAdd]))
      | ((refine anyB_unf ?_; simp only [stepF_n, stepF_c, goR_n, goR_c, exR_n, exR_c, memB_n, memB_c, subB_n, subB_c, moveY_m, moveY_f, cond_t, cond_f, true_and, and_true, Bool.not_false, Bool.not_true, Bool.and_true, Bool.and_false, Bool.true_and, Bool.false_and, Bool.or_false, Bool.false_or, Bool.true_or, Bool.or_true, Nat.reduceBEq, Nat.reduceAdd]))
      | ((refine anyB_move (by simp only [Nat.reduceLT]) rfl (by simp only [go_sem]; exact rfl) ?_))
      | ((refine anyB_fa (by simp only [Nat.reduceLT]) rfl rfl rfl rfl (by decide) (by simp only [go_sem]; exact rfl) ?_))
      | ((refine hK.nil (anyB_id ?_); clear hK K))
      | ((refine lops_and ?_ ?_))
      | ((refine lops_go 0 ?_; refine fun (K : List Oper → LS → Prop) (hK : KOk S 0 _ _ _ K) => ?_; simp (disch := (refine Om.mk ?_; omega)) only [go_sem]))
      | ((refine anyB_end ?_; simp (disch := (refine Om.mk ?_; omega)) only [go_sem]; (refine covers_mk0 rfl rfl ?_ ?_ ?_ ?_ <;> simp (disch := (refine Om.mk ?_; omega)) only [go_sem] <;> (try omega)); done))
      | exact Bool.noConfusion h
      | refine sw_seq ?_
      | refine sw_block ?_
      | refine sw_skip ?_
      | refine sw_inBlock ?_
      | refine sw_go 0 kp69 fun K hK => ?_
      | refine sw_goT 0 kp69 5 (id := 7) (by kernel_rfl) fun K hK => ?_
      | refine fun (K : List Oper → LS → Prop) (hK : KOk S 0 _ _ _ K) => ?_
      | refine sw_goD kp69 (by kernel_rfl) fun K hK => ?_
      | ((first | refine runL_go ?_ | refine runQ_go ?_); simp (disch := (refine Om.mk ?_; omega)) only [go_sem])
      | (refine hK.nil ?_; clear hK K; simp only [go_sem])
      | (refine sw_cond rfl (fun h => ?_) (fun h => ?_) <;> (try simp (disch := (refine Om.mk ?_; omega)) only [go_sem] at h))
      | (refine sw_exit rfl ?_)
      | (refine sw_loopEnd ?_)
      | ((first | refine sw_ret (ret0 ?_) | refine sw_ret ?_); simp (disch := (refine Om.mk ?_; omega)) only [go_sem, Try.results69])
      | (refine hK.callB rfl rfl rfl (cB3) ⟨⟨by simp only [Nat.reduceLT], (by first | (simp; all_goals fail) | (simp [LS.getBox, Lg.look]; all_goals fail)), by (simp [Lg.look]; all_goals fail), by (simp; all_goals fail), by (simp; all_goals fail)⟩, ⟨by (simp [D.ids, D.idsL]; all_goals fail), by (simp [D.ids, D.idsL]; all_goals fail), by (simp [D.tks, D.tksL]; all_goals fail), by (simp [D.tks, D.tksL]; all_goals fail), by (simp; all_goals fail)⟩, rfl⟩ ?_; simp (disch := (refine Om.mk ?_; omega)) only [go_sem])
      | (with_reducible refine And.intro (by first | omega | (simp only [List.length_append, List.length_take, List.length_drop, List.length_cons, List.length_nil, List.length_map]; omega)) ?_)
      | ((with_reducible refine And.intro ?_ ?_); · first | (intro x hx; subst hx; rfl) | exact upR_mem fun _ _ => rfl | exact mapR_mem fun _ _ => rfl | (intro x; refine And.intro ?_ ?_ <;> (intros; subst_vars; rfl)))
      | fail
    · refine ⟨k + 1 + 1, ?_, by omega, by omega⟩
      rw [hs1, hs2]
      exact (by (refine covers_mk0 rfl rfl ?_ ?_ ?_ ?_ <;> simp (disch := (refine Om.mk ?_; omega)) only [go_sem] <;> (try omega)); all_goals first | rfl | exact ⟨rfl, rfl⟩ | exact ⟨⟨rfl, rfl⟩, rfl⟩ | exact ⟨by omega, ⟨rfl, rfl⟩, rfl⟩ | exact ⟨by omega, rfl, rfl⟩ | trace_state)
    · have en : n = (k + 1) := by omega
      subst en
      unfold Ret1
      simp only [go_sem]
      exact ⟨23000, _, .refl _, rfl, by simp [D.tks, D.tksL], rfl⟩
theorem l1DrawSigT_fc (id : Nat) (bs : List Int) (hb : BytesP bs) (c : Cu) : FC S 69 [] [(id + 1000, [.sl .any (bs.map (.int .u8)), .int .i64 (c).i, .int .i64 (c).h])] [] [.box (id + 1000) 0] (.agg [.sl .full ((sigV bs c).1.map (.int .i64))]) [(id + 1000, [.sl .any (bs.map (.int .u8)), .int .i64 ((sigV bs c).2).i, .int .i64 ((sigV bs c).2).h])] [] ∨ FC S 69 [] [(id + 1000, [.sl .any (bs.map (.int .u8)), .int .i64 (c).i, .int .i64 (c).h])] [] [.box (id + 1000) 0] (.agg [.sl (.own 0 2 1) ((sigV bs c).1.map (.int .i64))]) [(id + 1000, [.sl .any (bs.map (.int .u8)), .int .i64 ((sigV bs c).2).i, .int .i64 ((sigV bs c).2).h])] [0] := by
  unfold sigV
  rcases Classical.em (belowV bs c 4 = 0) with h0 | h0
  · rw [if_pos h0]
    rcases Classical.em (belowV bs (belowC bs c 4) 4 = 0) with hn | hn
    · rw [hn, show (0 : Int).toNat = 0 from rfl, sigU_z]
      exact .inl (l1DrawSigB_fc id bs hb c h0 hn)
    · exact .inr (l1DrawSigC_fc id bs hb c h0 hn)
  · rw [if_neg h0]
    exact .inl (l1DrawSigA_fc id bs hb c h0)
theorem sigV_len (bs : List Int) (c : Cu) : (sigV bs c).1.length ≤ 4 := by
  unfold sigV
  split
  · have h := belowV_lt bs (belowC bs c 4) (show (0 : Int) < 4 by omega)
    have hl := sigU_len bs (belowC bs (belowC bs c 4) 4) (belowV bs (belowC bs c 4) 4).toNat
    omega
  · simp
attribute [local irreducible] sigV
def kp54 : List (Nat × List Nat) := [(0, [0, 2]), (1, [0, 2, 3]), (2, [0, 2, 3, 7]), (3, [0, 2, 3, 9]), (4, [0, 2, 3, 9, 10]), (5, [2, 3]), (6, [0, 2, 3, 9, 19]), (7, [2, 3]), (8, [0, 2, 3, 23]), (9, [2, 3]), (10, [2])]
attribute [go_sem] kp54
theorem l1DrawSigAny_fc (id : Nat) (bs : List Int) (hb : BytesP bs) (c : Cu) : ∃ (rs : List Int) (c' : Cu), FC S 54 [] [(id + 1000, [.sl .any (bs.map (.int .u8)), .int .i64 (c).i, .int .i64 (c).h])] [] [.box (id + 1000) 0] (.agg [.sl .any (rs.map (.int .i64))]) [(id + 1000, [.sl .any (bs.map (.int .u8)), .int .i64 (c').i, .int .i64 (c').h])] [] := by
  have cS := l1DrawSig_fc id bs hb c
  have hT := l1DrawSigT_fc id bs hb c
  have hl := sigV_len bs c
  generalize sigV bs c = p at *
  obtain ⟨rs, c1⟩ := p
  dsimp only at cS hT hl
  have cO := l1Once_fc (id + 1000) bs hb c1 15 (by omega)
  rcases Classical.em (belowV bs c1 15 = 0) with h15 | h15
  · have hm := belowV_lt bs (belowC bs c1 15) (show (0 : Int) < 3 by omega)
    have cM := l1Below_fc (id + 1000) bs hb (belowC bs c1 15) 3 (by omega)
    have hm3 : belowV bs (belowC bs c1 15) 3 = 0 ∨ belowV bs (belowC bs c1 15) 3 = 1 ∨ belowV bs (belowC bs c1 15) 3 = 2 := by omega
    clear hm
    generalize belowV bs (belowC bs c1 15) 3 = m at cM hm3
    generalize belowC bs (belowC bs c1 15) 3 = c4 at *
    rcases hm3 with rfl | rfl | rfl
    · have cF := l1From_fc (id + 1000) bs hb c4 (-1) 4 (by omega) (by omega) (by omega)
      refine ⟨rs ++ [fromV bs c4 (-1) 4], belowC bs c4 (4 - -1 + 1), ?_⟩
      rcases hT with cT | cT
      · clear cS
        refine fc_body Try.func54 rfl (by kernel_rfl) (by simp [Try.f54]) fun B => ?_
        simp only [Try.ntmps54, enumD, List.map_nil, List.map_cons, List.length_map, Nat.zero_add, Nat.reduceAdd]
        repeat' first
          | ((exact absurd h15 (by assumption)))
          | ((exfalso; omega))
          | ((refine ⟨(by simp), by omega, by omega, ?_⟩))
          | ((refine ⟨by simp; done, by omega, by omega, ?_⟩))
          | ((refine sw_any (id := 5) kp54 [(false, []), (false, [0]), (true, []), (false, [2]), (false, [3]), (false, [1, 4, 3]), (false, [0, 1, 2, 3, 4, 5]), (false, [6, 5, 5, 0, 1, 2, 3, 4, 5])] ⟨31, [(2, .box 2 0), (3, .box 3 0)], [(id + 1000, [.sl .any (bs.map (.int .u8)), .int .i64 (belowC bs c4 (4 - -1 + 1)).i, .int .i64 (belowC bs c4 (4 - -1 + 1)).h]), (2, [.sl .nil []]), (3, [.sl (.own 18000 2 1) ((rs ++ [fromV bs c4 (-1) 4]).map (.int .i64))])], [], [18000], [id + 1000]⟩ (by kernel_rfl) ?_ ?_; simp only [List.length_cons, List.length_nil, Nat.reduceAdd]))
          | ((refine anyB_unf ?_; simp only [stepF_n, stepF_c, goR_n, goR_c, exR_n, exR_c, memB_n, memB_c, subB_n, subB_c, moveY_m, moveY_f, cond_t, cond_f, true_and, and_true, Bool.not_false, Bool.not_true, Bool.and_true, Bool.and_false, Bool.true_and, Bool.false_and, Bool.or_false, Bool.false_or, Bool.true_or, Bool.or_true, Nat.reduceBEq, Nat.reduceAdd]))
          | ((refine anyB_move (by simp only [Nat.reduceLT]) rfl (by simp only [go_sem]; exact rfl) ?_))
          | ((refine anyB_fa (by simp only [Nat.reduceLT]) rfl rfl rfl rfl (by decide) (by simp only [go_sem]; exact rfl) ?_))
          | ((refine hK.nil (anyB_id ?_); clear hK K))
          | ((refine lops_and ?_ ?_))
          | ((refine lops_go 0 ?_; refine fun (K : List Oper → LS → Prop) (hK : KOk S 0 _ _ _ K) => ?_; simp (disch := (refine Om.mk ?_; omega)) only [go_sem]))
          | ((refine anyB_end ?_; simp (disch := (refine Om.mk ?_; omega)) only [go_sem]; (refine covers_mk0 rfl rfl ?_ ?_ ?_ ?_ <;> simp (disch := (refine Om.mk ?_; omega)) only [go_sem] <;> (try omega)); done))
          | ((refine anyB_end ?_; simp (disch := (refine Om.mk ?_; omega)) only [go_sem]; (refine covers_mk0 rfl rfl ?_ ?_ ?_ ?_ <;> simp (disch := (refine Om.mk ?_; omega)) only [go_sem] <;> (try omega)); all_goals (simp; done)))
          | exact Bool.noConfusion h
          | refine sw_seq ?_
          | refine sw_block ?_
          | refine sw_skip ?_
          | refine sw_inBlock ?_
          | refine sw_go 0 kp54 fun K hK => ?_
          | refine sw_goT 0 kp54 5 (id := 5) (by kernel_rfl) fun K hK => ?_
          | refine fun (K : List Oper → LS → Prop) (hK : KOk S 0 _ _ _ K) => ?_
          | refine sw_goD kp54 (by kernel_rfl) fun K hK => ?_
          | ((first | refine runL_go ?_ | refine runQ_go ?_); simp (disch := (refine Om.mk ?_; omega)) only [go_sem])
          | (refine hK.nil ?_; clear hK K; simp only [go_sem])
          | (refine sw_cond rfl (fun h => ?_) (fun h => ?_) <;> (try simp (disch := (refine Om.mk ?_; omega)) only [go_sem] at h))
          | (refine sw_exit rfl ?_)
          | (refine sw_loopEnd ?_)
          | ((first | refine sw_ret (ret0 ?_) | refine sw_ret ?_); simp (disch := (refine Om.mk ?_; omega)) only [go_sem, Try.results54])
          | (refine hK.callB rfl rfl rfl (cT) ⟨⟨by simp only [Nat.reduceLT], (by first | (simp; all_goals fail) | (simp [LS.getBox, Lg.look]; all_goals fail)), by (simp [Lg.look]; all_goals fail), by (simp; all_goals fail), by (simp; all_goals fail)⟩, ⟨by (simp [D.ids, D.idsL]; all_goals fail), by (simp [D.ids, D.idsL]; all_goals fail), by (simp [D.tks, D.tksL]; all_goals fail), by (simp [D.tks, D.tksL]; all_goals fail), by (simp; all_goals fail)⟩, rfl⟩ ?_; simp (disch := (refine Om.mk ?_; omega)) only [go_sem])
          | (refine hK.callB rfl rfl rfl (cO) ⟨⟨by simp only [Nat.reduceLT], (by first | (simp; all_goals fail) | (simp [LS.getBox, Lg.look]; all_goals fail)), by (simp [Lg.look]; all_goals fail), by (simp; all_goals fail), by (simp; all_goals fail)⟩, ⟨by (simp [D.ids, D.idsL]; all_goals fail), by (simp [D.ids, D.idsL]; all_goals fail), by (simp [D.tks, D.tksL]; all_goals fail), by (simp [D.tks, D.tksL]; all_goals fail), by (simp; all_goals fail)⟩, rfl⟩ ?_; simp (disch := (refine Om.mk ?_; omega)) only [go_sem])
          | (refine hK.callB rfl rfl rfl (cM) ⟨⟨by simp only [Nat.reduceLT], (by first | (simp; all_goals fail) | (simp [LS.getBox, Lg.look]; all_goals fail)), by (simp [Lg.look]; all_goals fail), by (simp; all_goals fail), by (simp; all_goals fail)⟩, ⟨by (simp [D.ids, D.idsL]; all_goals fail), by (simp [D.ids, D.idsL]; all_goals fail), by (simp [D.tks, D.tksL]; all_goals fail), by (simp [D.tks, D.tksL]; all_goals fail), by (simp; all_goals fail)⟩, rfl⟩ ?_; simp (disch := (refine Om.mk ?_; omega)) only [go_sem])
          | (refine hK.callB rfl rfl rfl (cF) ⟨⟨by simp only [Nat.reduceLT], (by first | (simp; all_goals fail) | (simp [LS.getBox, Lg.look]; all_goals fail)), by (simp [Lg.look]; all_goals fail), by (simp; all_goals fail), by (simp; all_goals fail)⟩, ⟨by (simp [D.ids, D.idsL]; all_goals fail), by (simp [D.ids, D.idsL]; all_goals fail), by (simp [D.tks, D.tksL]; all_goals fail), by (simp [D.tks, D.tksL]; all_goals fail), by (simp; all_goals fail)⟩, rfl⟩ ?_; simp (disch := (refine Om.mk ?_; omega)) only [go_sem])
          | (with_reducible refine And.intro (by first | omega | (simp only [List.length_append, List.length_take, List.length_drop, List.length_cons, List.length_nil, List.length_map]; omega)) ?_)
          | ((with_reducible refine And.intro ?_ ?_); · first | (intro x hx; subst hx; rfl) | exact upR_mem fun _ _ => rfl | exact mapR_mem fun _ _ => rfl | (intro x; refine And.intro ?_ ?_ <;> (intros; subst_vars; rfl)))
          | fail
        all_goals trace_state
      · clear cS
        refine fc_body Try.func54 rfl (by kernel_rfl) (by simp [Try.f54]) fun B => ?_
        simp only [Try.ntmps54, enumD, List.map_nil, List.map_cons, List.length_map, Nat.zero_add, Nat.reduceAdd]
        repeat' first
          | ((exact absurd h15 (by assumption)))
          | ((exfalso; omega))
          | ((refine ⟨(by simp), by omega, by omega, ?_⟩))
          | ((refine ⟨by simp; done, by omega, by omega, ?_⟩))
          | ((refine sw_any (id := 5) kp54 [(false, []), (false, [0]), (true, []), (false, [2]), (false, [3]), (false, [1, 4, 3]), (false, [0, 1, 2, 3, 4, 5]), (false, [6, 5, 5, 0, 1, 2, 3, 4, 5])] ⟨31, [(2, .box 2 0), (3, .box 3 0)], [(id + 1000, [.sl .any (bs.map (.int .u8)), .int .i64 (belowC bs c4 (4 - -1 + 1)).i, .int .i64 (belowC bs c4 (4 - -1 + 1)).h]), (2, [.sl .nil []]), (3, [.sl (.own 18000 2 1) ((rs ++ [fromV bs c4 (-1) 4]).map (.int .i64))])], [], [18000], [id + 1000]⟩ (by kernel_rfl) ?_ ?_; simp only [List.length_cons, List.length_nil, Nat.reduceAdd]))
          | ((refine anyB_unf ?_; simp only [stepF_n, stepF_c, goR_n, goR_c, exR_n, exR_c, memB_n, memB_c, subB_n, subB_c, moveY_m, moveY_f, cond_t, cond_f, true_and, and_true, Bool.not_false, Bool.not_true, Bool.and_true, Bool.and_false, Bool.true_and, Bool.false_and, Bool.or_false, Bool.false_or, Bool.true_or, Bool.or_true, Nat.reduceBEq, Nat.reduceAdd]))
          | ((refine anyB_move (by simp only [Nat.reduceLT]) rfl (by simp only [go_sem]; exact rfl) ?_))
          | ((refine anyB_fa (by simp only [Nat.reduceLT]) rfl rfl rfl rfl (by decide) (by simp only [go_sem]; exact rfl) ?_))
          | ((refine hK.nil (anyB_id ?_); clear hK K))
          | ((refine lops_and ?_ ?_))
          | ((refine lops_go 0 ?_; refine fun (K : List Oper → LS → Prop) (hK : KOk S 0 _ _ _ K) => ?_; simp (disch := (refine Om.mk ?_; omega)) only [go_sem]))
          | ((refine anyB_end ?_; simp (disch := (refine Om.mk ?_; omega)) only [go_sem]; (refine covers_mk0 rfl rfl ?_ ?_ ?_ ?_ <;> simp (disch := (refine Om.mk ?_; omega)) only [go_sem] <;> (try omega)); done))
          | ((refine anyB_end ?_; simp (disch := (refine Om.mk ?_; omega)) only [go_sem]; (refine covers_mk0 rfl rfl ?_ ?_ ?_ ?_ <;> simp (disch := (refine Om.mk ?_; omega)) only [go_sem] <;> (try omega)); all_goals (simp; done)))
          | exact Bool.noConfusion h
          | refine sw_seq ?_
          | refine sw_block ?_
          | refine sw_skip ?_
          | refine sw_inBlock ?_
          | refine sw_go 0 kp54 fun K hK => ?_
          | refine sw_goT 0 kp54 5 (id := 5) (by kernel_rfl) fun K hK => ?_
          | refine fun (K : List Oper → LS → Prop) (hK : KOk S 0 _ _ _ K) => ?_
          | refine sw_goD kp54 (by kernel_rfl) fun K hK => ?_
          | ((first | refine runL_go ?_ | refine runQ_go ?_); simp (disch := (refine Om.mk ?_; omega)) only [go_sem])
          | (refine hK.nil ?_; clear hK K; simp only [go_sem])
          | (refine sw_cond rfl (fun h => ?_) (fun h => ?_) <;> (try simp (disch := (refine Om.mk ?_; omega)) only [go_sem] at h))
          | (refine sw_exit rfl ?_)
          | (refine sw_loopEnd ?_)
          | ((first | refine sw_ret (ret0 ?_) | refine sw_ret ?_); simp (disch := (refine Om.mk ?_; omega)) only [go_sem, Try.results54])
          | (refine hK.callB rfl rfl rfl (cT) ⟨⟨by simp only [Nat.reduceLT], (by first | (simp; all_goals fail) | (simp [LS.getBox, Lg.look]; all_goals fail)), by (simp [Lg.look]; all_goals fail), by (simp; all_goals fail), by (simp; all_goals fail)⟩, ⟨by (simp [D.ids, D.idsL]; all_goals fail), by (simp [D.ids, D.idsL]; all_goals fail), by (simp [D.tks, D.tksL]; all_goals fail), by (simp [D.tks, D.tksL]; all_goals fail), by (simp; all_goals fail)⟩, rfl⟩ ?_; simp (disch := (refine Om.mk ?_; omega)) only [go_sem])
          | (refine hK.callB rfl rfl rfl (cO) ⟨⟨by simp only [Nat.reduceLT], (by first | (simp; all_goals fail) | (simp [LS.getBox, Lg.look]; all_goals fail)), by (simp [Lg.look]; all_goals fail), by (simp; all_goals fail), by (simp; all_goals fail)⟩, ⟨by (simp [D.ids, D.idsL]; all_goals fail), by (simp [D.ids, D.idsL]; all_goals fail), by (simp [D.tks, D.tksL]; all_goals fail), by (simp [D.tks, D.tksL]; all_goals fail), by (simp; all_goals fail)⟩, rfl⟩ ?_; simp (disch := (refine Om.mk ?_; omega)) only [go_sem])
          | (refine hK.callB rfl rfl rfl (cM) ⟨⟨by simp only [Nat.reduceLT], (by first | (simp; all_goals fail) | (simp [LS.getBox, Lg.look]; all_goals fail)), by (simp [Lg.look]; all_goals fail), by (simp; all_goals fail), by (simp; all_goals fail)⟩, ⟨by (simp [D.ids, D.idsL]; all_goals fail), by (simp [D.ids, D.idsL]; all_goals fail), by (simp [D.tks, D.tksL]; all_goals fail), by (simp [D.tks, D.tksL]; all_goals fail), by (simp; all_goals fail)⟩, rfl⟩ ?_; simp (disch := (refine Om.mk ?_; omega)) only [go_sem])
          | (refine hK.callB rfl rfl rfl (cF) ⟨⟨by simp only [Nat.reduceLT], (by first | (simp; all_goals fail) | (simp [LS.getBox, Lg.look]; all_goals fail)), by (simp [Lg.look]; all_goals fail), by (simp; all_goals fail), by (simp; all_goals fail)⟩, ⟨by (simp [D.ids, D.idsL]; all_goals fail), by (simp [D.ids, D.idsL]; all_goals fail), by (simp [D.tks, D.tksL]; all_goals fail), by (simp [D.tks, D.tksL]; all_goals fail), by (simp; all_goals fail)⟩, rfl⟩ ?_; simp (disch := (refine Om.mk ?_; omega)) only [go_sem])
          | (with_reducible refine And.intro (by first | omega | (simp only [List.length_append, List.length_take, List.length_drop, List.length_cons, List.length_nil, List.length_map]; omega)) ?_)
          | ((with_reducible refine And.intro ?_ ?_); · first | (intro x hx; subst hx; rfl) | exact upR_mem fun _ _ => rfl | exact mapR_mem fun _ _ => rfl | (intro x; refine And.intro ?_ ?_ <;> (intros; subst_vars; rfl)))
          | fail
        all_goals trace_state
    · refine ⟨[], c4, ?_⟩
      refine fc_body Try.func54 rfl (by kernel_rfl) (by simp [Try.f54]) fun B => ?_
      simp only [Try.ntmps54, enumD, List.map_nil, List.map_cons, List.length_map, Nat.zero_add, Nat.reduceAdd]
      repeat' first
        | ((exact absurd h15 (by assumption)))
        | ((exfalso; omega))
        | exact Bool.noConfusion h
        | refine sw_seq ?_
        | refine sw_block ?_
        | refine sw_skip ?_
        | refine sw_inBlock ?_
        | refine sw_go 0 kp54 fun K hK => ?_
        | refine sw_goT 0 kp54 5 (id := 5) (by kernel_rfl) fun K hK => ?_
        | refine fun (K : List Oper → LS → Prop) (hK : KOk S 0 _ _ _ K) => ?_
        | refine sw_goD kp54 (by kernel_rfl) fun K hK => ?_
        | ((first | refine runL_go ?_ | refine runQ_go ?_); simp (disch := (refine Om.mk ?_; omega)) only [go_sem])
        | (refine hK.nil ?_; clear hK K; simp only [go_sem])
        | (refine sw_cond rfl (fun h => ?_) (fun h => ?_) <;> (try simp (disch := (refine Om.mk ?_; omega)) only [go_sem] at h))
        | (refine sw_exit rfl ?_)
        | (refine sw_loopEnd ?_)
        | ((first | refine sw_ret (ret0 ?_) | refine sw_ret ?_); simp (disch := (refine Om.mk ?_; omega)) only [go_sem, Try.results54])
        | (refine hK.callB rfl rfl rfl (cS) ⟨⟨by simp only [Nat.reduceLT], (by first | (simp; all_goals fail) | (simp [LS.getBox, Lg.look]; all_goals fail)), by (simp [Lg.look]; all_goals fail), by (simp; all_goals fail), by (simp; all_goals fail)⟩, ⟨by (simp [D.ids, D.idsL]; all_goals fail), by (simp [D.ids, D.idsL]; all_goals fail), by (simp [D.tks, D.tksL]; all_goals fail), by (simp [D.tks, D.tksL]; all_goals fail), by (simp; all_goals fail)⟩, rfl⟩ ?_; simp (disch := (refine Om.mk ?_; omega)) only [go_sem])
        | (refine hK.callB rfl rfl rfl (cO) ⟨⟨by simp only [Nat.reduceLT], (by first | (simp; all_goals fail) | (simp [LS.getBox, Lg.look]; all_goals fail)), by (simp [Lg.look]; all_goals fail), by (simp; all_goals fail), by (simp; all_goals fail)⟩, ⟨by (simp [D.ids, D.idsL]; all_goals fail), by (simp [D.ids, D.idsL]; all_goals fail), by (simp [D.tks, D.tksL]; all_goals fail), by (simp [D.tks, D.tksL]; all_goals fail), by (simp; all_goals fail)⟩, rfl⟩ ?_; simp (disch := (refine Om.mk ?_; omega)) only [go_sem])
        | (refine hK.callB rfl rfl rfl (cM) ⟨⟨by simp only [Nat.reduceLT], (by first | (simp; all_goals fail) | (simp [LS.getBox, Lg.look]; all_goals fail)), by (simp [Lg.look]; all_goals fail), by (simp; all_goals fail), by (simp; all_goals fail)⟩, ⟨by (simp [D.ids, D.idsL]; all_goals fail), by (simp [D.ids, D.idsL]; all_goals fail), by (simp [D.tks, D.tksL]; all_goals fail), by (simp [D.tks, D.tksL]; all_goals fail), by (simp; all_goals fail)⟩, rfl⟩ ?_; simp (disch := (refine Om.mk ?_; omega)) only [go_sem])
        | (with_reducible refine And.intro (by first | omega | (simp only [List.length_append, List.length_take, List.length_drop, List.length_cons, List.length_nil, List.length_map]; omega)) ?_)
        | ((with_reducible refine And.intro ?_ ?_); · first | (intro x hx; subst hx; rfl) | exact upR_mem fun _ _ => rfl | exact mapR_mem fun _ _ => rfl | (intro x; refine And.intro ?_ ?_ <;> (intros; subst_vars; rfl)))
        | fail
      all_goals trace_state
    · have hv := belowV_lt bs c4 (show (0 : Int) < 2 by omega)
      have cB := l1Below_fc (id + 1000) bs hb c4 2 (by omega)
      obtain ⟨d, hd, hd3⟩ : ∃ d : Nat, belowV bs c4 2 = (d : Int) ∧ d ≤ 1 := ⟨(belowV bs c4 2).toNat, by omega, by omega⟩
      rw [hd] at cB
      refine ⟨List.replicate (8 + d) 0, belowC bs c4 2, ?_⟩
      refine fc_body Try.func54 rfl (by kernel_rfl) (by simp [Try.f54]) fun B => ?_
      simp only [Try.ntmps54, enumD, List.map_nil, List.map_cons, List.length_map, Nat.zero_add, Nat.reduceAdd]
      repeat' first
        | ((exact absurd h15 (by assumption)))
        | ((exfalso; omega))
        | ((refine sw_hold (id := 10) ?_))
        | exact Bool.noConfusion h
        | refine sw_seq ?_
        | refine sw_block ?_
        | refine sw_skip ?_
        | refine sw_inBlock ?_
        | refine sw_go 0 kp54 fun K hK => ?_
        | refine sw_goT 0 kp54 5 (id := 5) (by kernel_rfl) fun K hK => ?_
        | refine fun (K : List Oper → LS → Prop) (hK : KOk S 0 _ _ _ K) => ?_
        | refine sw_goD kp54 (by kernel_rfl) fun K hK => ?_
        | ((first | refine runL_go ?_ | refine runQ_go ?_); simp (disch := (refine Om.mk ?_; omega)) only [go_sem])
        | (refine hK.nil ?_; clear hK K; simp only [go_sem])
        | (refine sw_cond rfl (fun h => ?_) (fun h => ?_) <;> (try simp (disch := (refine Om.mk ?_; omega)) only [go_sem] at h))
        | (refine sw_exit rfl ?_)
        | (refine sw_loopEnd ?_)
        | ((first | refine sw_ret (ret0 ?_) | refine sw_ret ?_); simp (disch := (refine Om.mk ?_; omega)) only [go_sem, Try.results54])
        | (refine hK.callB rfl rfl rfl (cS) ⟨⟨by simp only [Nat.reduceLT], (by first | (simp; all_goals fail) | (simp [LS.getBox, Lg.look]; all_goals fail)), by (simp [Lg.look]; all_goals fail), by (simp; all_goals fail), by (simp; all_goals fail)⟩, ⟨by (simp [D.ids, D.idsL]; all_goals fail), by (simp [D.ids, D.idsL]; all_goals fail), by (simp [D.tks, D.tksL]; all_goals fail), by (simp [D.tks, D.tksL]; all_goals fail), by (simp; all_goals fail)⟩, rfl⟩ ?_; simp (disch := (refine Om.mk ?_; omega)) only [go_sem])
        | (refine hK.callB rfl rfl rfl (cO) ⟨⟨by simp only [Nat.reduceLT], (by first | (simp; all_goals fail) | (simp [LS.getBox, Lg.look]; all_goals fail)), by (simp [Lg.look]; all_goals fail), by (simp; all_goals fail), by (simp; all_goals fail)⟩, ⟨by (simp [D.ids, D.idsL]; all_goals fail), by (simp [D.ids, D.idsL]; all_goals fail), by (simp [D.tks, D.tksL]; all_goals fail), by (simp [D.tks, D.tksL]; all_goals fail), by (simp; all_goals fail)⟩, rfl⟩ ?_; simp (disch := (refine Om.mk ?_; omega)) only [go_sem])
        | (refine hK.callB rfl rfl rfl (cM) ⟨⟨by simp only [Nat.reduceLT], (by first | (simp; all_goals fail) | (simp [LS.getBox, Lg.look]; all_goals fail)), by (simp [Lg.look]; all_goals fail), by (simp; all_goals fail), by (simp; all_goals fail)⟩, ⟨by (simp [D.ids, D.idsL]; all_goals fail), by (simp [D.ids, D.idsL]; all_goals fail), by (simp [D.tks, D.tksL]; all_goals fail), by (simp [D.tks, D.tksL]; all_goals fail), by (simp; all_goals fail)⟩, rfl⟩ ?_; simp (disch := (refine Om.mk ?_; omega)) only [go_sem])
        | (refine hK.callB rfl rfl rfl (cB) ⟨⟨by simp only [Nat.reduceLT], (by first | (simp; all_goals fail) | (simp [LS.getBox, Lg.look]; all_goals fail)), by (simp [Lg.look]; all_goals fail), by (simp; all_goals fail), by (simp; all_goals fail)⟩, ⟨by (simp [D.ids, D.idsL]; all_goals fail), by (simp [D.ids, D.idsL]; all_goals fail), by (simp [D.tks, D.tksL]; all_goals fail), by (simp [D.tks, D.tksL]; all_goals fail), by (simp; all_goals fail)⟩, rfl⟩ ?_; simp (disch := (refine Om.mk ?_; omega)) only [go_sem])
        | (with_reducible refine And.intro (by first | omega | (simp only [List.length_append, List.length_take, List.length_drop, List.length_cons, List.length_nil, List.length_map]; omega)) ?_)
        | ((with_reducible refine And.intro ?_ ?_); · first | (intro x hx; subst hx; rfl) | exact upR_mem fun _ _ => rfl | exact mapR_mem fun _ _ => rfl | (intro x; refine And.intro ?_ ?_ <;> (intros; subst_vars; rfl)))
        | fail
      refine HoldP.go ?_
      refine sw_freezeBox 3 0 1 .any ((List.replicate (8 + d) (0 : Int)).map (.int .i64)) rfl rfl rfl (by decide) (by rw [flat_ints, show (8 + (d : Int)).toNat = 8 + d by omega]; simp) (by simp; omega) (fun x hx => by obtain ⟨y, _, rfl⟩ := List.mem_map.1 hx; rfl) (fun x hx => by simp only [List.mem_flatten, List.mem_replicate] at hx; obtain ⟨l, ⟨_, rfl⟩, hl⟩ := hx; rw [List.mem_singleton.1 hl]; rfl) (.inl rfl) ?_
      simp only [go_sem]
      repeat' first
        | exact Bool.noConfusion h
        | refine sw_seq ?_
        | refine sw_block ?_
        | refine sw_skip ?_
        | refine sw_inBlock ?_
        | refine sw_go 0 kp54 fun K hK => ?_
        | refine sw_goT 0 kp54 5 (id := 5) (by kernel_rfl) fun K hK => ?_
        | refine fun (K : List Oper → LS → Prop) (hK : KOk S 0 _ _ _ K) => ?_
        | refine sw_goD kp54 (by kernel_rfl) fun K hK => ?_
        | ((first | refine runL_go ?_ | refine runQ_go ?_); simp (disch := (refine Om.mk ?_; omega)) only [go_sem])
        | (refine hK.nil ?_; clear hK K; simp only [go_sem])
        | (refine sw_cond rfl (fun h => ?_) (fun h => ?_) <;> (try simp (disch := (refine Om.mk ?_; omega)) only [go_sem] at h))
        | (refine sw_exit rfl ?_)
        | (refine sw_loopEnd ?_)
        | ((first | refine sw_ret (ret0 ?_) | refine sw_ret ?_); simp (disch := (refine Om.mk ?_; omega)) only [go_sem, Try.results54])
        | (with_reducible refine And.intro (by first | omega | (simp only [List.length_append, List.length_take, List.length_drop, List.length_cons, List.length_nil, List.length_map]; omega)) ?_)
        | ((with_reducible refine And.intro ?_ ?_); · first | (intro x hx; subst hx; rfl) | exact upR_mem fun _ _ => rfl | exact mapR_mem fun _ _ => rfl | (intro x; refine And.intro ?_ ?_ <;> (intros; subst_vars; rfl)))
        | fail
      all_goals trace_state
  · refine ⟨rs, belowC bs c1 15, ?_⟩
    refine fc_body Try.func54 rfl (by kernel_rfl) (by simp [Try.f54]) fun B => ?_
    simp only [Try.ntmps54, enumD, List.map_nil, List.map_cons, List.length_map, Nat.zero_add, Nat.reduceAdd]
    repeat' first
      | ((exact absurd (by assumption) h15))
      | ((exfalso; omega))
      | exact Bool.noConfusion h
      | refine sw_seq ?_
      | refine sw_block ?_
      | refine sw_skip ?_
      | refine sw_inBlock ?_
      | refine sw_go 0 kp54 fun K hK => ?_
      | refine sw_goT 0 kp54 5 (id := 5) (by kernel_rfl) fun K hK => ?_
      | refine fun (K : List Oper → LS → Prop) (hK : KOk S 0 _ _ _ K) => ?_
      | refine sw_goD kp54 (by kernel_rfl) fun K hK => ?_
      | ((first | refine runL_go ?_ | refine runQ_go ?_); simp (disch := (refine Om.mk ?_; omega)) only [go_sem])
      | (refine hK.nil ?_; clear hK K; simp only [go_sem])
      | (refine sw_cond rfl (fun h => ?_) (fun h => ?_) <;> (try simp (disch := (refine Om.mk ?_; omega)) only [go_sem] at h))
      | (refine sw_exit rfl ?_)
      | (refine sw_loopEnd ?_)
      | ((first | refine sw_ret (ret0 ?_) | refine sw_ret ?_); simp (disch := (refine Om.mk ?_; omega)) only [go_sem, Try.results54])
      | (refine hK.callB rfl rfl rfl (cS) ⟨⟨by simp only [Nat.reduceLT], (by first | (simp; all_goals fail) | (simp [LS.getBox, Lg.look]; all_goals fail)), by (simp [Lg.look]; all_goals fail), by (simp; all_goals fail), by (simp; all_goals fail)⟩, ⟨by (simp [D.ids, D.idsL]; all_goals fail), by (simp [D.ids, D.idsL]; all_goals fail), by (simp [D.tks, D.tksL]; all_goals fail), by (simp [D.tks, D.tksL]; all_goals fail), by (simp; all_goals fail)⟩, rfl⟩ ?_; simp (disch := (refine Om.mk ?_; omega)) only [go_sem])
      | (refine hK.callB rfl rfl rfl (cO) ⟨⟨by simp only [Nat.reduceLT], (by first | (simp; all_goals fail) | (simp [LS.getBox, Lg.look]; all_goals fail)), by (simp [Lg.look]; all_goals fail), by (simp; all_goals fail), by (simp; all_goals fail)⟩, ⟨by (simp [D.ids, D.idsL]; all_goals fail), by (simp [D.ids, D.idsL]; all_goals fail), by (simp [D.tks, D.tksL]; all_goals fail), by (simp [D.tks, D.tksL]; all_goals fail), by (simp; all_goals fail)⟩, rfl⟩ ?_; simp (disch := (refine Om.mk ?_; omega)) only [go_sem])
      | (with_reducible refine And.intro (by first | omega | (simp only [List.length_append, List.length_take, List.length_drop, List.length_cons, List.length_nil, List.length_map]; omega)) ?_)
      | ((with_reducible refine And.intro ?_ ?_); · first | (intro x hx; subst hx; rfl) | exact upR_mem fun _ _ => rfl | exact mapR_mem fun _ _ => rfl | (intro x; refine And.intro ?_ ?_ <;> (intros; subst_vars; rfl)))
      | fail
    all_goals trace_state
end Go.Proofs.Ytfokjjlbdaabaaa
end
section
namespace Go.Proofs.Ytfokjjlbdaabaaa
open Go Go.Lg
set_option linter.unusedSimpArgs false
set_option linter.unusedVariables false
set_option maxHeartbeats 4000000
attribute [local irreducible] SW runL runQ runG runQG FC Ret1 toF redoL anyB
attribute [local irreducible] termV belowV belowC byteV nextC mixH nodeU ruleV sigV drawN anyV knownS
theorem l6DrawF_fc (bs : List Int) (hb : BytesP bs) (id : Nat) (c : Cu) (h2 : belowV bs c 2 = 0) : FC S 51 [] [(id + 1000, [.sl .any (bs.map (.int .u8)), .int .i64 (c).i, .int .i64 (c).h])] [] [.box (id + 1000) 0] (.agg [.sl .any ((knownS (belowV bs (belowC bs c 2) 7)).sig.map (.int .i64)), .sl .full ((knownS (belowV bs (belowC bs c 2) 7)).rules.map RuleD)]) [(id + 1000, [.sl .any (bs.map (.int .u8)), .int .i64 (belowC bs (belowC bs c 2) 7).i, .int .i64 (belowC bs (belowC bs c 2) 7).h])] [] := by
  have cO := l1Once_fc (id + 1000) bs hb c 2 (by omega)
  have cB := l1Below_fc (id + 1000) bs hb (belowC bs c 2) 7 (by omega)
  refine fc_bodyP Try.func51 rfl (by kernel_rfl) (by simp [Try.f51]) fun B hP => ?_
  simp only [Try.ntmps51, enumD, List.map_nil, List.map_cons, List.length_map, Nat.zero_add, Nat.reduceAdd]
  repeat' first
    | ((exact absurd h2 (by assumption)))
    | exact Bool.noConfusion h
    | refine sw_seq ?_
    | refine sw_block ?_
    | refine sw_skip ?_
    | refine sw_inBlock ?_
    | refine sw_go 0 kp51 fun K hK => ?_
    | refine sw_goT 0 kp51 7 (id := 7) (by kernel_rfl) fun K hK => ?_
    | refine fun (K : List Oper → LS → Prop) (hK : KOk S 0 _ _ _ K) => ?_
    | refine sw_goD kp51 (by kernel_rfl) fun K hK => ?_
    | ((first | refine runL_go ?_ | refine runQ_go ?_); simp (disch := (refine Om.mk ?_; omega)) only [go_sem])
    | (refine hK.nil ?_; clear hK K; simp only [go_sem])
    | (refine sw_cond rfl (fun h => ?_) (fun h => ?_) <;> (try simp (disch := (refine Om.mk ?_; omega)) only [go_sem] at h))
    | (refine sw_exit rfl ?_)
    | (refine sw_loopEnd ?_)
    | ((first | refine sw_ret (ret0 ?_) | refine sw_ret ?_); simp (disch := (refine Om.mk ?_; omega)) only [go_sem, Try.results51])
    | (refine hK.callB rfl rfl rfl (cO) ⟨⟨by simp only [Nat.reduceLT], (by first | (simp; all_goals fail) | (simp [LS.getBox, Lg.look]; all_goals fail)), by (simp [Lg.look]; all_goals fail), by (simp; all_goals fail), by (simp; all_goals fail)⟩, ⟨by (simp [D.ids, D.idsL]; all_goals fail), by (simp [D.ids, D.idsL]; all_goals fail), by (simp [D.tks, D.tksL]; all_goals fail), by (simp [D.tks, D.tksL]; all_goals fail), by (simp; all_goals fail)⟩, rfl⟩ ?_; simp (disch := (refine Om.mk ?_; omega)) only [go_sem])
    | (refine hK.callB rfl rfl rfl (cB) ⟨⟨by simp only [Nat.reduceLT], (by first | (simp; all_goals fail) | (simp [LS.getBox, Lg.look]; all_goals fail)), by (simp [Lg.look]; all_goals fail), by (simp; all_goals fail), by (simp; all_goals fail)⟩, ⟨by (simp [D.ids, D.idsL]; all_goals fail), by (simp [D.ids, D.idsL]; all_goals fail), by (simp [D.tks, D.tksL]; all_goals fail), by (simp [D.tks, D.tksL]; all_goals fail), by (simp; all_goals fail)⟩, rfl⟩ ?_; simp (disch := (refine Om.mk ?_; omega)) only [go_sem])
    | refine hK.call rfl rfl rfl (l6KnownF_fc _) ⟨(by intro p hp; cases hp), rfl, rfl, (by simp only [dstOk, Nat.reduceLT])⟩ ?_
    | (with_reducible refine And.intro (by first | omega | (simp only [List.length_append, List.length_take, List.length_drop, List.length_cons, List.length_nil, List.length_map]; omega)) ?_)
    | ((with_reducible refine And.intro ?_ ?_); · first | (intro x hx; subst hx; rfl) | exact upR_mem fun _ _ => rfl | exact mapR_mem fun _ _ => rfl | (intro x; refine And.intro ?_ ?_ <;> (intros; subst_vars; rfl)))
    | fail
theorem l6DrawO_fc (bs : List Int) (hb : BytesP bs) (id : Nat) (c : Cu) (h2 : ¬ belowV bs c 2 = 0) : FC S 51 [] [(id + 1000, [.sl .any (bs.map (.int .u8)), .int .i64 (c).i, .int .i64 (c).h])] [] [.box (id + 1000) 0] (.agg [.sl .any ((sysV bs c).1.sig.map (.int .i64)), .sl (.own 0 35 2) ((sysV bs c).1.rules.map RuleD)]) [(id + 1000, [.sl .any (bs.map (.int .u8)), .int .i64 ((sysV bs c).2).i, .int .i64 ((sysV bs c).2).h])] [0] := by
  have cO := l1Once_fc (id + 1000) bs hb c 2 (by omega)
  unfold sysV
  rw [if_neg h2]
  generalize belowC bs c 2 = c1 at *
  have cS := l1DrawSig_fc id bs hb c1
  have hs := sigV_ok bs c1
  generalize sigV bs c1 = p at *
  obtain ⟨rs, c2⟩ := p
  dsimp only at cS hs ⊢
  have hv := belowV_lt bs c2 (show (0 : Int) < 4 by omega)
  have cM := l1Below_fc (id + 1000) bs hb c2 4 (by omega)
  obtain ⟨m, hm, hm3⟩ : ∃ m : Nat, belowV bs c2 4 = (m : Int) ∧ m ≤ 3 := ⟨(belowV bs c2 4).toNat, by omega, by omega⟩
  rw [hm] at cM ⊢
  rw [Int.toNat_natCast]
  generalize belowC bs c2 4 = c3 at *
  refine fc_body1 Try.func51 rfl (by kernel_rfl) (by simp [Try.f51]) fun B => ?_
  simp only [Try.ntmps51, enumD, List.map_nil, List.map_cons, List.length_map, Nat.zero_add, Nat.reduceAdd]
  repeat' first
    | ((exact absurd (by assumption) h2))
    | ((exfalso; exact absurd (by assumption) h2))
    | exact Bool.noConfusion h
    | refine sw_seq ?_
    | refine sw_block ?_
    | refine sw_skip ?_
    | refine sw_inBlock ?_
    | refine sw_go 0 kp51 fun K hK => ?_
    | refine sw_goT 0 kp51 7 (id := 7) (by kernel_rfl) fun K hK => ?_
    | refine fun (K : List Oper → LS → Prop) (hK : KOk S 0 _ _ _ K) => ?_
    | refine sw_goD kp51 (by kernel_rfl) fun K hK => ?_
    | ((first | refine runL_go ?_ | refine runQ_go ?_); simp (disch := (refine Om.mk ?_; omega)) only [go_sem])
    | (refine hK.nil ?_; clear hK K; simp only [go_sem])
    | (refine sw_cond rfl (fun h => ?_) (fun h => ?_) <;> (try simp (disch := (refine Om.mk ?_; omega)) only [go_sem] at h))
    | (refine sw_exit rfl ?_)
    | (refine sw_loopEnd ?_)
    | ((first | refine sw_ret (ret0 ?_) | refine sw_ret ?_); simp (disch := (refine Om.mk ?_; omega)) only [go_sem, Try.results51])
    | (refine hK.callB rfl rfl rfl (cO) ⟨⟨by simp only [Nat.reduceLT], (by first | (simp; all_goals fail) | (simp [LS.getBox, Lg.look]; all_goals fail)), by (simp [Lg.look]; all_goals fail), by (simp; all_goals fail), by (simp; all_goals fail)⟩, ⟨by (simp [D.ids, D.idsL]; all_goals fail), by (simp [D.ids, D.idsL]; all_goals fail), by (simp [D.tks, D.tksL]; all_goals fail), by (simp [D.tks, D.tksL]; all_goals fail), by (simp; all_goals fail)⟩, rfl⟩ ?_; simp (disch := (refine Om.mk ?_; omega)) only [go_sem])
    | (refine hK.callB rfl rfl rfl (cS) ⟨⟨by simp only [Nat.reduceLT], (by first | (simp; all_goals fail) | (simp [LS.getBox, Lg.look]; all_goals fail)), by (simp [Lg.look]; all_goals fail), by (simp; all_goals fail), by (simp; all_goals fail)⟩, ⟨by (simp [D.ids, D.idsL]; all_goals fail), by (simp [D.ids, D.idsL]; all_goals fail), by (simp [D.tks, D.tksL]; all_goals fail), by (simp [D.tks, D.tksL]; all_goals fail), by (simp; all_goals fail)⟩, rfl⟩ ?_; simp (disch := (refine Om.mk ?_; omega)) only [go_sem])
    | (refine hK.callB rfl rfl rfl (cM) ⟨⟨by simp only [Nat.reduceLT], (by first | (simp; all_goals fail) | (simp [LS.getBox, Lg.look]; all_goals fail)), by (simp [Lg.look]; all_goals fail), by (simp; all_goals fail), by (simp; all_goals fail)⟩, ⟨by (simp [D.ids, D.idsL]; all_goals fail), by (simp [D.ids, D.idsL]; all_goals fail), by (simp [D.tks, D.tksL]; all_goals fail), by (simp [D.tks, D.tksL]; all_goals fail), by (simp; all_goals fail)⟩, rfl⟩ ?_; simp (disch := (refine Om.mk ?_; omega)) only [go_sem])
    | (with_reducible refine And.intro (by first | omega | (simp only [List.length_append, List.length_take, List.length_drop, List.length_cons, List.length_nil, List.length_map]; omega)) ?_)
    | ((with_reducible refine And.intro ?_ ?_); · first | (intro x hx; subst hx; rfl) | exact upR_mem fun _ _ => rfl | exact mapR_mem fun _ _ => rfl | (intro x; refine And.intro ?_ ?_ <;> (intros; subst_vars; rfl)))
    | fail
  refine sw_tokBox 3 1 27000 35 2 rfl rfl rfl ?_
  simp only [go_sem]
  refine sw_loopT (ι := Nat) (fun k => [(4, .int .i64 ((m : Int) - k))]) (fun k => [(id + 1000, [.sl .any (bs.map (.int .u8)), .int .i64 ((drawN bs rs c3 k).2).i, .int .i64 ((drawN bs rs c3 k).2).h]), (3, [.sl .any (rs.map (.int .i64)), .sl (.own 27000 35 2) ((drawN bs rs c3 k).1.map RuleD)])]) (fun _ => [27000]) (fun k => k ≤ m) (fun k => m - k) 0 (by rw [drawN_z]; (refine covers_mk0 rfl rfl ?_ ?_ ?_ ?_ <;> simp (disch := (refine Om.mk ?_; omega)) only [go_sem] <;> (try omega)); all_goals first | rfl | exact ⟨rfl, rfl⟩ | omega | trace_state) (by omega) (fun k hk => ?_)
  simp only [go_sem]
  have hl1 := drawN_len bs rs c3 k
  have hs1 := drawN_s1 bs rs c3 k
  have hs2 := drawN_s2 bs rs c3 k
  have cR := l6DrawRule_fc bs hb rs hs id (drawN bs rs c3 k).2
  by_cases hk2 : k < m
  · generalize drawN bs rs c3 k = p at *
    obtain ⟨l, c5⟩ := p
    dsimp only at cR hs1 hs2 hl1 ⊢
    generalize ruleV bs rs c5 = q at *
    obtain ⟨ru, c6⟩ := q
    dsimp only at cR hs1 hs2 ⊢
    repeat' first
      | ((exfalso; omega))
      | ((refine sw_any (id := 7) kp51 [(false, []), (false, [0]), (true, []), (false, []), (false, [3]), (false, [2, 4]), (false, [5]), (false, [1, 6, 5]), (false, [0, 1, 2, 3, 4, 5, 6, 7]), (false, [8, 7, 7, 0, 1, 2, 3, 4, 5, 6, 7])] ⟨29, [(0, .box (id + 1000) 0), (2, .box 2 0), (3, .box 3 0), (4, .int .i64 ((m : Int) - k))], [(id + 1000, [.sl .any (bs.map (.int .u8)), .int .i64 (c6).i, .int .i64 (c6).h]), (2, [.sl .nil [], .sl .nil []]), (3, [.sl .any (rs.map (.int .i64)), .sl (.own 27000 35 2) (l.map RuleD ++ [RuleD ru])])], [], [27000], [id + 1000]⟩ (by kernel_rfl) ?_ ?_; simp only [List.length_cons, List.length_nil, Nat.reduceAdd]))
      | ((refine anyB_unf ?_; simp only [stepF_n, stepF_c, goR_n, goR_c, exR_n, exR_c, memB_n, memB_c, subB_n, subB_c, moveY_m, moveY_f, cond_t, cond_f, true_and, and_true, Bool.not_false, Bool.not_true, Bool.and_true, Bool.and_false, Bool.true_and, Bool.false_and, Bool.or_false, Bool.false_or, Bool.true_or, Bool.or_true, Nat.reduceBEq, Nat.reduceAdd]))
      | ((refine anyB_move (by simp only [Nat.reduceLT]) rfl (by simp only [go_sem]; exact rfl) ?_))
      | ((refine anyB_fa (by simp only [Nat.reduceLT]) rfl rfl rfl rfl (by decide) (by simp only [go_sem]; exact rfl) ?_))
      | ((refine hK.nil (anyB_id ?_); clear hK K))
      | ((refine lops_and ?_ ?_))
      | ((refine lops_go 0 ?_; refine fun (K : List Oper → LS → Prop) (hK : KOk S 0 _ _ _ K) => ?_; simp (disch := (refine Om.mk ?_; omega)) only [go_sem]))
      | ((refine anyB_end ?_; simp (disch := (refine Om.mk ?_; omega)) only [go_sem]; (refine covers_mk0 rfl rfl ?_ ?_ ?_ ?_ <;> simp (disch := (refine Om.mk ?_; omega)) only [go_sem] <;> (try omega)); done))
      | ((refine anyB_end ?_; simp (disch := (refine Om.mk ?_; omega)) only [go_sem]; (refine covers_mk0 rfl rfl ?_ ?_ ?_ ?_ <;> simp (disch := (refine Om.mk ?_; omega)) only [go_sem] <;> (try omega)); all_goals (simp; done)))
      | ((refine hK.callB rfl rfl rfl (cR) ⟨⟨by simp only [Nat.reduceLT], (by simp), (by simp [Lg.look]), (by simp), (by simp)⟩, ⟨by simp [D.ids, D.idsL, RuleD, idsL_intsZ], by simp [D.ids, D.idsL, RuleD, idsL_intsZ], by simp [D.tks, D.tksL, RuleD, tksL_ints], by simp [D.tks, D.tksL, RuleD, tksL_ints], by simp⟩, (by simp [LS.clean, D.puOk, D.pu, D.pu1, D.tks, D.tksL, tksL_ints, tksL_rules, puOk_rules, inTok])⟩ ?_; simp (disch := (refine Om.mk ?_; omega)) only [go_sem]))
      | ((refine ⟨(by simp), by omega, by omega, ?_⟩))
      | exact Bool.noConfusion h
      | refine sw_seq ?_
      | refine sw_block ?_
      | refine sw_skip ?_
      | refine sw_inBlock ?_
      | refine sw_go 0 kp51 fun K hK => ?_
      | refine sw_goT 0 kp51 7 (id := 7) (by kernel_rfl) fun K hK => ?_
      | refine fun (K : List Oper → LS → Prop) (hK : KOk S 0 _ _ _ K) => ?_
      | refine sw_goD kp51 (by kernel_rfl) fun K hK => ?_
      | ((first | refine runL_go ?_ | refine runQ_go ?_); simp (disch := (refine Om.mk ?_; omega)) only [go_sem])
      | (refine hK.nil ?_; clear hK K; simp only [go_sem])
      | (refine sw_cond rfl (fun h => ?_) (fun h => ?_) <;> (try simp (disch := (refine Om.mk ?_; omega)) only [go_sem] at h))
      | (refine sw_exit rfl ?_)
      | (refine sw_loopEnd ?_)
      | ((first | refine sw_ret (ret0 ?_) | refine sw_ret ?_); simp (disch := (refine Om.mk ?_; omega)) only [go_sem, Try.results51])
      | (with_reducible refine And.intro (by first | omega | (simp only [List.length_append, List.length_take, List.length_drop, List.length_cons, List.length_nil, List.length_map]; omega)) ?_)
      | ((with_reducible refine And.intro ?_ ?_); · first | (intro x hx; subst hx; rfl) | exact upR_mem fun _ _ => rfl | exact mapR_mem fun _ _ => rfl | (intro x; refine And.intro ?_ ?_ <;> (intros; subst_vars; rfl)))
      | fail
    refine ⟨k + 1, ?_, by omega, by omega⟩
    rw [hs1, hs2, List.map_append]
    exact (by (refine covers_mk0 rfl rfl ?_ ?_ ?_ ?_ <;> simp (disch := (refine Om.mk ?_; omega)) only [go_sem] <;> (try omega)); all_goals first | rfl | exact ⟨rfl, rfl⟩ | omega | exact ⟨rfl, by omega⟩ | exact ⟨by omega, rfl⟩ | trace_state)
  · obtain rfl : k = m := by omega
    repeat' first
      | ((exfalso; omega))
      | exact Bool.noConfusion h
      | refine sw_seq ?_
      | refine sw_block ?_
      | refine sw_skip ?_
      | refine sw_inBlock ?_
      | refine sw_go 0 kp51 fun K hK => ?_
      | refine sw_goT 0 kp51 7 (id := 7) (by kernel_rfl) fun K hK => ?_
      | refine fun (K : List Oper → LS → Prop) (hK : KOk S 0 _ _ _ K) => ?_
      | refine sw_goD kp51 (by kernel_rfl) fun K hK => ?_
      | ((first | refine runL_go ?_ | refine runQ_go ?_); simp (disch := (refine Om.mk ?_; omega)) only [go_sem])
      | (refine hK.nil ?_; clear hK K; simp only [go_sem])
      | (refine sw_cond rfl (fun h => ?_) (fun h => ?_) <;> (try simp (disch := (refine Om.mk ?_; omega)) only [go_sem] at h))
      | (refine sw_exit rfl ?_)
      | (refine sw_loopEnd ?_)
      | ((first | refine sw_ret (ret0 ?_) | refine sw_ret ?_); simp (disch := (refine Om.mk ?_; omega)) only [go_sem, Try.results51])
      | (with_reducible refine And.intro (by first | omega | (simp only [List.length_append, List.length_take, List.length_drop, List.length_cons, List.length_nil, List.length_map]; omega)) ?_)
      | ((with_reducible refine And.intro ?_ ?_); · first | (intro x hx; subst hx; rfl) | exact upR_mem fun _ _ => rfl | exact mapR_mem fun _ _ => rfl | (intro x; refine And.intro ?_ ?_ <;> (intros; subst_vars; rfl)))
      | fail
    unfold Ret1
    simp only [go_sem]
    exact ⟨27000, _, .refl _, rfl, by simp [D.tks, D.tksL, tksL_ints, tksL_rules], by simp [D.sT, D.sTL, sTL_map, RuleD]⟩
theorem sysV_sig (bs : List Int) (c : Cu) : SigOkP (sysV bs c).1.sig := by
  unfold sysV
  split
  · have : (knownS (belowV bs (belowC bs c 2) 7)).sig = [2, 1, 0] := by unfold knownS; (repeat' split) <;> rfl
    rw [this]
    exact ⟨by simp, fun j hj => by
      have : ∀ x ∈ ([2, 1, 0] : List Int), 0 ≤ x ∧ x ≤ 3 := by simp
      exact this _ (getD_mem _ j hj)⟩
  · exact sigV_ok _ _
theorem sysV_rl (bs : List Int) (c : Cu) : (sysV bs c).1.rules.length ≤ 3 := by
  unfold sysV
  split
  · unfold knownS; (repeat' split) <;> simp
  · have := belowV_lt bs (sigV bs (belowC bs c 2)).2 (show (0 : Int) < 4 by omega)
    simp only [drawN_len]; omega
theorem l6DrawT_fc (bs : List Int) (hb : BytesP bs) (id : Nat) (c : Cu) : FC S 51 [] [(id + 1000, [.sl .any (bs.map (.int .u8)), .int .i64 (c).i, .int .i64 (c).h])] [] [.box (id + 1000) 0] (.agg [.sl .any ((sysV bs c).1.sig.map (.int .i64)), .sl .full ((sysV bs c).1.rules.map RuleD)]) [(id + 1000, [.sl .any (bs.map (.int .u8)), .int .i64 ((sysV bs c).2).i, .int .i64 ((sysV bs c).2).h])] [] ∨ FC S 51 [] [(id + 1000, [.sl .any (bs.map (.int .u8)), .int .i64 (c).i, .int .i64 (c).h])] [] [.box (id + 1000) 0] (.agg [.sl .any ((sysV bs c).1.sig.map (.int .i64)), .sl (.own 0 35 2) ((sysV bs c).1.rules.map RuleD)]) [(id + 1000, [.sl .any (bs.map (.int .u8)), .int .i64 ((sysV bs c).2).i, .int .i64 ((sysV bs c).2).h])] [0] := by
  rcases Classical.em (belowV bs c 2 = 0) with h2 | h2
  · have h := l6DrawF_fc bs hb id c h2
    have e : sysV bs c = (knownS (belowV bs (belowC bs c 2) 7), belowC bs (belowC bs c 2) 7) := by unfold sysV; rw [if_pos h2]
    rw [e]
    exact .inl h
  · exact .inr (l6DrawO_fc bs hb id c h2)
end Go.Proofs.Ytfokjjlbdaabaaa
end
section
namespace Go.Proofs.Ytfokjjlbdaabaaa
open Go Go.Lg
set_option linter.unusedSimpArgs false
set_option linter.unusedVariables false
set_option maxHeartbeats 4000000
attribute [local irreducible] SW runL runQ runG runQG FC Ret1 toF redoL anyB
attribute [local irreducible] termV belowV belowC byteV nextC mixH nodeU ruleV sigV drawN anyV knownS
attribute [local irreducible] sysV
def fillR (us : List RuleT) : Nat → List RuleT
  | 0 => us
  | i + 1 => fillR us i ++ [⟨[2], [2]⟩]
theorem fillR_z (us : List RuleT) : fillR us 0 = us := rfl
theorem fillR_s (us : List RuleT) (i : Nat) : fillR us (i + 1) = fillR us i ++ [⟨[2], [2]⟩] := rfl
theorem fillR_len (us : List RuleT) : ∀ i, (fillR us i).length = us.length + i
  | 0 => rfl
  | i + 1 => by rw [fillR_s, List.length_append, fillR_len us i]; rfl
attribute [local irreducible] fillR
def kp26 : List (Nat × List Nat) := [(0, [0, 2]), (1, [0, 2, 3]), (2, [0, 2, 3, 7]), (3, [0, 2, 3, 9]), (4, [0, 2, 3, 9, 10]), (5, [2, 3]), (6, [0, 2, 3, 9, 26]), (7, [2, 3]), (8, [2, 3, 9, 31]), (9, [2, 3, 36]), (10, [2, 3]), (11, [2, 3, 45]), (12, [2, 3]), (13, [2])]
attribute [go_sem] kp26
theorem l6DrawAny_fc (bs : List Int) (hb : BytesP bs) (id : Nat) (c : Cu) : ∃ (x : SystemT) (c' : Cu), FC S 26 [] [(id + 1000, [.sl .any (bs.map (.int .u8)), .int .i64 (c).i, .int .i64 (c).h])] [] [.box (id + 1000) 0] (SystemD x) [(id + 1000, [.sl .any (bs.map (.int .u8)), .int .i64 (c').i, .int .i64 (c').h])] [] := by
  have cD := l6Draw_fc bs hb id c
  have hT := l6DrawT_fc bs hb id c
  have hs := sysV_sig bs c
  have hl := sysV_rl bs c
  generalize sysV bs c = p at *
  obtain ⟨⟨rs, us⟩, c1⟩ := p
  dsimp only at cD hT hs hl
  have cO := l1Once_fc (id + 1000) bs hb c1 15 (by omega)
  rcases Classical.em (belowV bs c1 15 = 0) with h15 | h15
  · have hm := belowV_lt bs (belowC bs c1 15) (show (0 : Int) < 4 by omega)
    have cM := l1Below_fc (id + 1000) bs hb (belowC bs c1 15) 4 (by omega)
    have hm4 : belowV bs (belowC bs c1 15) 4 = 0 ∨ belowV bs (belowC bs c1 15) 4 = 1 ∨ belowV bs (belowC bs c1 15) 4 = 2 ∨ belowV bs (belowC bs c1 15) 4 = 3 := by omega
    clear hm
    generalize belowV bs (belowC bs c1 15) 4 = m at cM hm4
    generalize belowC bs (belowC bs c1 15) 4 = c4 at *
    rcases hm4 with rfl | rfl | rfl | rfl
    · have cA := l1DrawAny_fc bs hb rs hs id c4
      generalize anyV bs rs c4 = p at *
      obtain ⟨l, c5⟩ := p
      dsimp only at cA
      have cB := l1DrawAny_fc bs hb rs hs id c5
      generalize anyV bs rs c5 = p at *
      obtain ⟨r, c6⟩ := p
      dsimp only at cB
      refine ⟨⟨rs, us ++ [⟨l, r⟩]⟩, c6, ?_⟩
      rcases hT with cT | cT
      · clear cD
        refine fc_body Try.func26 rfl (by kernel_rfl) (by simp [Try.f26]) fun B => ?_
        simp only [Try.ntmps26, enumD, List.map_nil, List.map_cons, List.length_map, Nat.zero_add, Nat.reduceAdd]
        repeat' first
          | ((exact absurd h15 (by assumption)))
          | ((exfalso; omega))
          | ((refine ⟨(by intro x hx; rcases List.mem_append.1 hx with hx | hx; (obtain ⟨y, _, rfl⟩ := List.mem_map.1 hx; rfl); (obtain rfl := List.mem_singleton.1 hx; rfl)), by omega, by omega, ?_⟩))
          | ((refine ⟨(by simp), by omega, by omega, ?_⟩))
          | ((refine ⟨by simp; done, by omega, by omega, ?_⟩))
          | ((refine hK.callB rfl rfl rfl (cA) ⟨⟨by simp only [Nat.reduceLT], (by simp), ?lk, (by simp), (by simp)⟩, ⟨by simp [D.ids, D.idsL, SystemD, idsL_intsZ, idsL_rules], by simp [D.ids, D.idsL, idsL_intsZ], by simp [D.tks, D.tksL, SystemD, tksL_ints, tksL_rules], by simp [D.tks, D.tksL, tksL_ints], by simp⟩, (by simp [LS.clean, D.puOk, D.pu, D.pu1, D.tks, D.tksL, tksL_ints, tksL_rules, puOk_rules, inTok])⟩ ?_; (case lk => (simp [Lg.look]; done)); simp (disch := (refine Om.mk ?_; omega)) only [go_sem]))
          | ((refine hK.callB rfl rfl rfl (cB) ⟨⟨by simp only [Nat.reduceLT], (by simp), ?lk, (by simp), (by simp)⟩, ⟨by simp [D.ids, D.idsL, SystemD, idsL_intsZ, idsL_rules], by simp [D.ids, D.idsL, idsL_intsZ], by simp [D.tks, D.tksL, SystemD, tksL_ints, tksL_rules], by simp [D.tks, D.tksL, tksL_ints], by simp⟩, (by simp [LS.clean, D.puOk, D.pu, D.pu1, D.tks, D.tksL, tksL_ints, tksL_rules, puOk_rules, inTok])⟩ ?_; (case lk => (simp [Lg.look]; done)); simp (disch := (refine Om.mk ?_; omega)) only [go_sem]))
          | ((refine sw_any (id := 5) kp26 [(true, []), (false, [0]), (true, []), (true, []), (false, [3]), (false, [2, 4]), (true, []), (true, []), (false, [7]), (false, [6, 8, 5]), (false, [5, 9]), (false, [10]), (false, [1, 11, 9]), (false, [0, 1, 2, 3, 4, 5, 6, 7, 8, 9, 10, 11, 12]), (false, [13, 12, 12, 0, 1, 2, 3, 4, 5, 6, 7, 8, 9, 10, 11, 12])] ⟨56, [(2, .box 2 0), (3, .box 3 0)], [(id + 1000, [.sl .any (bs.map (.int .u8)), .int .i64 (c6).i, .int .i64 (c6).h]), (2, [.sl .nil [], .sl .nil []]), (3, [.sl .any (rs.map (.int .i64)), .sl (.own 25000 35 2) (us.map RuleD ++ [RuleD ⟨l, r⟩])])], [], [25000], [id + 1000]⟩ (by kernel_rfl) ?_ ?_; simp only [List.length_cons, List.length_nil, Nat.reduceAdd]))
          | ((refine anyB_unf ?_; simp only [stepF_n, stepF_c, goR_n, goR_c, exR_n, exR_c, memB_n, memB_c, subB_n, subB_c, moveY_m, moveY_f, cond_t, cond_f, true_and, and_true, Bool.not_false, Bool.not_true, Bool.and_true, Bool.and_false, Bool.true_and, Bool.false_and, Bool.or_false, Bool.false_or, Bool.true_or, Bool.or_true, Nat.reduceBEq, Nat.reduceAdd]))
          | ((refine anyB_move (by simp only [Nat.reduceLT]) rfl (by simp only [go_sem]; exact rfl) ?_))
          | ((refine anyB_fa (by simp only [Nat.reduceLT]) rfl rfl rfl rfl (by decide) (by simp only [go_sem]; exact rfl) ?_))
          | ((refine hK.nil (anyB_id ?_); clear hK K))
          | ((refine lops_and ?_ ?_))
          | ((refine lops_go 0 ?_; refine fun (K : List Oper → LS → Prop) (hK : KOk S 0 _ _ _ K) => ?_; simp (disch := (refine Om.mk ?_; omega)) only [go_sem]))
          | ((refine anyB_end ?_; simp (disch := (refine Om.mk ?_; omega)) only [go_sem]; (refine covers_mk0 rfl rfl ?_ ?_ ?_ ?_ <;> simp (disch := (refine Om.mk ?_; omega)) only [go_sem] <;> (try omega)); done))
          | ((refine anyB_end ?_; simp (disch := (refine Om.mk ?_; omega)) only [go_sem]; (refine covers_mk0 rfl rfl ?_ ?_ ?_ ?_ <;> simp (disch := (refine Om.mk ?_; omega)) only [go_sem] <;> (try omega)); all_goals (simp; done)))
          | exact Bool.noConfusion h
          | refine sw_seq ?_
          | refine sw_block ?_
          | refine sw_skip ?_
          | refine sw_inBlock ?_
          | refine sw_go 0 kp26 fun K hK => ?_
          | refine sw_goT 0 kp26 12 (id := 5) (by kernel_rfl) fun K hK => ?_
          | refine fun (K : List Oper → LS → Prop) (hK : KOk S 0 _ _ _ K) => ?_
          | refine sw_goD kp26 (by kernel_rfl) fun K hK => ?_
          | ((first | refine runL_go ?_ | refine runQ_go ?_); simp (disch := (refine Om.mk ?_; omega)) only [go_sem])
          | (refine hK.nil ?_; clear hK K; simp only [go_sem])
          | (refine sw_cond rfl (fun h => ?_) (fun h => ?_) <;> (try simp (disch := (refine Om.mk ?_; omega)) only [go_sem] at h))
          | (refine sw_exit rfl ?_)
          | (refine sw_loopEnd ?_)
          | ((first | refine sw_ret (ret0 ?_) | refine sw_ret ?_); simp (disch := (refine Om.mk ?_; omega)) only [go_sem, Try.results26])
          | (refine hK.callB rfl rfl rfl (cT) ⟨⟨by simp only [Nat.reduceLT], (by first | (simp; all_goals fail) | (simp [LS.getBox, Lg.look]; all_goals fail)), by (simp [Lg.look]; all_goals fail), by (simp; all_goals fail), by (simp; all_goals fail)⟩, ⟨by (simp [D.ids, D.idsL]; all_goals fail), by (simp [D.ids, D.idsL]; all_goals fail), by (simp [D.tks, D.tksL]; all_goals fail), by (simp [D.tks, D.tksL]; all_goals fail), by (simp; all_goals fail)⟩, rfl⟩ ?_; simp (disch := (refine Om.mk ?_; omega)) only [go_sem])
          | (refine hK.callB rfl rfl rfl (cO) ⟨⟨by simp only [Nat.reduceLT], (by first | (simp; all_goals fail) | (simp [LS.getBox, Lg.look]; all_goals fail)), by (simp [Lg.look]; all_goals fail), by (simp; all_goals fail), by (simp; all_goals fail)⟩, ⟨by (simp [D.ids, D.idsL]; all_goals fail), by (simp [D.ids, D.idsL]; all_goals fail), by (simp [D.tks, D.tksL]; all_goals fail), by (simp [D.tks, D.tksL]; all_goals fail), by (simp; all_goals fail)⟩, rfl⟩ ?_; simp (disch := (refine Om.mk ?_; omega)) only [go_sem])
          | (refine hK.callB rfl rfl rfl (cM) ⟨⟨by simp only [Nat.reduceLT], (by first | (simp; all_goals fail) | (simp [LS.getBox, Lg.look]; all_goals fail)), by (simp [Lg.look]; all_goals fail), by (simp; all_goals fail), by (simp; all_goals fail)⟩, ⟨by (simp [D.ids, D.idsL]; all_goals fail), by (simp [D.ids, D.idsL]; all_goals fail), by (simp [D.tks, D.tksL]; all_goals fail), by (simp [D.tks, D.tksL]; all_goals fail), by (simp; all_goals fail)⟩, rfl⟩ ?_; simp (disch := (refine Om.mk ?_; omega)) only [go_sem])
          | (with_reducible refine And.intro (by first | omega | (simp only [List.length_append, List.length_take, List.length_drop, List.length_cons, List.length_nil, List.length_map]; omega)) ?_)
          | ((with_reducible refine And.intro ?_ ?_); · first | (intro x hx; subst hx; rfl) | exact upR_mem fun _ _ => rfl | exact mapR_mem fun _ _ => rfl | (intro x; refine And.intro ?_ ?_ <;> (intros; subst_vars; rfl)))
          | fail
        all_goals (rw [List.map_append]; rfl)
      · clear cD
        refine fc_body Try.func26 rfl (by kernel_rfl) (by simp [Try.f26]) fun B => ?_
        simp only [Try.ntmps26, enumD, List.map_nil, List.map_cons, List.length_map, Nat.zero_add, Nat.reduceAdd]
        repeat' first
          | ((exact absurd h15 (by assumption)))
          | ((exfalso; omega))
          | ((refine ⟨(by intro x hx; rcases List.mem_append.1 hx with hx | hx; (obtain ⟨y, _, rfl⟩ := List.mem_map.1 hx; rfl); (obtain rfl := List.mem_singleton.1 hx; rfl)), by omega, by omega, ?_⟩))
          | ((refine ⟨(by simp), by omega, by omega, ?_⟩))
          | ((refine ⟨by simp; done, by omega, by omega, ?_⟩))
          | ((refine hK.callB rfl rfl rfl (cA) ⟨⟨by simp only [Nat.reduceLT], (by simp), ?lk, (by simp), (by simp)⟩, ⟨by simp [D.ids, D.idsL, SystemD, idsL_intsZ, idsL_rules], by simp [D.ids, D.idsL, idsL_intsZ], by simp [D.tks, D.tksL, SystemD, tksL_ints, tksL_rules], by simp [D.tks, D.tksL, tksL_ints], by simp⟩, (by simp [LS.clean, D.puOk, D.pu, D.pu1, D.tks, D.tksL, tksL_ints, tksL_rules, puOk_rules, inTok])⟩ ?_; (case lk => (simp [Lg.look]; done)); simp (disch := (refine Om.mk ?_; omega)) only [go_sem]))
          | ((refine hK.callB rfl rfl rfl (cB) ⟨⟨by simp only [Nat.reduceLT], (by simp), ?lk, (by simp), (by simp)⟩, ⟨by simp [D.ids, D.idsL, SystemD, idsL_intsZ, idsL_rules], by simp [D.ids, D.idsL, idsL_intsZ], by simp [D.tks, D.tksL, SystemD, tksL_ints, tksL_rules], by simp [D.tks, D.tksL, tksL_ints], by simp⟩, (by simp [LS.clean, D.puOk, D.pu, D.pu1, D.tks, D.tksL, tksL_ints, tksL_rules, puOk_rules, inTok])⟩ ?_; (case lk => (simp [Lg.look]; done)); simp (disch := (refine Om.mk ?_; omega)) only [go_sem]))
          | ((refine sw_any (id := 5) kp26 [(true, []), (false, [0]), (true, []), (true, []), (false, [3]), (false, [2, 4]), (true, []), (true, []), (false, [7]), (false, [6, 8, 5]), (false, [5, 9]), (false, [10]), (false, [1, 11, 9]), (false, [0, 1, 2, 3, 4, 5, 6, 7, 8, 9, 10, 11, 12]), (false, [13, 12, 12, 0, 1, 2, 3, 4, 5, 6, 7, 8, 9, 10, 11, 12])] ⟨56, [(2, .box 2 0), (3, .box 3 0)], [(id + 1000, [.sl .any (bs.map (.int .u8)), .int .i64 (c6).i, .int .i64 (c6).h]), (2, [.sl .nil [], .sl .nil []]), (3, [.sl .any (rs.map (.int .i64)), .sl (.own 25000 35 2) (us.map RuleD ++ [RuleD ⟨l, r⟩])])], [], [25000], [id + 1000]⟩ (by kernel_rfl) ?_ ?_; simp only [List.length_cons, List.length_nil, Nat.reduceAdd]))
          | ((refine anyB_unf ?_; simp only [stepF_n, stepF_c, goR_n, goR_c, exR_n, exR_c, memB_n, memB_c, subB_n, subB_c, moveY_m, moveY_f, cond_t, cond_f, true_and, and_true, Bool.not_false, Bool.not_true, Bool.and_true, Bool.and_false, Bool.true_and, Bool.false_and, Bool.or_false, Bool.false_or, Bool.true_or, Bool.or_true, Nat.reduceBEq, Nat.reduceAdd]))
          | ((refine anyB_move (by simp only [Nat.reduceLT]) rfl (by simp only [go_sem]; exact rfl) ?_))
          | ((refine anyB_fa (by simp only [Nat.reduceLT]) rfl rfl rfl rfl (by decide) (by simp only [go_sem]; exact rfl) ?_))
          | ((refine hK.nil (anyB_id ?_); clear hK K))
          | ((refine lops_and ?_ ?_))
          | ((refine lops_go 0 ?_; refine fun (K : List Oper → LS → Prop) (hK : KOk S 0 _ _ _ K) => ?_; simp (disch := (refine Om.mk ?_; omega)) only [go_sem]))
          | ((refine anyB_end ?_; simp (disch := (refine Om.mk ?_; omega)) only [go_sem]; (refine covers_mk0 rfl rfl ?_ ?_ ?_ ?_ <;> simp (disch := (refine Om.mk ?_; omega)) only [go_sem] <;> (try omega)); done))
          | ((refine anyB_end ?_; simp (disch := (refine Om.mk ?_; omega)) only [go_sem]; (refine covers_mk0 rfl rfl ?_ ?_ ?_ ?_ <;> simp (disch := (refine Om.mk ?_; omega)) only [go_sem] <;> (try omega)); all_goals (simp; done)))
          | exact Bool.noConfusion h
          | refine sw_seq ?_
          | refine sw_block ?_
          | refine sw_skip ?_
          | refine sw_inBlock ?_
          | refine sw_go 0 kp26 fun K hK => ?_
          | refine sw_goT 0 kp26 12 (id := 5) (by kernel_rfl) fun K hK => ?_
          | refine fun (K : List Oper → LS → Prop) (hK : KOk S 0 _ _ _ K) => ?_
          | refine sw_goD kp26 (by kernel_rfl) fun K hK => ?_
          | ((first | refine runL_go ?_ | refine runQ_go ?_); simp (disch := (refine Om.mk ?_; omega)) only [go_sem])
          | (refine hK.nil ?_; clear hK K; simp only [go_sem])
          | (refine sw_cond rfl (fun h => ?_) (fun h => ?_) <;> (try simp (disch := (refine Om.mk ?_; omega)) only [go_sem] at h))
          | (refine sw_exit rfl ?_)
          | (refine sw_loopEnd ?_)
          | ((first | refine sw_ret (ret0 ?_) | refine sw_ret ?_); simp (disch := (refine Om.mk ?_; omega)) only [go_sem, Try.results26])
          | (refine hK.callB rfl rfl rfl (cT) ⟨⟨by simp only [Nat.reduceLT], (by first | (simp; all_goals fail) | (simp [LS.getBox, Lg.look]; all_goals fail)), by (simp [Lg.look]; all_goals fail), by (simp; all_goals fail), by (simp; all_goals fail)⟩, ⟨by (simp [D.ids, D.idsL]; all_goals fail), by (simp [D.ids, D.idsL]; all_goals fail), by (simp [D.tks, D.tksL]; all_goals fail), by (simp [D.tks, D.tksL]; all_goals fail), by (simp; all_goals fail)⟩, rfl⟩ ?_; simp (disch := (refine Om.mk ?_; omega)) only [go_sem])
          | (refine hK.callB rfl rfl rfl (cO) ⟨⟨by simp only [Nat.reduceLT], (by first | (simp; all_goals fail) | (simp [LS.getBox, Lg.look]; all_goals fail)), by (simp [Lg.look]; all_goals fail), by (simp; all_goals fail), by (simp; all_goals fail)⟩, ⟨by (simp [D.ids, D.idsL]; all_goals fail), by (simp [D.ids, D.idsL]; all_goals fail), by (simp [D.tks, D.tksL]; all_goals fail), by (simp [D.tks, D.tksL]; all_goals fail), by (simp; all_goals fail)⟩, rfl⟩ ?_; simp (disch := (refine Om.mk ?_; omega)) only [go_sem])
          | (refine hK.callB rfl rfl rfl (cM) ⟨⟨by simp only [Nat.reduceLT], (by first | (simp; all_goals fail) | (simp [LS.getBox, Lg.look]; all_goals fail)), by (simp [Lg.look]; all_goals fail), by (simp; all_goals fail), by (simp; all_goals fail)⟩, ⟨by (simp [D.ids, D.idsL]; all_goals fail), by (simp [D.ids, D.idsL]; all_goals fail), by (simp [D.tks, D.tksL]; all_goals fail), by (simp [D.tks, D.tksL]; all_goals fail), by (simp; all_goals fail)⟩, rfl⟩ ?_; simp (disch := (refine Om.mk ?_; omega)) only [go_sem])
          | (with_reducible refine And.intro (by first | omega | (simp only [List.length_append, List.length_take, List.length_drop, List.length_cons, List.length_nil, List.length_map]; omega)) ?_)
          | ((with_reducible refine And.intro ?_ ?_); · first | (intro x hx; subst hx; rfl) | exact upR_mem fun _ _ => rfl | exact mapR_mem fun _ _ => rfl | (intro x; refine And.intro ?_ ?_ <;> (intros; subst_vars; rfl)))
          | fail
        all_goals (rw [List.map_append]; rfl)
    · obtain ⟨rs', c5, cN⟩ := l1DrawSigAny_fc id bs hb c4
      refine ⟨⟨rs', us⟩, c5, ?_⟩
      refine fc_body Try.func26 rfl (by kernel_rfl) (by simp [Try.f26]) fun B => ?_
      simp only [Try.ntmps26, enumD, List.map_nil, List.map_cons, List.length_map, Nat.zero_add, Nat.reduceAdd]
      repeat' first
        | ((exact absurd h15 (by assumption)))
        | ((exfalso; omega))
        | ((refine hK.callB rfl rfl rfl (cD) ⟨⟨by simp only [Nat.reduceLT], (by simp), (by simp [Lg.look]), (by simp), (by simp)⟩, ⟨by simp [D.ids, D.idsL, SystemD, idsL_intsZ, idsL_rules], by simp [D.ids, D.idsL, idsL_intsZ], by simp [D.tks, D.tksL, SystemD, tksL_ints, tksL_rules], by simp [D.tks, D.tksL, tksL_ints], by simp⟩, (by simp [LS.clean, D.puOk, D.pu, D.pu1, D.tks, D.tksL, tksL_ints, tksL_rules, puOk_rules, inTok])⟩ ?_; simp (disch := (refine Om.mk ?_; omega)) only [go_sem]))
        | exact Bool.noConfusion h
        | refine sw_seq ?_
        | refine sw_block ?_
        | refine sw_skip ?_
        | refine sw_inBlock ?_
        | refine sw_go 0 kp26 fun K hK => ?_
        | refine sw_goT 0 kp26 12 (id := 5) (by kernel_rfl) fun K hK => ?_
        | refine fun (K : List Oper → LS → Prop) (hK : KOk S 0 _ _ _ K) => ?_
        | refine sw_goD kp26 (by kernel_rfl) fun K hK => ?_
        | ((first | refine runL_go ?_ | refine runQ_go ?_); simp (disch := (refine Om.mk ?_; omega)) only [go_sem])
        | (refine hK.nil ?_; clear hK K; simp only [go_sem])
        | (refine sw_cond rfl (fun h => ?_) (fun h => ?_) <;> (try simp (disch := (refine Om.mk ?_; omega)) only [go_sem] at h))
        | (refine sw_exit rfl ?_)
        | (refine sw_loopEnd ?_)
        | ((first | refine sw_ret (ret0 ?_) | refine sw_ret ?_); simp (disch := (refine Om.mk ?_; omega)) only [go_sem, Try.results26])
        | (refine hK.callB rfl rfl rfl (cO) ⟨⟨by simp only [Nat.reduceLT], (by first | (simp; all_goals fail) | (simp [LS.getBox, Lg.look]; all_goals fail)), by (simp [Lg.look]; all_goals fail), by (simp; all_goals fail), by (simp; all_goals fail)⟩, ⟨by (simp [D.ids, D.idsL]; all_goals fail), by (simp [D.ids, D.idsL]; all_goals fail), by (simp [D.tks, D.tksL]; all_goals fail), by (simp [D.tks, D.tksL]; all_goals fail), by (simp; all_goals fail)⟩, rfl⟩ ?_; simp (disch := (refine Om.mk ?_; omega)) only [go_sem])
        | (refine hK.callB rfl rfl rfl (cM) ⟨⟨by simp only [Nat.reduceLT], (by first | (simp; all_goals fail) | (simp [LS.getBox, Lg.look]; all_goals fail)), by (simp [Lg.look]; all_goals fail), by (simp; all_goals fail), by (simp; all_goals fail)⟩, ⟨by (simp [D.ids, D.idsL]; all_goals fail), by (simp [D.ids, D.idsL]; all_goals fail), by (simp [D.tks, D.tksL]; all_goals fail), by (simp [D.tks, D.tksL]; all_goals fail), by (simp; all_goals fail)⟩, rfl⟩ ?_; simp (disch := (refine Om.mk ?_; omega)) only [go_sem])
        | (refine hK.callB rfl rfl rfl (cN) ⟨⟨by simp only [Nat.reduceLT], (by first | (simp; all_goals fail) | (simp [LS.getBox, Lg.look]; all_goals fail)), by (simp [Lg.look]; all_goals fail), by (simp; all_goals fail), by (simp; all_goals fail)⟩, ⟨by (simp [D.ids, D.idsL]; all_goals fail), by (simp [D.ids, D.idsL]; all_goals fail), by (simp [D.tks, D.tksL]; all_goals fail), by (simp [D.tks, D.tksL]; all_goals fail), by (simp; all_goals fail)⟩, rfl⟩ ?_; simp (disch := (refine Om.mk ?_; omega)) only [go_sem])
        | (with_reducible refine And.intro (by first | omega | (simp only [List.length_append, List.length_take, List.length_drop, List.length_cons, List.length_nil, List.length_map]; omega)) ?_)
        | ((with_reducible refine And.intro ?_ ?_); · first | (intro x hx; subst hx; rfl) | exact upR_mem fun _ _ => rfl | exact mapR_mem fun _ _ => rfl | (intro x; refine And.intro ?_ ?_ <;> (intros; subst_vars; rfl)))
        | fail
      all_goals trace_state
    · refine ⟨⟨rs, fillR us (13 - us.length)⟩, c4, ?_⟩
      rcases hT with cT | cT
      · clear cD
        refine fc_body Try.func26 rfl (by kernel_rfl) (by simp [Try.f26]) fun B => ?_
        simp only [Try.ntmps26, enumD, List.map_nil, List.map_cons, List.length_map, Nat.zero_add, Nat.reduceAdd]
        repeat' first
          | ((exact absurd h15 (by assumption)))
          | ((exfalso; omega))
          | exact Bool.noConfusion h
          | refine sw_seq ?_
          | refine sw_block ?_
          | refine sw_skip ?_
          | refine sw_inBlock ?_
          | refine sw_go 0 kp26 fun K hK => ?_
          | refine sw_goT 0 kp26 12 (id := 5) (by kernel_rfl) fun K hK => ?_
          | refine fun (K : List Oper → LS → Prop) (hK : KOk S 0 _ _ _ K) => ?_
          | refine sw_goD kp26 (by kernel_rfl) fun K hK => ?_
          | ((first | refine runL_go ?_ | refine runQ_go ?_); simp (disch := (refine Om.mk ?_; omega)) only [go_sem])
          | (refine hK.nil ?_; clear hK K; simp only [go_sem])
          | (refine sw_cond rfl (fun h => ?_) (fun h => ?_) <;> (try simp (disch := (refine Om.mk ?_; omega)) only [go_sem] at h))
          | (refine sw_exit rfl ?_)
          | (refine sw_loopEnd ?_)
          | ((first | refine sw_ret (ret0 ?_) | refine sw_ret ?_); simp (disch := (refine Om.mk ?_; omega)) only [go_sem, Try.results26])
          | (refine hK.callB rfl rfl rfl (cT) ⟨⟨by simp only [Nat.reduceLT], (by first | (simp; all_goals fail) | (simp [LS.getBox, Lg.look]; all_goals fail)), by (simp [Lg.look]; all_goals fail), by (simp; all_goals fail), by (simp; all_goals fail)⟩, ⟨by (simp [D.ids, D.idsL]; all_goals fail), by (simp [D.ids, D.idsL]; all_goals fail), by (simp [D.tks, D.tksL]; all_goals fail), by (simp [D.tks, D.tksL]; all_goals fail), by (simp; all_goals fail)⟩, rfl⟩ ?_; simp (disch := (refine Om.mk ?_; omega)) only [go_sem])
          | (refine hK.callB rfl rfl rfl (cO) ⟨⟨by simp only [Nat.reduceLT], (by first | (simp; all_goals fail) | (simp [LS.getBox, Lg.look]; all_goals fail)), by (simp [Lg.look]; all_goals fail), by (simp; all_goals fail), by (simp; all_goals fail)⟩, ⟨by (simp [D.ids, D.idsL]; all_goals fail), by (simp [D.ids, D.idsL]; all_goals fail), by (simp [D.tks, D.tksL]; all_goals fail), by (simp [D.tks, D.tksL]; all_goals fail), by (simp; all_goals fail)⟩, rfl⟩ ?_; simp (disch := (refine Om.mk ?_; omega)) only [go_sem])
          | (refine hK.callB rfl rfl rfl (cM) ⟨⟨by simp only [Nat.reduceLT], (by first | (simp; all_goals fail) | (simp [LS.getBox, Lg.look]; all_goals fail)), by (simp [Lg.look]; all_goals fail), by (simp; all_goals fail), by (simp; all_goals fail)⟩, ⟨by (simp [D.ids, D.idsL]; all_goals fail), by (simp [D.ids, D.idsL]; all_goals fail), by (simp [D.tks, D.tksL]; all_goals fail), by (simp [D.tks, D.tksL]; all_goals fail), by (simp; all_goals fail)⟩, rfl⟩ ?_; simp (disch := (refine Om.mk ?_; omega)) only [go_sem])
          | (with_reducible refine And.intro (by first | omega | (simp only [List.length_append, List.length_take, List.length_drop, List.length_cons, List.length_nil, List.length_map]; omega)) ?_)
          | ((with_reducible refine And.intro ?_ ?_); · first | (intro x hx; subst hx; rfl) | exact upR_mem fun _ _ => rfl | exact mapR_mem fun _ _ => rfl | (intro x; refine And.intro ?_ ?_ <;> (intros; subst_vars; rfl)))
          | fail
        refine sw_weak (L' := ⟨56, [(2, .box 2 0), (3, .box 3 0)], [(id + 1000, [.sl .any (bs.map (.int .u8)), .int .i64 (c4).i, .int .i64 (c4).h]), (2, [.sl .nil [], .sl .nil []]), (3, [.sl .any (rs.map (.int .i64)), .sl .full (us.map RuleD)])], [], [], [id + 1000]⟩) (by (refine covers_mk0 rfl rfl ?_ ?_ ?_ ?_ <;> simp (disch := (refine Om.mk ?_; omega)) only [go_sem] <;> (try omega)); all_goals first | rfl | exact ⟨rfl, rfl⟩ | trace_state) ?_
        refine sw_loopT (ι := Nat) (fun i => []) (fun i => [(3, [.sl .any (rs.map (.int .i64)), .sl (match i with | 0 => .full | _ + 1 => .own 44000 35 2) ((fillR us i).map RuleD)])]) (fun i => match i with | 0 => [] | _ + 1 => [44000]) (fun i => i ≤ 13 - us.length) (fun i => 13 - us.length - i) 0 (by rw [fillR_z]; (refine covers_mk0 rfl rfl ?_ ?_ ?_ ?_ <;> simp (disch := (refine Om.mk ?_; omega)) only [go_sem] <;> (try omega)); all_goals first | rfl | exact ⟨rfl, rfl⟩ | trace_state) (by omega) (fun i hi => ?_)
        simp only [go_sem]
        have hs1 := fillR_s us i
        have hlen := fillR_len us i
        rcases i with _ | i
        · skip
          repeat' first
            | ((exfalso; omega))
            | ((refine ⟨(by intro x hx; rcases List.mem_append.1 hx with hx | hx; (obtain ⟨y, _, rfl⟩ := List.mem_map.1 hx; rfl); (obtain rfl := List.mem_singleton.1 hx; rfl)), by omega, by omega, ?_⟩))
            | ((refine ⟨(by simp), by omega, by omega, ?_⟩))
            | ((refine ⟨by simp; done, by omega, by omega, ?_⟩))
            | exact Bool.noConfusion h
            | refine sw_seq ?_
            | refine sw_block ?_
            | refine sw_skip ?_
            | refine sw_inBlock ?_
            | refine sw_go 0 kp26 fun K hK => ?_
            | refine sw_goT 0 kp26 12 (id := 5) (by kernel_rfl) fun K hK => ?_
            | refine fun (K : List Oper → LS → Prop) (hK : KOk S 0 _ _ _ K) => ?_
            | refine sw_goD kp26 (by kernel_rfl) fun K hK => ?_
            | ((first | refine runL_go ?_ | refine runQ_go ?_); simp (disch := (refine Om.mk ?_; omega)) only [go_sem])
            | (refine hK.nil ?_; clear hK K; simp only [go_sem])
            | (refine sw_cond rfl (fun h => ?_) (fun h => ?_) <;> (try simp (disch := (refine Om.mk ?_; omega)) only [go_sem] at h))
            | (refine sw_exit rfl ?_)
            | (refine sw_loopEnd ?_)
            | ((first | refine sw_ret (ret0 ?_) | refine sw_ret ?_); simp (disch := (refine Om.mk ?_; omega)) only [go_sem, Try.results26])
            | (with_reducible refine And.intro (by first | omega | (simp only [List.length_append, List.length_take, List.length_drop, List.length_cons, List.length_nil, List.length_map]; omega)) ?_)
            | ((with_reducible refine And.intro ?_ ?_); · first | (intro x hx; subst hx; rfl) | exact upR_mem fun _ _ => rfl | exact mapR_mem fun _ _ => rfl | (intro x; refine And.intro ?_ ?_ <;> (intros; subst_vars; rfl)))
            | fail
          · refine ⟨0 + 1, ?_, by omega, by omega⟩
            rw [hs1, List.map_append]
            exact (by (refine covers_mk0 rfl rfl ?_ ?_ ?_ ?_ <;> simp (disch := (refine Om.mk ?_; omega)) only [go_sem] <;> (try omega)); all_goals first | rfl | exact ⟨rfl, rfl⟩ | exact ⟨by omega, rfl⟩ | trace_state)

        · skip
          repeat' first
            | ((exfalso; omega))
            | ((refine ⟨(by intro x hx; rcases List.mem_append.1 hx with hx | hx; (obtain ⟨y, _, rfl⟩ := List.mem_map.1 hx; rfl); (obtain rfl := List.mem_singleton.1 hx; rfl)), by omega, by omega, ?_⟩))
            | ((refine ⟨(by simp), by omega, by omega, ?_⟩))
            | ((refine ⟨by simp; done, by omega, by omega, ?_⟩))
            | exact Bool.noConfusion h
            | refine sw_seq ?_
            | refine sw_block ?_
            | refine sw_skip ?_
            | refine sw_inBlock ?_
            | refine sw_go 0 kp26 fun K hK => ?_
            | refine sw_goT 0 kp26 12 (id := 5) (by kernel_rfl) fun K hK => ?_
            | refine fun (K : List Oper → LS → Prop) (hK : KOk S 0 _ _ _ K) => ?_
            | refine sw_goD kp26 (by kernel_rfl) fun K hK => ?_
            | ((first | refine runL_go ?_ | refine runQ_go ?_); simp (disch := (refine Om.mk ?_; omega)) only [go_sem])
            | (refine hK.nil ?_; clear hK K; simp only [go_sem])
            | (refine sw_cond rfl (fun h => ?_) (fun h => ?_) <;> (try simp (disch := (refine Om.mk ?_; omega)) only [go_sem] at h))
            | (refine sw_exit rfl ?_)
            | (refine sw_loopEnd ?_)
            | ((first | refine sw_ret (ret0 ?_) | refine sw_ret ?_); simp (disch := (refine Om.mk ?_; omega)) only [go_sem, Try.results26])
            | (with_reducible refine And.intro (by first | omega | (simp only [List.length_append, List.length_take, List.length_drop, List.length_cons, List.length_nil, List.length_map]; omega)) ?_)
            | ((with_reducible refine And.intro ?_ ?_); · first | (intro x hx; subst hx; rfl) | exact upR_mem fun _ _ => rfl | exact mapR_mem fun _ _ => rfl | (intro x; refine And.intro ?_ ?_ <;> (intros; subst_vars; rfl)))
            | fail
          · refine ⟨i + 1 + 1, ?_, by omega, by omega⟩
            rw [hs1, List.map_append]
            exact (by (refine covers_mk0 rfl rfl ?_ ?_ ?_ ?_ <;> simp (disch := (refine Om.mk ?_; omega)) only [go_sem] <;> (try omega)); all_goals first | rfl | exact ⟨rfl, rfl⟩ | exact ⟨by omega, rfl⟩ | trace_state)
          · first | (rw [show i + 1 = 13 - us.length by omega]; done) | (rw [show i + 1 = 13 - us.length by omega]) | trace_state
      · clear cD
        refine fc_body Try.func26 rfl (by kernel_rfl) (by simp [Try.f26]) fun B => ?_
        simp only [Try.ntmps26, enumD, List.map_nil, List.map_cons, List.length_map, Nat.zero_add, Nat.reduceAdd]
        repeat' first
          | ((exact absurd h15 (by assumption)))
          | ((exfalso; omega))
          | exact Bool.noConfusion h
          | refine sw_seq ?_
          | refine sw_block ?_
          | refine sw_skip ?_
          | refine sw_inBlock ?_
          | refine sw_go 0 kp26 fun K hK => ?_
          | refine sw_goT 0 kp26 12 (id := 5) (by kernel_rfl) fun K hK => ?_
          | refine fun (K : List Oper → LS → Prop) (hK : KOk S 0 _ _ _ K) => ?_
          | refine sw_goD kp26 (by kernel_rfl) fun K hK => ?_
          | ((first | refine runL_go ?_ | refine runQ_go ?_); simp (disch := (refine Om.mk ?_; omega)) only [go_sem])
          | (refine hK.nil ?_; clear hK K; simp only [go_sem])
          | (refine sw_cond rfl (fun h => ?_) (fun h => ?_) <;> (try simp (disch := (refine Om.mk ?_; omega)) only [go_sem] at h))
          | (refine sw_exit rfl ?_)
          | (refine sw_loopEnd ?_)
          | ((first | refine sw_ret (ret0 ?_) | refine sw_ret ?_); simp (disch := (refine Om.mk ?_; omega)) only [go_sem, Try.results26])
          | (refine hK.callB rfl rfl rfl (cT) ⟨⟨by simp only [Nat.reduceLT], (by first | (simp; all_goals fail) | (simp [LS.getBox, Lg.look]; all_goals fail)), by (simp [Lg.look]; all_goals fail), by (simp; all_goals fail), by (simp; all_goals fail)⟩, ⟨by (simp [D.ids, D.idsL]; all_goals fail), by (simp [D.ids, D.idsL]; all_goals fail), by (simp [D.tks, D.tksL]; all_goals fail), by (simp [D.tks, D.tksL]; all_goals fail), by (simp; all_goals fail)⟩, rfl⟩ ?_; simp (disch := (refine Om.mk ?_; omega)) only [go_sem])
          | (refine hK.callB rfl rfl rfl (cO) ⟨⟨by simp only [Nat.reduceLT], (by first | (simp; all_goals fail) | (simp [LS.getBox, Lg.look]; all_goals fail)), by (simp [Lg.look]; all_goals fail), by (simp; all_goals fail), by (simp; all_goals fail)⟩, ⟨by (simp [D.ids, D.idsL]; all_goals fail), by (simp [D.ids, D.idsL]; all_goals fail), by (simp [D.tks, D.tksL]; all_goals fail), by (simp [D.tks, D.tksL]; all_goals fail), by (simp; all_goals fail)⟩, rfl⟩ ?_; simp (disch := (refine Om.mk ?_; omega)) only [go_sem])
          | (refine hK.callB rfl rfl rfl (cM) ⟨⟨by simp only [Nat.reduceLT], (by first | (simp; all_goals fail) | (simp [LS.getBox, Lg.look]; all_goals fail)), by (simp [Lg.look]; all_goals fail), by (simp; all_goals fail), by (simp; all_goals fail)⟩, ⟨by (simp [D.ids, D.idsL]; all_goals fail), by (simp [D.ids, D.idsL]; all_goals fail), by (simp [D.tks, D.tksL]; all_goals fail), by (simp [D.tks, D.tksL]; all_goals fail), by (simp; all_goals fail)⟩, rfl⟩ ?_; simp (disch := (refine Om.mk ?_; omega)) only [go_sem])
          | (with_reducible refine And.intro (by first | omega | (simp only [List.length_append, List.length_take, List.length_drop, List.length_cons, List.length_nil, List.length_map]; omega)) ?_)
          | ((with_reducible refine And.intro ?_ ?_); · first | (intro x hx; subst hx; rfl) | exact upR_mem fun _ _ => rfl | exact mapR_mem fun _ _ => rfl | (intro x; refine And.intro ?_ ?_ <;> (intros; subst_vars; rfl)))
          | fail
        refine sw_renC 6000 44000 rfl rfl ?_
        simp only [go_sem]
        refine sw_weak (L' := ⟨56, [(2, .box 2 0), (3, .box 3 0)], [(id + 1000, [.sl .any (bs.map (.int .u8)), .int .i64 (c4).i, .int .i64 (c4).h]), (2, [.sl .nil [], .sl .nil []]), (3, [.sl .any (rs.map (.int .i64)), .sl (.own 44000 35 2) (us.map RuleD)])], [], [44000], [id + 1000]⟩) (by (refine covers_mk0 rfl rfl ?_ ?_ ?_ ?_ <;> simp (disch := (refine Om.mk ?_; omega)) only [go_sem] <;> (try omega)); all_goals first | rfl | exact ⟨rfl, rfl⟩ | trace_state) ?_
        refine sw_loopT (ι := Nat) (fun i => []) (fun i => [(3, [.sl .any (rs.map (.int .i64)), .sl (.own 44000 35 2) ((fillR us i).map RuleD)])]) (fun _ => [44000]) (fun i => i ≤ 13 - us.length) (fun i => 13 - us.length - i) 0 (by rw [fillR_z]; (refine covers_mk0 rfl rfl ?_ ?_ ?_ ?_ <;> simp (disch := (refine Om.mk ?_; omega)) only [go_sem] <;> (try omega)); all_goals first | rfl | exact ⟨rfl, rfl⟩ | trace_state) (by omega) (fun i hi => ?_)
        simp only [go_sem]
        have hs1 := fillR_s us i
        have hlen := fillR_len us i
        repeat' first
          | ((exfalso; omega))
          | ((refine ⟨(by intro x hx; rcases List.mem_append.1 hx with hx | hx; (obtain ⟨y, _, rfl⟩ := List.mem_map.1 hx; rfl); (obtain rfl := List.mem_singleton.1 hx; rfl)), by omega, by omega, ?_⟩))
          | ((refine ⟨(by simp), by omega, by omega, ?_⟩))
          | ((refine ⟨by simp; done, by omega, by omega, ?_⟩))
          | exact Bool.noConfusion h
          | refine sw_seq ?_
          | refine sw_block ?_
          | refine sw_skip ?_
          | refine sw_inBlock ?_
          | refine sw_go 0 kp26 fun K hK => ?_
          | refine sw_goT 0 kp26 12 (id := 5) (by kernel_rfl) fun K hK => ?_
          | refine fun (K : List Oper → LS → Prop) (hK : KOk S 0 _ _ _ K) => ?_
          | refine sw_goD kp26 (by kernel_rfl) fun K hK => ?_
          | ((first | refine runL_go ?_ | refine runQ_go ?_); simp (disch := (refine Om.mk ?_; omega)) only [go_sem])
          | (refine hK.nil ?_; clear hK K; simp only [go_sem])
          | (refine sw_cond rfl (fun h => ?_) (fun h => ?_) <;> (try simp (disch := (refine Om.mk ?_; omega)) only [go_sem] at h))
          | (refine sw_exit rfl ?_)
          | (refine sw_loopEnd ?_)
          | ((first | refine sw_ret (ret0 ?_) | refine sw_ret ?_); simp (disch := (refine Om.mk ?_; omega)) only [go_sem, Try.results26])
          | (with_reducible refine And.intro (by first | omega | (simp only [List.length_append, List.length_take, List.length_drop, List.length_cons, List.length_nil, List.length_map]; omega)) ?_)
          | ((with_reducible refine And.intro ?_ ?_); · first | (intro x hx; subst hx; rfl) | exact upR_mem fun _ _ => rfl | exact mapR_mem fun _ _ => rfl | (intro x; refine And.intro ?_ ?_ <;> (intros; subst_vars; rfl)))
          | fail
        · refine ⟨i + 1, ?_, by omega, by omega⟩
          rw [hs1, List.map_append]
          exact (by (refine covers_mk0 rfl rfl ?_ ?_ ?_ ?_ <;> simp (disch := (refine Om.mk ?_; omega)) only [go_sem] <;> (try omega)); all_goals first | rfl | exact ⟨rfl, rfl⟩ | exact ⟨by omega, rfl⟩ | trace_state)
        · first | (rw [show i = 13 - us.length by omega]; done) | (rw [show i = 13 - us.length by omega]) | trace_state
    · refine ⟨⟨rs, us ++ [⟨[-1], [-1]⟩]⟩, c4, ?_⟩
      rcases hT with cT | cT
      · clear cD
        refine fc_body Try.func26 rfl (by kernel_rfl) (by simp [Try.f26]) fun B => ?_
        simp only [Try.ntmps26, enumD, List.map_nil, List.map_cons, List.length_map, Nat.zero_add, Nat.reduceAdd]
        repeat' first
          | ((exact absurd h15 (by assumption)))
          | ((exfalso; omega))
          | ((refine ⟨(by intro x hx; rcases List.mem_append.1 hx with hx | hx; (obtain ⟨y, _, rfl⟩ := List.mem_map.1 hx; rfl); (obtain rfl := List.mem_singleton.1 hx; rfl)), by omega, by omega, ?_⟩))
          | ((refine ⟨(by simp), by omega, by omega, ?_⟩))
          | ((refine ⟨by simp; done, by omega, by omega, ?_⟩))
          | exact Bool.noConfusion h
          | refine sw_seq ?_
          | refine sw_block ?_
          | refine sw_skip ?_
          | refine sw_inBlock ?_
          | refine sw_go 0 kp26 fun K hK => ?_
          | refine sw_goT 0 kp26 12 (id := 5) (by kernel_rfl) fun K hK => ?_
          | refine fun (K : List Oper → LS → Prop) (hK : KOk S 0 _ _ _ K) => ?_
          | refine sw_goD kp26 (by kernel_rfl) fun K hK => ?_
          | ((first | refine runL_go ?_ | refine runQ_go ?_); simp (disch := (refine Om.mk ?_; omega)) only [go_sem])
          | (refine hK.nil ?_; clear hK K; simp only [go_sem])
          | (refine sw_cond rfl (fun h => ?_) (fun h => ?_) <;> (try simp (disch := (refine Om.mk ?_; omega)) only [go_sem] at h))
          | (refine sw_exit rfl ?_)
          | (refine sw_loopEnd ?_)
          | ((first | refine sw_ret (ret0 ?_) | refine sw_ret ?_); simp (disch := (refine Om.mk ?_; omega)) only [go_sem, Try.results26])
          | (refine hK.callB rfl rfl rfl (cT) ⟨⟨by simp only [Nat.reduceLT], (by first | (simp; all_goals fail) | (simp [LS.getBox, Lg.look]; all_goals fail)), by (simp [Lg.look]; all_goals fail), by (simp; all_goals fail), by (simp; all_goals fail)⟩, ⟨by (simp [D.ids, D.idsL]; all_goals fail), by (simp [D.ids, D.idsL]; all_goals fail), by (simp [D.tks, D.tksL]; all_goals fail), by (simp [D.tks, D.tksL]; all_goals fail), by (simp; all_goals fail)⟩, rfl⟩ ?_; simp (disch := (refine Om.mk ?_; omega)) only [go_sem])
          | (refine hK.callB rfl rfl rfl (cO) ⟨⟨by simp only [Nat.reduceLT], (by first | (simp; all_goals fail) | (simp [LS.getBox, Lg.look]; all_goals fail)), by (simp [Lg.look]; all_goals fail), by (simp; all_goals fail), by (simp; all_goals fail)⟩, ⟨by (simp [D.ids, D.idsL]; all_goals fail), by (simp [D.ids, D.idsL]; all_goals fail), by (simp [D.tks, D.tksL]; all_goals fail), by (simp [D.tks, D.tksL]; all_goals fail), by (simp; all_goals fail)⟩, rfl⟩ ?_; simp (disch := (refine Om.mk ?_; omega)) only [go_sem])
          | (refine hK.callB rfl rfl rfl (cM) ⟨⟨by simp only [Nat.reduceLT], (by first | (simp; all_goals fail) | (simp [LS.getBox, Lg.look]; all_goals fail)), by (simp [Lg.look]; all_goals fail), by (simp; all_goals fail), by (simp; all_goals fail)⟩, ⟨by (simp [D.ids, D.idsL]; all_goals fail), by (simp [D.ids, D.idsL]; all_goals fail), by (simp [D.tks, D.tksL]; all_goals fail), by (simp [D.tks, D.tksL]; all_goals fail), by (simp; all_goals fail)⟩, rfl⟩ ?_; simp (disch := (refine Om.mk ?_; omega)) only [go_sem])
          | (with_reducible refine And.intro (by first | omega | (simp only [List.length_append, List.length_take, List.length_drop, List.length_cons, List.length_nil, List.length_map]; omega)) ?_)
          | ((with_reducible refine And.intro ?_ ?_); · first | (intro x hx; subst hx; rfl) | exact upR_mem fun _ _ => rfl | exact mapR_mem fun _ _ => rfl | (intro x; refine And.intro ?_ ?_ <;> (intros; subst_vars; rfl)))
          | fail
        all_goals (rw [List.map_append]; rfl)
      · clear cD
        refine fc_body Try.func26 rfl (by kernel_rfl) (by simp [Try.f26]) fun B => ?_
        simp only [Try.ntmps26, enumD, List.map_nil, List.map_cons, List.length_map, Nat.zero_add, Nat.reduceAdd]
        repeat' first
          | ((exact absurd h15 (by assumption)))
          | ((exfalso; omega))
          | ((refine ⟨(by intro x hx; rcases List.mem_append.1 hx with hx | hx; (obtain ⟨y, _, rfl⟩ := List.mem_map.1 hx; rfl); (obtain rfl := List.mem_singleton.1 hx; rfl)), by omega, by omega, ?_⟩))
          | ((refine ⟨(by simp), by omega, by omega, ?_⟩))
          | ((refine ⟨by simp; done, by omega, by omega, ?_⟩))
          | exact Bool.noConfusion h
          | refine sw_seq ?_
          | refine sw_block ?_
          | refine sw_skip ?_
          | refine sw_inBlock ?_
          | refine sw_go 0 kp26 fun K hK => ?_
          | refine sw_goT 0 kp26 12 (id := 5) (by kernel_rfl) fun K hK => ?_
          | refine fun (K : List Oper → LS → Prop) (hK : KOk S 0 _ _ _ K) => ?_
          | refine sw_goD kp26 (by kernel_rfl) fun K hK => ?_
          | ((first | refine runL_go ?_ | refine runQ_go ?_); simp (disch := (refine Om.mk ?_; omega)) only [go_sem])
          | (refine hK.nil ?_; clear hK K; simp only [go_sem])
          | (refine sw_cond rfl (fun h => ?_) (fun h => ?_) <;> (try simp (disch := (refine Om.mk ?_; omega)) only [go_sem] at h))
          | (refine sw_exit rfl ?_)
          | (refine sw_loopEnd ?_)
          | ((first | refine sw_ret (ret0 ?_) | refine sw_ret ?_); simp (disch := (refine Om.mk ?_; omega)) only [go_sem, Try.results26])
          | (refine hK.callB rfl rfl rfl (cT) ⟨⟨by simp only [Nat.reduceLT], (by first | (simp; all_goals fail) | (simp [LS.getBox, Lg.look]; all_goals fail)), by (simp [Lg.look]; all_goals fail), by (simp; all_goals fail), by (simp; all_goals fail)⟩, ⟨by (simp [D.ids, D.idsL]; all_goals fail), by (simp [D.ids, D.idsL]; all_goals fail), by (simp [D.tks, D.tksL]; all_goals fail), by (simp [D.tks, D.tksL]; all_goals fail), by (simp; all_goals fail)⟩, rfl⟩ ?_; simp (disch := (refine Om.mk ?_; omega)) only [go_sem])
          | (refine hK.callB rfl rfl rfl (cO) ⟨⟨by simp only [Nat.reduceLT], (by first | (simp; all_goals fail) | (simp [LS.getBox, Lg.look]; all_goals fail)), by (simp [Lg.look]; all_goals fail), by (simp; all_goals fail), by (simp; all_goals fail)⟩, ⟨by (simp [D.ids, D.idsL]; all_goals fail), by (simp [D.ids, D.idsL]; all_goals fail), by (simp [D.tks, D.tksL]; all_goals fail), by (simp [D.tks, D.tksL]; all_goals fail), by (simp; all_goals fail)⟩, rfl⟩ ?_; simp (disch := (refine Om.mk ?_; omega)) only [go_sem])
          | (refine hK.callB rfl rfl rfl (cM) ⟨⟨by simp only [Nat.reduceLT], (by first | (simp; all_goals fail) | (simp [LS.getBox, Lg.look]; all_goals fail)), by (simp [Lg.look]; all_goals fail), by (simp; all_goals fail), by (simp; all_goals fail)⟩, ⟨by (simp [D.ids, D.idsL]; all_goals fail), by (simp [D.ids, D.idsL]; all_goals fail), by (simp [D.tks, D.tksL]; all_goals fail), by (simp [D.tks, D.tksL]; all_goals fail), by (simp; all_goals fail)⟩, rfl⟩ ?_; simp (disch := (refine Om.mk ?_; omega)) only [go_sem])
          | (with_reducible refine And.intro (by first | omega | (simp only [List.length_append, List.length_take, List.length_drop, List.length_cons, List.length_nil, List.length_map]; omega)) ?_)
          | ((with_reducible refine And.intro ?_ ?_); · first | (intro x hx; subst hx; rfl) | exact upR_mem fun _ _ => rfl | exact mapR_mem fun _ _ => rfl | (intro x; refine And.intro ?_ ?_ <;> (intros; subst_vars; rfl)))
          | fail
        all_goals (rw [List.map_append]; rfl)
  · refine ⟨⟨rs, us⟩, belowC bs c1 15, ?_⟩
    refine fc_body Try.func26 rfl (by kernel_rfl) (by simp [Try.f26]) fun B => ?_
    simp only [Try.ntmps26, enumD, List.map_nil, List.map_cons, List.length_map, Nat.zero_add, Nat.reduceAdd]
    repeat' first
      | ((exact absurd (by assumption) h15))
      | ((exfalso; omega))
      | ((refine hK.callB rfl rfl rfl (cD) ⟨⟨by simp only [Nat.reduceLT], (by simp), (by simp [Lg.look]), (by simp), (by simp)⟩, ⟨by simp [D.ids, D.idsL, SystemD, idsL_intsZ, idsL_rules], by simp [D.ids, D.idsL, idsL_intsZ], by simp [D.tks, D.tksL, SystemD, tksL_ints, tksL_rules], by simp [D.tks, D.tksL, tksL_ints], by simp⟩, (by simp [LS.clean, D.puOk, D.pu, D.pu1, D.tks, D.tksL, tksL_ints, tksL_rules, puOk_rules, inTok])⟩ ?_; simp (disch := (refine Om.mk ?_; omega)) only [go_sem]))
      | exact Bool.noConfusion h
      | refine sw_seq ?_
      | refine sw_block ?_
      | refine sw_skip ?_
      | refine sw_inBlock ?_
      | refine sw_go 0 kp26 fun K hK => ?_
      | refine sw_goT 0 kp26 12 (id := 5) (by kernel_rfl) fun K hK => ?_
      | refine fun (K : List Oper → LS → Prop) (hK : KOk S 0 _ _ _ K) => ?_
      | refine sw_goD kp26 (by kernel_rfl) fun K hK => ?_
      | ((first | refine runL_go ?_ | refine runQ_go ?_); simp (disch := (refine Om.mk ?_; omega)) only [go_sem])
      | (refine hK.nil ?_; clear hK K; simp only [go_sem])
      | (refine sw_cond rfl (fun h => ?_) (fun h => ?_) <;> (try simp (disch := (refine Om.mk ?_; omega)) only [go_sem] at h))
      | (refine sw_exit rfl ?_)
      | (refine sw_loopEnd ?_)
      | ((first | refine sw_ret (ret0 ?_) | refine sw_ret ?_); simp (disch := (refine Om.mk ?_; omega)) only [go_sem, Try.results26])
      | (refine hK.callB rfl rfl rfl (cO) ⟨⟨by simp only [Nat.reduceLT], (by first | (simp; all_goals fail) | (simp [LS.getBox, Lg.look]; all_goals fail)), by (simp [Lg.look]; all_goals fail), by (simp; all_goals fail), by (simp; all_goals fail)⟩, ⟨by (simp [D.ids, D.idsL]; all_goals fail), by (simp [D.ids, D.idsL]; all_goals fail), by (simp [D.tks, D.tksL]; all_goals fail), by (simp [D.tks, D.tksL]; all_goals fail), by (simp; all_goals fail)⟩, rfl⟩ ?_; simp (disch := (refine Om.mk ?_; omega)) only [go_sem])
      | (with_reducible refine And.intro (by first | omega | (simp only [List.length_append, List.length_take, List.length_drop, List.length_cons, List.length_nil, List.length_map]; omega)) ?_)
      | ((with_reducible refine And.intro ?_ ?_); · first | (intro x hx; subst hx; rfl) | exact upR_mem fun _ _ => rfl | exact mapR_mem fun _ _ => rfl | (intro x; refine And.intro ?_ ?_ <;> (intros; subst_vars; rfl)))
      | fail
    all_goals trace_state
end Go.Proofs.Ytfokjjlbdaabaaa
end
section
namespace Go.Proofs.Ytfokjjlbdaabaaa
open Go Go.Lg
set_option linter.unusedSimpArgs false
set_option linter.unusedVariables false
set_option maxHeartbeats 4000000
attribute [local irreducible] SW runL runQ runG runQG FC Ret1 toF redoL anyB
attribute [local irreducible] newC
def kp6 : List (Nat × List Nat) := [(0, [0, 2]), (1, [2, 3]), (2, [2])]
attribute [go_sem] kp6
theorem drawDefinedIn_fc (bs : List Int) (hb : BytesP bs) (hl : bs.length ≤ 4096) : ∃ x : SystemT, FC S 6 [] [] [] [.sl .any (bs.map (.int .u8))] (SystemD x) [] [] := by
  have cN := l1New_fc bs hb hl
  generalize newC bs = c0 at *
  obtain ⟨x, c1, cD⟩ := l6DrawAny_fc bs hb 15 c0
  refine ⟨x, ?_⟩
  refine fc_body Try.func6 rfl (by kernel_rfl) (by simp [Try.f6]) fun B => ?_
  simp only [Try.ntmps6, enumD, List.map_nil, List.map_cons, List.length_map, Nat.zero_add, Nat.reduceAdd]
  repeat' first
    | ((refine sw_goAt (id := 1) 0 kp6 1 rfl fun K hK => ?_))
    | exact Bool.noConfusion h
    | refine sw_seq ?_
    | refine sw_block ?_
    | refine sw_skip ?_
    | refine sw_inBlock ?_
    | refine sw_go 0 kp6 fun K hK => ?_
    | refine fun (K : List Oper → LS → Prop) (hK : KOk S 0 _ _ _ K) => ?_
    | ((first | refine runL_go ?_ | refine runQ_go ?_); simp (disch := (refine Om.mk ?_; omega)) only [go_sem])
    | (refine hK.nil ?_; clear hK K; simp only [go_sem])
    | (refine sw_cond rfl (fun h => ?_) (fun h => ?_) <;> (try simp (disch := (refine Om.mk ?_; omega)) only [go_sem] at h))
    | (refine sw_exit rfl ?_)
    | (refine sw_loopEnd ?_)
    | ((first | refine sw_ret (ret0 ?_) | refine sw_ret ?_); simp (disch := (refine Om.mk ?_; omega)) only [go_sem, Try.results6])
    | (with_reducible refine And.intro (by first | omega | (simp only [List.length_append, List.length_take, List.length_drop, List.length_cons, List.length_nil, List.length_map]; omega)) ?_)
    | ((with_reducible refine And.intro ?_ ?_); · first | (intro x hx; subst hx; rfl) | exact upR_mem fun _ _ => rfl | exact mapR_mem fun _ _ => rfl | (intro x; refine And.intro ?_ ?_ <;> (intros; subst_vars; rfl)))
    | fail
  refine LopsW.callP rfl 1015 rfl rfl cN ⟨⟨by simp only [Nat.reduceLT], by simp, by simp [Lg.look]⟩, by simp [D.memOk]⟩ ?_
  simp only [go_sem]
  refine LopsW.nil ?_
  refine fun (K : List Oper → LS → Prop) (hK : KOk S 0 _ _ _ K) => ?_
  simp only [go_sem]
  repeat' first
    | ((refine hK.callB rfl rfl rfl (cD) ⟨⟨by simp only [Nat.reduceLT], (by simp), (by simp [Lg.look]), (by simp), (by simp)⟩, ⟨by simp [D.ids, D.idsL, SystemD, idsL_intsZ, idsL_rules], by simp [D.ids, D.idsL, idsL_intsZ], by simp [D.tks, D.tksL, SystemD, tksL_ints, tksL_rules], by simp [D.tks, D.tksL, tksL_ints], by simp⟩, (by simp [LS.clean, D.puOk, D.pu, D.pu1, D.tks, D.tksL, tksL_ints, tksL_rules, puOk_rules, inTok])⟩ ?_; simp (disch := (refine Om.mk ?_; omega)) only [go_sem]))
    | exact Bool.noConfusion h
    | refine sw_seq ?_
    | refine sw_block ?_
    | refine sw_skip ?_
    | refine sw_inBlock ?_
    | refine sw_go 0 kp6 fun K hK => ?_
    | refine fun (K : List Oper → LS → Prop) (hK : KOk S 0 _ _ _ K) => ?_
    | ((first | refine runL_go ?_ | refine runQ_go ?_); simp (disch := (refine Om.mk ?_; omega)) only [go_sem])
    | (refine hK.nil ?_; clear hK K; simp only [go_sem])
    | (refine sw_cond rfl (fun h => ?_) (fun h => ?_) <;> (try simp (disch := (refine Om.mk ?_; omega)) only [go_sem] at h))
    | (refine sw_exit rfl ?_)
    | (refine sw_loopEnd ?_)
    | ((first | refine sw_ret (ret0 ?_) | refine sw_ret ?_); simp (disch := (refine Om.mk ?_; omega)) only [go_sem, Try.results6])
    | (with_reducible refine And.intro (by first | omega | (simp only [List.length_append, List.length_take, List.length_drop, List.length_cons, List.length_nil, List.length_map]; omega)) ?_)
    | ((with_reducible refine And.intro ?_ ?_); · first | (intro x hx; subst hx; rfl) | exact upR_mem fun _ _ => rfl | exact mapR_mem fun _ _ => rfl | (intro x; refine And.intro ?_ ?_ <;> (intros; subst_vars; rfl)))
    | fail
  all_goals trace_state
theorem fnDefined_fc (bs : List Int) (hb : BytesP bs) : FC S 3 [] [] [] [.sl .any (bs.map (.int .u8))] (.bool true) [] [] := by
  by_cases hl : 4096 < (bs.length : Int)
  · exact fnDefinedBig_fc bs hl
  · obtain ⟨x, cD⟩ := drawDefinedIn_fc bs hb (by omega)
    exact fnDefined_of bs x hl cD
end Go.Proofs.Ytfokjjlbdaabaaa
end
