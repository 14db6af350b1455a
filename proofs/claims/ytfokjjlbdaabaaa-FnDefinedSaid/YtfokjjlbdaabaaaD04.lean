/-
  The drawing functions: terms, bent sometimes.
-/
import Derived.Test.YtfokjjlbdaabaaaD03
import Derived.Test.YtfokjjlbdaabaaaLgK11
namespace Go.Proofs.Ytfokjjlbdaabaaa
open Go Go.Lg
set_option linter.unusedSimpArgs false
set_option linter.unusedVariables false
set_option maxHeartbeats 4000000
attribute [local irreducible] SW runL runQ runG runQG FC Ret1 toF redoL anyB
theorem nodeU_pos (T : Cu → List Int × Cu) (f : Int) (c : Cu) : ∀ k, 1 ≤ (nodeU T f c k).1.length
  | 0 => by simp [nodeU]
  | k + 1 => by
    have := nodeU_pos T f c k
    simp only [nodeU, List.length_append]; omega
theorem termV_pos (bs rs : List Int) (vars : Int) : ∀ d c, 1 ≤ (termV bs rs vars d c).1.length
  | 0, c => by simp [termV, leafV_len]
  | d + 1, c => by
    unfold termV
    split
    · rw [leafV_len]; exact Nat.le_refl _
    · exact nodeU_pos _ _ _ _
/-- a term, bent: by the third draw -/
def bentV (bs : List Int) (t : List Int) (c4 : Cu) (m : Int) : List Int × Cu :=
  if m = 0 then (t ++ [fromV bs c4 (-2) 3], belowC bs c4 (3 - -2 + 1))
  else if m = 1 then (t.set (belowV bs c4 t.length).toNat (fromV bs (belowC bs c4 t.length) (-3) 4), belowC bs (belowC bs c4 t.length) (4 - -3 + 1))
  else if m = 2 then (t.drop 1, c4)
  else (t ++ [oddV bs c4], belowC bs c4 10)
def anyU (bs : List Int) (p : List Int × Cu) : List Int × Cu :=
  if belowV bs p.2 12 = 0 then bentV bs p.1 (belowC bs (belowC bs p.2 12) 4) (belowV bs (belowC bs p.2 12) 4) else (p.1, belowC bs p.2 12)
def anyV (bs rs : List Int) (c : Cu) : List Int × Cu := anyU bs (termV bs rs 3 (belowV bs c 4).toNat (belowC bs c 4))
attribute [local irreducible] termV belowV belowC byteV nextC mixH fromV oddV
theorem offI_u8 (bs : List Int) : D.offIL (bs.map (.int .u8)) = true := offI_map (fun _ => rfl) bs
theorem tksL_ints (ys : List Int) : D.tksL (ys.map (D.int .i64)) = [] := by
  induction ys with
  | nil => rfl
  | cons y r ih => simp [D.tksL, D.tks, ih]
theorem safeI_u8 (k : Nat) (tk : List Nat) (bs : List Int) : D.safeIL k tk (bs.map (.int .u8)) = true := safeIL_of fun d hd => by obtain ⟨x, _, rfl⟩ := List.mem_map.1 hd; rfl
theorem lops_freeze {S : Setup} {B : Base} {ops : Array Oper} {l : List Oper} {L : LS} {N : LS → Prop} (t s : Nat) (tk : Tk) {id n : Nat} {cs : List D} (xs : List D) (ht : Lg.look L.env t = some (.ms id n)) (hb : Lg.look L.boxes id = some cs) (hx : cs = flat xs) (hn : n = xs.length)
    (hu : ∀ x ∈ xs, x.cells.length = s) (hk : ∀ d ∈ cs, d.memOk = true) (htk : tk = .any ∨ tk = .nn) (hh : LopsW S B ops l { L with env := setA L.env t (.sl tk xs), boxes := eraseK id L.boxes } N) : LopsW S B ops l L N := fun G a w hs Q hQ => by
  obtain ⟨G', h'⟩ := freeze_sim hs ht hb hx hn hu hk htk
  exact hh G' a w h' Q hQ
def kp53 : List (Nat × List Nat) := [(0, [0, 3]), (1, [0, 3, 14]), (2, [4]), (3, [0, 5]), (4, [0, 5, 25]), (5, [0, 5, 27]), (6, [0, 5, 27, 28]), (7, [5]), (8, [0, 5, 27, 35]), (9, [5]), (10, [0, 5, 27, 45]), (11, [5]), (12, [0, 5, 49]), (13, [5]), (14, [4])]
attribute [go_sem] kp53
theorem l1DrawAny_fc (bs : List Int) (hb : BytesP bs) (rs : List Int) (hs : SigOkP rs) (id : Nat) (c : Cu) : FC S 53 [] [(id + 1000, [.sl .any (bs.map (.int .u8)), .int .i64 (c).i, .int .i64 (c).h])] [] [.box (id + 1000) 0, .agg [.sl .any (rs.map (.int .i64))]] (.sl .any ((anyV bs rs c).1.map (.int .i64))) [(id + 1000, [.sl .any (bs.map (.int .u8)), .int .i64 ((anyV bs rs c).2).i, .int .i64 ((anyV bs rs c).2).h])] [] := by
  have hl := hs.1
  have hv := belowV_lt bs c (show (0 : Int) < 4 by omega)
  have cB := l1Below_fc (id + 1000) bs hb c 4 (by omega)
  obtain ⟨d, hd, hd3⟩ : ∃ d : Nat, belowV bs c 4 = (d : Int) ∧ d ≤ 3 := ⟨(belowV bs c 4).toNat, by omega, by omega⟩
  unfold anyV
  rw [hd] at cB ⊢
  rw [Int.toNat_natCast]
  have cT := l1DrawTerm_fc bs hb rs hs 3 (by omega) id d hd3 (belowC bs c 4)
  rw [show (d : Int) + 1 = 1 + (d : Int) by omega] at cT
  have ht1 := termV_pos bs rs 3 d (belowC bs c 4)
  have ht2 := Nat.le_trans (termV_len bs rs hs 3 d (belowC bs c 4)) (Nat.le_trans (Nat.pow_le_pow_right (by decide) hd3) (by decide : 4 ^ 3 ≤ 64))
  generalize termV bs rs 3 d (belowC bs c 4) = p at *
  clear hd hv
  generalize belowC bs c 4 = c1 at *
  obtain ⟨t, c2⟩ := p
  dsimp only at cT ht1 ht2
  have cO := l1Once_fc (id + 1000) bs hb c2 12 (by omega)
  unfold anyU
  dsimp only
  rcases Classical.em (belowV bs c2 12 = 0) with h12 | h12
  · rw [if_pos h12]
    have hm := belowV_lt bs (belowC bs c2 12) (show (0 : Int) < 4 by omega)
    have cM := l1Below_fc (id + 1000) bs hb (belowC bs c2 12) 4 (by omega)
    have hm4 : belowV bs (belowC bs c2 12) 4 = 0 ∨ belowV bs (belowC bs c2 12) 4 = 1 ∨ belowV bs (belowC bs c2 12) 4 = 2 ∨ belowV bs (belowC bs c2 12) 4 = 3 := by omega
    clear hm
    generalize belowV bs (belowC bs c2 12) 4 = m at cM hm4 ⊢
    generalize belowC bs (belowC bs c2 12) 4 = c4 at *
    rcases hm4 with rfl | rfl | rfl | rfl
    · have cF := l1From_fc (id + 1000) bs hb c4 (-2) 3 (by omega) (by omega) (by omega)
      rw [bentV, if_pos rfl]
      refine fc_bodyP Try.func53 rfl (by kernel_rfl) (by simp [Try.f53]) fun B hP => ?_
      simp only [Try.ntmps53, enumD, List.map_nil, List.map_cons, List.length_map, Nat.zero_add, Nat.reduceAdd]
      repeat' first
        | ((exact absurd hs (by assumption)))
        | ((exfalso; omega))
        | ((refine sw_any (id := 3) kp53 [(true, []), (false, []), (true, []), (false, [2]), (false, [3]), (false, [0, 1, 4, 3]), (false, [5, 5, 0, 1, 2, 3, 4, 5])] ⟨57, [(0, .box (id + 1000) 0), (5, .sl (.own 24000 2 1) (t.map (.int .i64)))], [(id + 1000, [.sl .any (bs.map (.int .u8)), .int .i64 (c2).i, .int .i64 (c2).h]), (3, [.sl .any (rs.map (.int .i64))])], [], [24000], [id + 1000]⟩ (by kernel_rfl) ?_ ?_; simp only [List.length_cons, List.length_nil, Nat.reduceAdd]))
        | ((refine anyB_unf ?_; simp only [stepF_n, stepF_c, goR_n, goR_c, exR_n, exR_c, memB_n, memB_c, subB_n, subB_c, moveY_m, moveY_f, cond_t, cond_f, true_and, and_true, Bool.not_false, Bool.not_true, Bool.and_true, Bool.and_false, Bool.true_and, Bool.false_and, Bool.or_false, Bool.false_or, Bool.true_or, Bool.or_true, Nat.reduceBEq, Nat.reduceAdd]))
        | ((refine anyB_move (by simp only [Nat.reduceLT]) rfl (by simp only [go_sem]; exact rfl) ?_))
        | ((refine anyB_fa (by simp only [Nat.reduceLT]) rfl rfl rfl rfl (by decide) (by simp only [go_sem]; exact rfl) ?_))
        | ((refine hK.nil (anyB_id ?_); clear hK K))
        | ((refine lops_and ?_ ?_))
        | ((refine lops_go 0 ?_; refine fun (K : List Oper → LS → Prop) (hK : KOk S 0 _ _ _ K) => ?_; simp (disch := (refine Om.mk ?_; omega)) only [go_sem]))
        | ((refine anyB_end ?_; simp (disch := (refine Om.mk ?_; omega)) only [go_sem]; (refine covers_mk0 rfl rfl ?_ ?_ ?_ ?_ <;> simp (disch := (refine Om.mk ?_; omega)) only [go_sem] <;> (try omega)); done))
        | exact Bool.noConfusion h
        | refine sw_seq ?_
        | refine sw_block ?_
        | refine sw_skip ?_
        | refine sw_inBlock ?_
        | refine sw_go 0 kp53 fun K hK => ?_
        | refine fun (K : List Oper → LS → Prop) (hK : KOk S 0 _ _ _ K) => ?_
        | refine sw_goD kp53 (by kernel_rfl) fun K hK => ?_
        | ((first | refine runL_go ?_ | refine runQ_go ?_); simp (disch := (refine Om.mk ?_; omega)) only [go_sem])
        | (refine hK.nil ?_; clear hK K; simp only [go_sem])
        | (refine runG_fork rfl rfl rfl rfl rfl (fun h => ?_) (fun h => ?_) <;> (try simp (disch := (refine Om.mk ?_; omega)) only [go_sem] at h))
        | (refine runQG_fork rfl rfl rfl rfl rfl (fun h => ?_) (fun h => ?_) <;> (try simp (disch := (refine Om.mk ?_; omega)) only [go_sem] at h))
        | (refine hK.skip rfl (by simp only [dstOk, Nat.reduceLT]) ?_)
        | (refine sw_cond rfl (fun h => ?_) (fun h => ?_) <;> (try simp (disch := (refine Om.mk ?_; omega)) only [go_sem] at h))
        | (refine sw_exit rfl ?_)
        | (refine sw_loopEnd ?_)
        | ((first | refine sw_ret (ret0 ?_) | refine sw_ret ?_); simp (disch := (refine Om.mk ?_; omega)) only [go_sem, Try.results53])
        | refine hK.call rfl rfl rfl (specSigOk_fc _ _) ⟨(by intro p hp; cases hp), rfl, rfl, (by simp only [dstOk, Nat.reduceLT])⟩ ?_
        | (refine hK.callB rfl rfl rfl (cB) ⟨⟨by simp only [Nat.reduceLT], (by first | (simp; all_goals fail) | (simp [LS.getBox, Lg.look]; all_goals fail)), by (simp [Lg.look]; all_goals fail), by (simp; all_goals fail), by (simp; all_goals fail)⟩, ⟨by (simp [D.ids, D.idsL]; all_goals fail), by (simp [D.ids, D.idsL]; all_goals fail), by (simp [D.tks, D.tksL]; all_goals fail), by (simp [D.tks, D.tksL]; all_goals fail), by (simp; all_goals fail)⟩, rfl⟩ ?_; simp (disch := (refine Om.mk ?_; omega)) only [go_sem])
        | (refine hK.callB rfl rfl rfl (cT) ⟨⟨by simp only [Nat.reduceLT], (by first | (simp; all_goals fail) | (simp [LS.getBox, Lg.look]; all_goals fail)), by (simp [Lg.look]; all_goals fail), by (simp; all_goals fail), by (simp; all_goals fail)⟩, ⟨by (simp [D.ids, D.idsL]; all_goals fail), by (simp [D.ids, D.idsL]; all_goals fail), by (simp [D.tks, D.tksL]; all_goals fail), by (simp [D.tks, D.tksL]; all_goals fail), by (simp; all_goals fail)⟩, rfl⟩ ?_; simp (disch := (refine Om.mk ?_; omega)) only [go_sem])
        | (refine hK.fork rfl rfl rfl (fun h => ?_) (fun h => ?_) <;> (try simp (disch := (refine Om.mk ?_; omega)) only [go_sem] at h))
        | (with_reducible refine And.intro (by first | omega | (simp only [List.length_append, List.length_take, List.length_drop, List.length_cons, List.length_nil, List.length_map]; omega)) ?_)
        | ((with_reducible refine And.intro ?_ ?_); · first | (intro x hx; subst hx; rfl) | exact upR_mem fun _ _ => rfl | exact mapR_mem fun _ _ => rfl | (intro x; refine And.intro ?_ ?_ <;> (intros; subst_vars; rfl)))
        | fail
      repeat' first
        | ((exfalso; omega))
        | ((exfalso; exact absurd h12 (by assumption)))
        | ((refine ⟨(by simp), by omega, by omega, ?_⟩))
        | exact Bool.noConfusion h
        | refine sw_seq ?_
        | refine sw_block ?_
        | refine sw_skip ?_
        | refine sw_inBlock ?_
        | refine sw_go 0 kp53 fun K hK => ?_
        | refine fun (K : List Oper → LS → Prop) (hK : KOk S 0 _ _ _ K) => ?_
        | refine sw_goD kp53 (by kernel_rfl) fun K hK => ?_
        | ((first | refine runL_go ?_ | refine runQ_go ?_); simp (disch := (refine Om.mk ?_; omega)) only [go_sem])
        | (refine hK.nil ?_; clear hK K; simp only [go_sem])
        | (refine runG_fork rfl rfl rfl rfl rfl (fun h => ?_) (fun h => ?_) <;> (try simp (disch := (refine Om.mk ?_; omega)) only [go_sem] at h))
        | (refine runQG_fork rfl rfl rfl rfl rfl (fun h => ?_) (fun h => ?_) <;> (try simp (disch := (refine Om.mk ?_; omega)) only [go_sem] at h))
        | (refine hK.skip rfl (by simp only [dstOk, Nat.reduceLT]) ?_)
        | (refine sw_cond rfl (fun h => ?_) (fun h => ?_) <;> (try simp (disch := (refine Om.mk ?_; omega)) only [go_sem] at h))
        | (refine sw_exit rfl ?_)
        | (refine sw_loopEnd ?_)
        | ((first | refine sw_ret (ret0 ?_) | refine sw_ret ?_); simp (disch := (refine Om.mk ?_; omega)) only [go_sem, Try.results53])
        | (refine hK.callB rfl rfl rfl (cO) ⟨⟨by simp only [Nat.reduceLT], (by first | (simp; all_goals fail) | (simp [LS.getBox, Lg.look]; all_goals fail)), by (simp [Lg.look]; all_goals fail), by (simp; all_goals fail), by (simp; all_goals fail)⟩, ⟨by (simp [D.ids, D.idsL]; all_goals fail), by (simp [D.ids, D.idsL]; all_goals fail), by (simp [D.tks, D.tksL]; all_goals fail), by (simp [D.tks, D.tksL]; all_goals fail), by (simp; all_goals fail)⟩, rfl⟩ ?_; simp (disch := (refine Om.mk ?_; omega)) only [go_sem])
        | (refine hK.callB rfl rfl rfl (cM) ⟨⟨by simp only [Nat.reduceLT], (by first | (simp; all_goals fail) | (simp [LS.getBox, Lg.look]; all_goals fail)), by (simp [Lg.look]; all_goals fail), by (simp; all_goals fail), by (simp; all_goals fail)⟩, ⟨by (simp [D.ids, D.idsL]; all_goals fail), by (simp [D.ids, D.idsL]; all_goals fail), by (simp [D.tks, D.tksL]; all_goals fail), by (simp [D.tks, D.tksL]; all_goals fail), by (simp; all_goals fail)⟩, rfl⟩ ?_; simp (disch := (refine Om.mk ?_; omega)) only [go_sem])
        | (refine hK.callB rfl rfl rfl (cF) ⟨⟨by simp only [Nat.reduceLT], (by first | (simp; all_goals fail) | (simp [LS.getBox, Lg.look]; all_goals fail)), by (simp [Lg.look]; all_goals fail), by (simp; all_goals fail), by (simp; all_goals fail)⟩, ⟨by (simp [D.ids, D.idsL]; all_goals fail), by (simp [D.ids, D.idsL]; all_goals fail), by (simp [D.tks, D.tksL]; all_goals fail), by (simp [D.tks, D.tksL]; all_goals fail), by (simp; all_goals fail)⟩, rfl⟩ ?_; simp (disch := (refine Om.mk ?_; omega)) only [go_sem])
        | (refine hK.fork rfl rfl rfl (fun h => ?_) (fun h => ?_) <;> (try simp (disch := (refine Om.mk ?_; omega)) only [go_sem] at h))
        | (with_reducible refine And.intro (by first | omega | (simp only [List.length_append, List.length_take, List.length_drop, List.length_cons, List.length_nil, List.length_map]; omega)) ?_)
        | ((with_reducible refine And.intro ?_ ?_); · first | (intro x hx; subst hx; rfl) | exact upR_mem fun _ _ => rfl | exact mapR_mem fun _ _ => rfl | (intro x; refine And.intro ?_ ?_ <;> (intros; subst_vars; rfl)))
        | fail
    · have hj := belowV_lt bs c4 (n := (t.length : Int)) (by omega)
      have cJ := l1Below_fc (id + 1000) bs hb c4 t.length (by omega)
      obtain ⟨j, hjj, hjl⟩ : ∃ j : Nat, belowV bs c4 t.length = (j : Int) ∧ j < t.length := ⟨(belowV bs c4 t.length).toNat, by omega, by omega⟩
      have cF := l1From_fc (id + 1000) bs hb (belowC bs c4 t.length) (-3) 4 (by omega) (by omega) (by omega)
      have hne : t ≠ [] := by rintro rfl; simp at ht1
      rw [hjj] at cJ
      rw [bentV, if_neg (by decide), if_pos rfl, hjj]
      clear hj hjj
      refine fc_bodyP Try.func53 rfl (by kernel_rfl) (by simp [Try.f53]) fun B hP => ?_
      simp only [Try.ntmps53, enumD, List.map_nil, List.map_cons, List.length_map, Nat.zero_add, Nat.reduceAdd]
      repeat' first
        | ((exact absurd hs (by assumption)))
        | ((exfalso; omega))
        | ((refine sw_any (id := 3) kp53 [(true, []), (false, []), (true, []), (false, [2]), (false, [3]), (false, [0, 1, 4, 3]), (false, [5, 5, 0, 1, 2, 3, 4, 5])] ⟨57, [(0, .box (id + 1000) 0), (5, .sl (.own 24000 2 1) (t.map (.int .i64)))], [(id + 1000, [.sl .any (bs.map (.int .u8)), .int .i64 (c2).i, .int .i64 (c2).h]), (3, [.sl .any (rs.map (.int .i64))])], [], [24000], [id + 1000]⟩ (by kernel_rfl) ?_ ?_; simp only [List.length_cons, List.length_nil, Nat.reduceAdd]))
        | ((refine anyB_unf ?_; simp only [stepF_n, stepF_c, goR_n, goR_c, exR_n, exR_c, memB_n, memB_c, subB_n, subB_c, moveY_m, moveY_f, cond_t, cond_f, true_and, and_true, Bool.not_false, Bool.not_true, Bool.and_true, Bool.and_false, Bool.true_and, Bool.false_and, Bool.or_false, Bool.false_or, Bool.true_or, Bool.or_true, Nat.reduceBEq, Nat.reduceAdd]))
        | ((refine anyB_move (by simp only [Nat.reduceLT]) rfl (by simp only [go_sem]; exact rfl) ?_))
        | ((refine anyB_fa (by simp only [Nat.reduceLT]) rfl rfl rfl rfl (by decide) (by simp only [go_sem]; exact rfl) ?_))
        | ((refine hK.nil (anyB_id ?_); clear hK K))
        | ((refine lops_and ?_ ?_))
        | ((refine lops_go 0 ?_; refine fun (K : List Oper → LS → Prop) (hK : KOk S 0 _ _ _ K) => ?_; simp (disch := (refine Om.mk ?_; omega)) only [go_sem]))
        | ((refine anyB_end ?_; simp (disch := (refine Om.mk ?_; omega)) only [go_sem]; (refine covers_mk0 rfl rfl ?_ ?_ ?_ ?_ <;> simp (disch := (refine Om.mk ?_; omega)) only [go_sem] <;> (try omega)); done))
        | exact Bool.noConfusion h
        | refine sw_seq ?_
        | refine sw_block ?_
        | refine sw_skip ?_
        | refine sw_inBlock ?_
        | refine sw_go 0 kp53 fun K hK => ?_
        | refine fun (K : List Oper → LS → Prop) (hK : KOk S 0 _ _ _ K) => ?_
        | refine sw_goD kp53 (by kernel_rfl) fun K hK => ?_
        | ((first | refine runL_go ?_ | refine runQ_go ?_); simp (disch := (refine Om.mk ?_; omega)) only [go_sem])
        | (refine hK.nil ?_; clear hK K; simp only [go_sem])
        | (refine runG_fork rfl rfl rfl rfl rfl (fun h => ?_) (fun h => ?_) <;> (try simp (disch := (refine Om.mk ?_; omega)) only [go_sem] at h))
        | (refine runQG_fork rfl rfl rfl rfl rfl (fun h => ?_) (fun h => ?_) <;> (try simp (disch := (refine Om.mk ?_; omega)) only [go_sem] at h))
        | (refine hK.skip rfl (by simp only [dstOk, Nat.reduceLT]) ?_)
        | (refine sw_cond rfl (fun h => ?_) (fun h => ?_) <;> (try simp (disch := (refine Om.mk ?_; omega)) only [go_sem] at h))
        | (refine sw_exit rfl ?_)
        | (refine sw_loopEnd ?_)
        | ((first | refine sw_ret (ret0 ?_) | refine sw_ret ?_); simp (disch := (refine Om.mk ?_; omega)) only [go_sem, Try.results53])
        | refine hK.call rfl rfl rfl (specSigOk_fc _ _) ⟨(by intro p hp; cases hp), rfl, rfl, (by simp only [dstOk, Nat.reduceLT])⟩ ?_
        | (refine hK.callB rfl rfl rfl (cB) ⟨⟨by simp only [Nat.reduceLT], (by first | (simp; all_goals fail) | (simp [LS.getBox, Lg.look]; all_goals fail)), by (simp [Lg.look]; all_goals fail), by (simp; all_goals fail), by (simp; all_goals fail)⟩, ⟨by (simp [D.ids, D.idsL]; all_goals fail), by (simp [D.ids, D.idsL]; all_goals fail), by (simp [D.tks, D.tksL]; all_goals fail), by (simp [D.tks, D.tksL]; all_goals fail), by (simp; all_goals fail)⟩, rfl⟩ ?_; simp (disch := (refine Om.mk ?_; omega)) only [go_sem])
        | (refine hK.callB rfl rfl rfl (cT) ⟨⟨by simp only [Nat.reduceLT], (by first | (simp; all_goals fail) | (simp [LS.getBox, Lg.look]; all_goals fail)), by (simp [Lg.look]; all_goals fail), by (simp; all_goals fail), by (simp; all_goals fail)⟩, ⟨by (simp [D.ids, D.idsL]; all_goals fail), by (simp [D.ids, D.idsL]; all_goals fail), by (simp [D.tks, D.tksL]; all_goals fail), by (simp [D.tks, D.tksL]; all_goals fail), by (simp; all_goals fail)⟩, rfl⟩ ?_; simp (disch := (refine Om.mk ?_; omega)) only [go_sem])
        | (refine hK.fork rfl rfl rfl (fun h => ?_) (fun h => ?_) <;> (try simp (disch := (refine Om.mk ?_; omega)) only [go_sem] at h))
        | (with_reducible refine And.intro (by first | omega | (simp only [List.length_append, List.length_take, List.length_drop, List.length_cons, List.length_nil, List.length_map]; omega)) ?_)
        | ((with_reducible refine And.intro ?_ ?_); · first | (intro x hx; subst hx; rfl) | exact upR_mem fun _ _ => rfl | exact mapR_mem fun _ _ => rfl | (intro x; refine And.intro ?_ ?_ <;> (intros; subst_vars; rfl)))
        | fail
      repeat' first
        | ((exfalso; omega))
        | ((refine hK.callB rfl rfl rfl (cJ) ⟨⟨by simp only [Nat.reduceLT], (by simp), (by simp [Lg.look]), (by simp), (by simp)⟩, ⟨by simp [D.ids, D.idsL], by simp [D.ids, D.idsL], by simp [D.tks, D.tksL], by simp [D.tks, D.tksL], by simp⟩, (by simp [LS.clean, D.puOk, D.pu, D.pu1, D.tks, D.tksL, tksL_ints, inTok])⟩ ?_; simp (disch := (refine Om.mk ?_; omega)) only [go_sem]))
        | ((refine hK.callB rfl rfl rfl (cF) ⟨⟨by simp only [Nat.reduceLT], (by simp), (by simp [Lg.look]), (by simp), (by simp)⟩, ⟨by simp [D.ids, D.idsL], by simp [D.ids, D.idsL], by simp [D.tks, D.tksL], by simp [D.tks, D.tksL], by simp⟩, (by simp [LS.clean, D.puOk, D.pu, D.pu1, D.tks, D.tksL, tksL_ints, inTok])⟩ ?_; simp (disch := (refine Om.mk ?_; omega)) only [go_sem]))
        | ((exfalso; exact absurd h12 (by assumption)))
        | ((refine sw_thawAt 9 5 500 rfl (by simp) hne (by simp only [List.mem_cons, List.not_mem_nil, or_false]; omega) hP [(0, .box (id + 1000) 0)] [(id + 1000, [.sl .any (bs.map (.int .u8)), .int .i64 (c4).i, .int .i64 (c4).h])] (fun q hq => by obtain rfl := List.mem_singleton.1 hq; exact ⟨rfl, rfl, by simp [D.ids]⟩) (fun q hq => by obtain rfl := List.mem_singleton.1 hq; exact ⟨by show id + 1000 ≠ 500; omega, by simp [Lg.look], by simp [D.safeIL, D.safeI, offI_u8, safeI_u8], by simp [D.idsL, D.ids]⟩) ?_; simp only [go_sem]))
        | ((refine sw_goAt (id := 14) 0 kp53 0 rfl fun K hK => ?_))
        | exact Bool.noConfusion h
        | refine sw_seq ?_
        | refine sw_block ?_
        | refine sw_skip ?_
        | refine sw_inBlock ?_
        | refine sw_go 0 kp53 fun K hK => ?_
        | refine fun (K : List Oper → LS → Prop) (hK : KOk S 0 _ _ _ K) => ?_
        | refine sw_goD kp53 (by kernel_rfl) fun K hK => ?_
        | ((first | refine runL_go ?_ | refine runQ_go ?_); simp (disch := (refine Om.mk ?_; omega)) only [go_sem])
        | (refine hK.nil ?_; clear hK K; simp only [go_sem])
        | (refine runG_fork rfl rfl rfl rfl rfl (fun h => ?_) (fun h => ?_) <;> (try simp (disch := (refine Om.mk ?_; omega)) only [go_sem] at h))
        | (refine runQG_fork rfl rfl rfl rfl rfl (fun h => ?_) (fun h => ?_) <;> (try simp (disch := (refine Om.mk ?_; omega)) only [go_sem] at h))
        | (refine hK.skip rfl (by simp only [dstOk, Nat.reduceLT]) ?_)
        | (refine sw_cond rfl (fun h => ?_) (fun h => ?_) <;> (try simp (disch := (refine Om.mk ?_; omega)) only [go_sem] at h))
        | (refine sw_exit rfl ?_)
        | (refine sw_loopEnd ?_)
        | ((first | refine sw_ret (ret0 ?_) | refine sw_ret ?_); simp (disch := (refine Om.mk ?_; omega)) only [go_sem, Try.results53])
        | (refine hK.callB rfl rfl rfl (cO) ⟨⟨by simp only [Nat.reduceLT], (by first | (simp; all_goals fail) | (simp [LS.getBox, Lg.look]; all_goals fail)), by (simp [Lg.look]; all_goals fail), by (simp; all_goals fail), by (simp; all_goals fail)⟩, ⟨by (simp [D.ids, D.idsL]; all_goals fail), by (simp [D.ids, D.idsL]; all_goals fail), by (simp [D.tks, D.tksL]; all_goals fail), by (simp [D.tks, D.tksL]; all_goals fail), by (simp; all_goals fail)⟩, rfl⟩ ?_; simp (disch := (refine Om.mk ?_; omega)) only [go_sem])
        | (refine hK.callB rfl rfl rfl (cM) ⟨⟨by simp only [Nat.reduceLT], (by first | (simp; all_goals fail) | (simp [LS.getBox, Lg.look]; all_goals fail)), by (simp [Lg.look]; all_goals fail), by (simp; all_goals fail), by (simp; all_goals fail)⟩, ⟨by (simp [D.ids, D.idsL]; all_goals fail), by (simp [D.ids, D.idsL]; all_goals fail), by (simp [D.tks, D.tksL]; all_goals fail), by (simp [D.tks, D.tksL]; all_goals fail), by (simp; all_goals fail)⟩, rfl⟩ ?_; simp (disch := (refine Om.mk ?_; omega)) only [go_sem])
        | (refine hK.fork rfl rfl rfl (fun h => ?_) (fun h => ?_) <;> (try simp (disch := (refine Om.mk ?_; omega)) only [go_sem] at h))
        | (with_reducible refine And.intro (by first | omega | (simp only [List.length_append, List.length_take, List.length_drop, List.length_cons, List.length_nil, List.length_map]; omega)) ?_)
        | ((with_reducible refine And.intro ?_ ?_); · first | (intro x hx; subst hx; rfl) | exact upR_mem fun _ _ => rfl | exact mapR_mem fun _ _ => rfl | (intro x; refine And.intro ?_ ?_ <;> (intros; subst_vars; rfl)))
        | fail
      refine lops_freeze 5 1 .any (id := 500) (n := t.length) (cs := ((t.set j (fromV bs (belowC bs c4 t.length) (-3) 4)).map (.int .i64))) ((t.set j (fromV bs (belowC bs c4 t.length) (-3) 4)).map (.int .i64)) (by simp [Lg.look]) (by simp [Lg.look]) (flat_ints _).symm (by simp) (cells_one fun _ => rfl) (memOk_ints _) (.inl rfl) ?_
      simp only [go_sem]
      refine lops_go 0 ?_
      refine fun (K : List Oper → LS → Prop) (hK : KOk S 0 _ _ _ K) => ?_
      simp only [go_sem]
      repeat' first
        | exact Bool.noConfusion h
        | refine sw_seq ?_
        | refine sw_block ?_
        | refine sw_skip ?_
        | refine sw_inBlock ?_
        | refine sw_go 0 kp53 fun K hK => ?_
        | refine fun (K : List Oper → LS → Prop) (hK : KOk S 0 _ _ _ K) => ?_
        | refine sw_goD kp53 (by kernel_rfl) fun K hK => ?_
        | ((first | refine runL_go ?_ | refine runQ_go ?_); simp (disch := (refine Om.mk ?_; omega)) only [go_sem])
        | (refine hK.nil ?_; clear hK K; simp only [go_sem])
        | (refine runG_fork rfl rfl rfl rfl rfl (fun h => ?_) (fun h => ?_) <;> (try simp (disch := (refine Om.mk ?_; omega)) only [go_sem] at h))
        | (refine runQG_fork rfl rfl rfl rfl rfl (fun h => ?_) (fun h => ?_) <;> (try simp (disch := (refine Om.mk ?_; omega)) only [go_sem] at h))
        | (refine hK.skip rfl (by simp only [dstOk, Nat.reduceLT]) ?_)
        | (refine sw_cond rfl (fun h => ?_) (fun h => ?_) <;> (try simp (disch := (refine Om.mk ?_; omega)) only [go_sem] at h))
        | (refine sw_exit rfl ?_)
        | (refine sw_loopEnd ?_)
        | ((first | refine sw_ret (ret0 ?_) | refine sw_ret ?_); simp (disch := (refine Om.mk ?_; omega)) only [go_sem, Try.results53])
        | (refine hK.fork rfl rfl rfl (fun h => ?_) (fun h => ?_) <;> (try simp (disch := (refine Om.mk ?_; omega)) only [go_sem] at h))
        | (with_reducible refine And.intro (by first | omega | (simp only [List.length_append, List.length_take, List.length_drop, List.length_cons, List.length_nil, List.length_map]; omega)) ?_)
        | ((with_reducible refine And.intro ?_ ?_); · first | (intro x hx; subst hx; rfl) | exact upR_mem fun _ _ => rfl | exact mapR_mem fun _ _ => rfl | (intro x; refine And.intro ?_ ?_ <;> (intros; subst_vars; rfl)))
        | fail
    · rw [bentV, if_neg (by decide), if_neg (by decide), if_pos rfl]
      refine fc_bodyP Try.func53 rfl (by kernel_rfl) (by simp [Try.f53]) fun B hP => ?_
      simp only [Try.ntmps53, enumD, List.map_nil, List.map_cons, List.length_map, Nat.zero_add, Nat.reduceAdd]
      repeat' first
        | ((exact absurd hs (by assumption)))
        | ((exfalso; omega))
        | ((refine sw_any (id := 3) kp53 [(true, []), (false, []), (true, []), (false, [2]), (false, [3]), (false, [0, 1, 4, 3]), (false, [5, 5, 0, 1, 2, 3, 4, 5])] ⟨57, [(0, .box (id + 1000) 0), (5, .sl (.own 24000 2 1) (t.map (.int .i64)))], [(id + 1000, [.sl .any (bs.map (.int .u8)), .int .i64 (c2).i, .int .i64 (c2).h]), (3, [.sl .any (rs.map (.int .i64))])], [], [24000], [id + 1000]⟩ (by kernel_rfl) ?_ ?_; simp only [List.length_cons, List.length_nil, Nat.reduceAdd]))
        | ((refine anyB_unf ?_; simp only [stepF_n, stepF_c, goR_n, goR_c, exR_n, exR_c, memB_n, memB_c, subB_n, subB_c, moveY_m, moveY_f, cond_t, cond_f, true_and, and_true, Bool.not_false, Bool.not_true, Bool.and_true, Bool.and_false, Bool.true_and, Bool.false_and, Bool.or_false, Bool.false_or, Bool.true_or, Bool.or_true, Nat.reduceBEq, Nat.reduceAdd]))
        | ((refine anyB_move (by simp only [Nat.reduceLT]) rfl (by simp only [go_sem]; exact rfl) ?_))
        | ((refine anyB_fa (by simp only [Nat.reduceLT]) rfl rfl rfl rfl (by decide) (by simp only [go_sem]; exact rfl) ?_))
        | ((refine hK.nil (anyB_id ?_); clear hK K))
        | ((refine lops_and ?_ ?_))
        | ((refine lops_go 0 ?_; refine fun (K : List Oper → LS → Prop) (hK : KOk S 0 _ _ _ K) => ?_; simp (disch := (refine Om.mk ?_; omega)) only [go_sem]))
        | ((refine anyB_end ?_; simp (disch := (refine Om.mk ?_; omega)) only [go_sem]; (refine covers_mk0 rfl rfl ?_ ?_ ?_ ?_ <;> simp (disch := (refine Om.mk ?_; omega)) only [go_sem] <;> (try omega)); done))
        | exact Bool.noConfusion h
        | refine sw_seq ?_
        | refine sw_block ?_
        | refine sw_skip ?_
        | refine sw_inBlock ?_
        | refine sw_go 0 kp53 fun K hK => ?_
        | refine fun (K : List Oper → LS → Prop) (hK : KOk S 0 _ _ _ K) => ?_
        | refine sw_goD kp53 (by kernel_rfl) fun K hK => ?_
        | ((first | refine runL_go ?_ | refine runQ_go ?_); simp (disch := (refine Om.mk ?_; omega)) only [go_sem])
        | (refine hK.nil ?_; clear hK K; simp only [go_sem])
        | (refine runG_fork rfl rfl rfl rfl rfl (fun h => ?_) (fun h => ?_) <;> (try simp (disch := (refine Om.mk ?_; omega)) only [go_sem] at h))
        | (refine runQG_fork rfl rfl rfl rfl rfl (fun h => ?_) (fun h => ?_) <;> (try simp (disch := (refine Om.mk ?_; omega)) only [go_sem] at h))
        | (refine hK.skip rfl (by simp only [dstOk, Nat.reduceLT]) ?_)
        | (refine sw_cond rfl (fun h => ?_) (fun h => ?_) <;> (try simp (disch := (refine Om.mk ?_; omega)) only [go_sem] at h))
        | (refine sw_exit rfl ?_)
        | (refine sw_loopEnd ?_)
        | ((first | refine sw_ret (ret0 ?_) | refine sw_ret ?_); simp (disch := (refine Om.mk ?_; omega)) only [go_sem, Try.results53])
        | refine hK.call rfl rfl rfl (specSigOk_fc _ _) ⟨(by intro p hp; cases hp), rfl, rfl, (by simp only [dstOk, Nat.reduceLT])⟩ ?_
        | (refine hK.callB rfl rfl rfl (cB) ⟨⟨by simp only [Nat.reduceLT], (by first | (simp; all_goals fail) | (simp [LS.getBox, Lg.look]; all_goals fail)), by (simp [Lg.look]; all_goals fail), by (simp; all_goals fail), by (simp; all_goals fail)⟩, ⟨by (simp [D.ids, D.idsL]; all_goals fail), by (simp [D.ids, D.idsL]; all_goals fail), by (simp [D.tks, D.tksL]; all_goals fail), by (simp [D.tks, D.tksL]; all_goals fail), by (simp; all_goals fail)⟩, rfl⟩ ?_; simp (disch := (refine Om.mk ?_; omega)) only [go_sem])
        | (refine hK.callB rfl rfl rfl (cT) ⟨⟨by simp only [Nat.reduceLT], (by first | (simp; all_goals fail) | (simp [LS.getBox, Lg.look]; all_goals fail)), by (simp [Lg.look]; all_goals fail), by (simp; all_goals fail), by (simp; all_goals fail)⟩, ⟨by (simp [D.ids, D.idsL]; all_goals fail), by (simp [D.ids, D.idsL]; all_goals fail), by (simp [D.tks, D.tksL]; all_goals fail), by (simp [D.tks, D.tksL]; all_goals fail), by (simp; all_goals fail)⟩, rfl⟩ ?_; simp (disch := (refine Om.mk ?_; omega)) only [go_sem])
        | (refine hK.fork rfl rfl rfl (fun h => ?_) (fun h => ?_) <;> (try simp (disch := (refine Om.mk ?_; omega)) only [go_sem] at h))
        | (with_reducible refine And.intro (by first | omega | (simp only [List.length_append, List.length_take, List.length_drop, List.length_cons, List.length_nil, List.length_map]; omega)) ?_)
        | ((with_reducible refine And.intro ?_ ?_); · first | (intro x hx; subst hx; rfl) | exact upR_mem fun _ _ => rfl | exact mapR_mem fun _ _ => rfl | (intro x; refine And.intro ?_ ?_ <;> (intros; subst_vars; rfl)))
        | fail
      repeat' first
        | ((exfalso; omega))
        | ((exfalso; exact absurd h12 (by assumption)))
        | exact Bool.noConfusion h
        | refine sw_seq ?_
        | refine sw_block ?_
        | refine sw_skip ?_
        | refine sw_inBlock ?_
        | refine sw_go 0 kp53 fun K hK => ?_
        | refine fun (K : List Oper → LS → Prop) (hK : KOk S 0 _ _ _ K) => ?_
        | refine sw_goD kp53 (by kernel_rfl) fun K hK => ?_
        | ((first | refine runL_go ?_ | refine runQ_go ?_); simp (disch := (refine Om.mk ?_; omega)) only [go_sem])
        | (refine hK.nil ?_; clear hK K; simp only [go_sem])
        | (refine runG_fork rfl rfl rfl rfl rfl (fun h => ?_) (fun h => ?_) <;> (try simp (disch := (refine Om.mk ?_; omega)) only [go_sem] at h))
        | (refine runQG_fork rfl rfl rfl rfl rfl (fun h => ?_) (fun h => ?_) <;> (try simp (disch := (refine Om.mk ?_; omega)) only [go_sem] at h))
        | (refine hK.skip rfl (by simp only [dstOk, Nat.reduceLT]) ?_)
        | (refine sw_cond rfl (fun h => ?_) (fun h => ?_) <;> (try simp (disch := (refine Om.mk ?_; omega)) only [go_sem] at h))
        | (refine sw_exit rfl ?_)
        | (refine sw_loopEnd ?_)
        | ((first | refine sw_ret (ret0 ?_) | refine sw_ret ?_); simp (disch := (refine Om.mk ?_; omega)) only [go_sem, Try.results53])
        | (refine hK.callB rfl rfl rfl (cO) ⟨⟨by simp only [Nat.reduceLT], (by first | (simp; all_goals fail) | (simp [LS.getBox, Lg.look]; all_goals fail)), by (simp [Lg.look]; all_goals fail), by (simp; all_goals fail), by (simp; all_goals fail)⟩, ⟨by (simp [D.ids, D.idsL]; all_goals fail), by (simp [D.ids, D.idsL]; all_goals fail), by (simp [D.tks, D.tksL]; all_goals fail), by (simp [D.tks, D.tksL]; all_goals fail), by (simp; all_goals fail)⟩, rfl⟩ ?_; simp (disch := (refine Om.mk ?_; omega)) only [go_sem])
        | (refine hK.callB rfl rfl rfl (cM) ⟨⟨by simp only [Nat.reduceLT], (by first | (simp; all_goals fail) | (simp [LS.getBox, Lg.look]; all_goals fail)), by (simp [Lg.look]; all_goals fail), by (simp; all_goals fail), by (simp; all_goals fail)⟩, ⟨by (simp [D.ids, D.idsL]; all_goals fail), by (simp [D.ids, D.idsL]; all_goals fail), by (simp [D.tks, D.tksL]; all_goals fail), by (simp [D.tks, D.tksL]; all_goals fail), by (simp; all_goals fail)⟩, rfl⟩ ?_; simp (disch := (refine Om.mk ?_; omega)) only [go_sem])
        | (refine hK.fork rfl rfl rfl (fun h => ?_) (fun h => ?_) <;> (try simp (disch := (refine Om.mk ?_; omega)) only [go_sem] at h))
        | (with_reducible refine And.intro (by first | omega | (simp only [List.length_append, List.length_take, List.length_drop, List.length_cons, List.length_nil, List.length_map]; omega)) ?_)
        | ((with_reducible refine And.intro ?_ ?_); · first | (intro x hx; subst hx; rfl) | exact upR_mem fun _ _ => rfl | exact mapR_mem fun _ _ => rfl | (intro x; refine And.intro ?_ ?_ <;> (intros; subst_vars; rfl)))
        | fail
      all_goals rfl
    · have cD := l1Odd_fc (id + 1000) bs hb c4
      rw [bentV, if_neg (by decide), if_neg (by decide), if_neg (by decide)]
      refine fc_bodyP Try.func53 rfl (by kernel_rfl) (by simp [Try.f53]) fun B hP => ?_
      simp only [Try.ntmps53, enumD, List.map_nil, List.map_cons, List.length_map, Nat.zero_add, Nat.reduceAdd]
      repeat' first
        | ((exact absurd hs (by assumption)))
        | ((exfalso; omega))
        | ((refine sw_any (id := 3) kp53 [(true, []), (false, []), (true, []), (false, [2]), (false, [3]), (false, [0, 1, 4, 3]), (false, [5, 5, 0, 1, 2, 3, 4, 5])] ⟨57, [(0, .box (id + 1000) 0), (5, .sl (.own 24000 2 1) (t.map (.int .i64)))], [(id + 1000, [.sl .any (bs.map (.int .u8)), .int .i64 (c2).i, .int .i64 (c2).h]), (3, [.sl .any (rs.map (.int .i64))])], [], [24000], [id + 1000]⟩ (by kernel_rfl) ?_ ?_; simp only [List.length_cons, List.length_nil, Nat.reduceAdd]))
        | ((refine anyB_unf ?_; simp only [stepF_n, stepF_c, goR_n, goR_c, exR_n, exR_c, memB_n, memB_c, subB_n, subB_c, moveY_m, moveY_f, cond_t, cond_f, true_and, and_true, Bool.not_false, Bool.not_true, Bool.and_true, Bool.and_false, Bool.true_and, Bool.false_and, Bool.or_false, Bool.false_or, Bool.true_or, Bool.or_true, Nat.reduceBEq, Nat.reduceAdd]))
        | ((refine anyB_move (by simp only [Nat.reduceLT]) rfl (by simp only [go_sem]; exact rfl) ?_))
        | ((refine anyB_fa (by simp only [Nat.reduceLT]) rfl rfl rfl rfl (by decide) (by simp only [go_sem]; exact rfl) ?_))
        | ((refine hK.nil (anyB_id ?_); clear hK K))
        | ((refine lops_and ?_ ?_))
        | ((refine lops_go 0 ?_; refine fun (K : List Oper → LS → Prop) (hK : KOk S 0 _ _ _ K) => ?_; simp (disch := (refine Om.mk ?_; omega)) only [go_sem]))
        | ((refine anyB_end ?_; simp (disch := (refine Om.mk ?_; omega)) only [go_sem]; (refine covers_mk0 rfl rfl ?_ ?_ ?_ ?_ <;> simp (disch := (refine Om.mk ?_; omega)) only [go_sem] <;> (try omega)); done))
        | exact Bool.noConfusion h
        | refine sw_seq ?_
        | refine sw_block ?_
        | refine sw_skip ?_
        | refine sw_inBlock ?_
        | refine sw_go 0 kp53 fun K hK => ?_
        | refine fun (K : List Oper → LS → Prop) (hK : KOk S 0 _ _ _ K) => ?_
        | refine sw_goD kp53 (by kernel_rfl) fun K hK => ?_
        | ((first | refine runL_go ?_ | refine runQ_go ?_); simp (disch := (refine Om.mk ?_; omega)) only [go_sem])
        | (refine hK.nil ?_; clear hK K; simp only [go_sem])
        | (refine runG_fork rfl rfl rfl rfl rfl (fun h => ?_) (fun h => ?_) <;> (try simp (disch := (refine Om.mk ?_; omega)) only [go_sem] at h))
        | (refine runQG_fork rfl rfl rfl rfl rfl (fun h => ?_) (fun h => ?_) <;> (try simp (disch := (refine Om.mk ?_; omega)) only [go_sem] at h))
        | (refine hK.skip rfl (by simp only [dstOk, Nat.reduceLT]) ?_)
        | (refine sw_cond rfl (fun h => ?_) (fun h => ?_) <;> (try simp (disch := (refine Om.mk ?_; omega)) only [go_sem] at h))
        | (refine sw_exit rfl ?_)
        | (refine sw_loopEnd ?_)
        | ((first | refine sw_ret (ret0 ?_) | refine sw_ret ?_); simp (disch := (refine Om.mk ?_; omega)) only [go_sem, Try.results53])
        | refine hK.call rfl rfl rfl (specSigOk_fc _ _) ⟨(by intro p hp; cases hp), rfl, rfl, (by simp only [dstOk, Nat.reduceLT])⟩ ?_
        | (refine hK.callB rfl rfl rfl (cB) ⟨⟨by simp only [Nat.reduceLT], (by first | (simp; all_goals fail) | (simp [LS.getBox, Lg.look]; all_goals fail)), by (simp [Lg.look]; all_goals fail), by (simp; all_goals fail), by (simp; all_goals fail)⟩, ⟨by (simp [D.ids, D.idsL]; all_goals fail), by (simp [D.ids, D.idsL]; all_goals fail), by (simp [D.tks, D.tksL]; all_goals fail), by (simp [D.tks, D.tksL]; all_goals fail), by (simp; all_goals fail)⟩, rfl⟩ ?_; simp (disch := (refine Om.mk ?_; omega)) only [go_sem])
        | (refine hK.callB rfl rfl rfl (cT) ⟨⟨by simp only [Nat.reduceLT], (by first | (simp; all_goals fail) | (simp [LS.getBox, Lg.look]; all_goals fail)), by (simp [Lg.look]; all_goals fail), by (simp; all_goals fail), by (simp; all_goals fail)⟩, ⟨by (simp [D.ids, D.idsL]; all_goals fail), by (simp [D.ids, D.idsL]; all_goals fail), by (simp [D.tks, D.tksL]; all_goals fail), by (simp [D.tks, D.tksL]; all_goals fail), by (simp; all_goals fail)⟩, rfl⟩ ?_; simp (disch := (refine Om.mk ?_; omega)) only [go_sem])
        | (refine hK.fork rfl rfl rfl (fun h => ?_) (fun h => ?_) <;> (try simp (disch := (refine Om.mk ?_; omega)) only [go_sem] at h))
        | (with_reducible refine And.intro (by first | omega | (simp only [List.length_append, List.length_take, List.length_drop, List.length_cons, List.length_nil, List.length_map]; omega)) ?_)
        | ((with_reducible refine And.intro ?_ ?_); · first | (intro x hx; subst hx; rfl) | exact upR_mem fun _ _ => rfl | exact mapR_mem fun _ _ => rfl | (intro x; refine And.intro ?_ ?_ <;> (intros; subst_vars; rfl)))
        | fail
      repeat' first
        | ((exfalso; omega))
        | ((exfalso; exact absurd h12 (by assumption)))
        | ((refine ⟨(by simp), by omega, by omega, ?_⟩))
        | exact Bool.noConfusion h
        | refine sw_seq ?_
        | refine sw_block ?_
        | refine sw_skip ?_
        | refine sw_inBlock ?_
        | refine sw_go 0 kp53 fun K hK => ?_
        | refine fun (K : List Oper → LS → Prop) (hK : KOk S 0 _ _ _ K) => ?_
        | refine sw_goD kp53 (by kernel_rfl) fun K hK => ?_
        | ((first | refine runL_go ?_ | refine runQ_go ?_); simp (disch := (refine Om.mk ?_; omega)) only [go_sem])
        | (refine hK.nil ?_; clear hK K; simp only [go_sem])
        | (refine runG_fork rfl rfl rfl rfl rfl (fun h => ?_) (fun h => ?_) <;> (try simp (disch := (refine Om.mk ?_; omega)) only [go_sem] at h))
        | (refine runQG_fork rfl rfl rfl rfl rfl (fun h => ?_) (fun h => ?_) <;> (try simp (disch := (refine Om.mk ?_; omega)) only [go_sem] at h))
        | (refine hK.skip rfl (by simp only [dstOk, Nat.reduceLT]) ?_)
        | (refine sw_cond rfl (fun h => ?_) (fun h => ?_) <;> (try simp (disch := (refine Om.mk ?_; omega)) only [go_sem] at h))
        | (refine sw_exit rfl ?_)
        | (refine sw_loopEnd ?_)
        | ((first | refine sw_ret (ret0 ?_) | refine sw_ret ?_); simp (disch := (refine Om.mk ?_; omega)) only [go_sem, Try.results53])
        | (refine hK.callB rfl rfl rfl (cO) ⟨⟨by simp only [Nat.reduceLT], (by first | (simp; all_goals fail) | (simp [LS.getBox, Lg.look]; all_goals fail)), by (simp [Lg.look]; all_goals fail), by (simp; all_goals fail), by (simp; all_goals fail)⟩, ⟨by (simp [D.ids, D.idsL]; all_goals fail), by (simp [D.ids, D.idsL]; all_goals fail), by (simp [D.tks, D.tksL]; all_goals fail), by (simp [D.tks, D.tksL]; all_goals fail), by (simp; all_goals fail)⟩, rfl⟩ ?_; simp (disch := (refine Om.mk ?_; omega)) only [go_sem])
        | (refine hK.callB rfl rfl rfl (cM) ⟨⟨by simp only [Nat.reduceLT], (by first | (simp; all_goals fail) | (simp [LS.getBox, Lg.look]; all_goals fail)), by (simp [Lg.look]; all_goals fail), by (simp; all_goals fail), by (simp; all_goals fail)⟩, ⟨by (simp [D.ids, D.idsL]; all_goals fail), by (simp [D.ids, D.idsL]; all_goals fail), by (simp [D.tks, D.tksL]; all_goals fail), by (simp [D.tks, D.tksL]; all_goals fail), by (simp; all_goals fail)⟩, rfl⟩ ?_; simp (disch := (refine Om.mk ?_; omega)) only [go_sem])
        | (refine hK.callB rfl rfl rfl (cD) ⟨⟨by simp only [Nat.reduceLT], (by first | (simp; all_goals fail) | (simp [LS.getBox, Lg.look]; all_goals fail)), by (simp [Lg.look]; all_goals fail), by (simp; all_goals fail), by (simp; all_goals fail)⟩, ⟨by (simp [D.ids, D.idsL]; all_goals fail), by (simp [D.ids, D.idsL]; all_goals fail), by (simp [D.tks, D.tksL]; all_goals fail), by (simp [D.tks, D.tksL]; all_goals fail), by (simp; all_goals fail)⟩, rfl⟩ ?_; simp (disch := (refine Om.mk ?_; omega)) only [go_sem])
        | (refine hK.fork rfl rfl rfl (fun h => ?_) (fun h => ?_) <;> (try simp (disch := (refine Om.mk ?_; omega)) only [go_sem] at h))
        | (with_reducible refine And.intro (by first | omega | (simp only [List.length_append, List.length_take, List.length_drop, List.length_cons, List.length_nil, List.length_map]; omega)) ?_)
        | ((with_reducible refine And.intro ?_ ?_); · first | (intro x hx; subst hx; rfl) | exact upR_mem fun _ _ => rfl | exact mapR_mem fun _ _ => rfl | (intro x; refine And.intro ?_ ?_ <;> (intros; subst_vars; rfl)))
        | fail
  · rw [if_neg h12]
    refine fc_bodyP Try.func53 rfl (by kernel_rfl) (by simp [Try.f53]) fun B hP => ?_
    simp only [Try.ntmps53, enumD, List.map_nil, List.map_cons, List.length_map, Nat.zero_add, Nat.reduceAdd]
    repeat' first
      | ((exact absurd hs (by assumption)))
      | ((exfalso; omega))
      | ((refine sw_any (id := 3) kp53 [(true, []), (false, []), (true, []), (false, [2]), (false, [3]), (false, [0, 1, 4, 3]), (false, [5, 5, 0, 1, 2, 3, 4, 5])] ⟨57, [(0, .box (id + 1000) 0), (5, .sl (.own 24000 2 1) (t.map (.int .i64)))], [(id + 1000, [.sl .any (bs.map (.int .u8)), .int .i64 (c2).i, .int .i64 (c2).h]), (3, [.sl .any (rs.map (.int .i64))])], [], [24000], [id + 1000]⟩ (by kernel_rfl) ?_ ?_; simp only [List.length_cons, List.length_nil, Nat.reduceAdd]))
      | ((refine anyB_unf ?_; simp only [stepF_n, stepF_c, goR_n, goR_c, exR_n, exR_c, memB_n, memB_c, subB_n, subB_c, moveY_m, moveY_f, cond_t, cond_f, true_and, and_true, Bool.not_false, Bool.not_true, Bool.and_true, Bool.and_false, Bool.true_and, Bool.false_and, Bool.or_false, Bool.false_or, Bool.true_or, Bool.or_true, Nat.reduceBEq, Nat.reduceAdd]))
      | ((refine anyB_move (by simp only [Nat.reduceLT]) rfl (by simp only [go_sem]; exact rfl) ?_))
      | ((refine anyB_fa (by simp only [Nat.reduceLT]) rfl rfl rfl rfl (by decide) (by simp only [go_sem]; exact rfl) ?_))
      | ((refine hK.nil (anyB_id ?_); clear hK K))
      | ((refine lops_and ?_ ?_))
      | ((refine lops_go 0 ?_; refine fun (K : List Oper → LS → Prop) (hK : KOk S 0 _ _ _ K) => ?_; simp (disch := (refine Om.mk ?_; omega)) only [go_sem]))
      | ((refine anyB_end ?_; simp (disch := (refine Om.mk ?_; omega)) only [go_sem]; (refine covers_mk0 rfl rfl ?_ ?_ ?_ ?_ <;> simp (disch := (refine Om.mk ?_; omega)) only [go_sem] <;> (try omega)); done))
      | exact Bool.noConfusion h
      | refine sw_seq ?_
      | refine sw_block ?_
      | refine sw_skip ?_
      | refine sw_inBlock ?_
      | refine sw_go 0 kp53 fun K hK => ?_
      | refine fun (K : List Oper → LS → Prop) (hK : KOk S 0 _ _ _ K) => ?_
      | refine sw_goD kp53 (by kernel_rfl) fun K hK => ?_
      | ((first | refine runL_go ?_ | refine runQ_go ?_); simp (disch := (refine Om.mk ?_; omega)) only [go_sem])
      | (refine hK.nil ?_; clear hK K; simp only [go_sem])
      | (refine runG_fork rfl rfl rfl rfl rfl (fun h => ?_) (fun h => ?_) <;> (try simp (disch := (refine Om.mk ?_; omega)) only [go_sem] at h))
      | (refine runQG_fork rfl rfl rfl rfl rfl (fun h => ?_) (fun h => ?_) <;> (try simp (disch := (refine Om.mk ?_; omega)) only [go_sem] at h))
      | (refine hK.skip rfl (by simp only [dstOk, Nat.reduceLT]) ?_)
      | (refine sw_cond rfl (fun h => ?_) (fun h => ?_) <;> (try simp (disch := (refine Om.mk ?_; omega)) only [go_sem] at h))
      | (refine sw_exit rfl ?_)
      | (refine sw_loopEnd ?_)
      | ((first | refine sw_ret (ret0 ?_) | refine sw_ret ?_); simp (disch := (refine Om.mk ?_; omega)) only [go_sem, Try.results53])
      | refine hK.call rfl rfl rfl (specSigOk_fc _ _) ⟨(by intro p hp; cases hp), rfl, rfl, (by simp only [dstOk, Nat.reduceLT])⟩ ?_
      | (refine hK.callB rfl rfl rfl (cB) ⟨⟨by simp only [Nat.reduceLT], (by first | (simp; all_goals fail) | (simp [LS.getBox, Lg.look]; all_goals fail)), by (simp [Lg.look]; all_goals fail), by (simp; all_goals fail), by (simp; all_goals fail)⟩, ⟨by (simp [D.ids, D.idsL]; all_goals fail), by (simp [D.ids, D.idsL]; all_goals fail), by (simp [D.tks, D.tksL]; all_goals fail), by (simp [D.tks, D.tksL]; all_goals fail), by (simp; all_goals fail)⟩, rfl⟩ ?_; simp (disch := (refine Om.mk ?_; omega)) only [go_sem])
      | (refine hK.callB rfl rfl rfl (cT) ⟨⟨by simp only [Nat.reduceLT], (by first | (simp; all_goals fail) | (simp [LS.getBox, Lg.look]; all_goals fail)), by (simp [Lg.look]; all_goals fail), by (simp; all_goals fail), by (simp; all_goals fail)⟩, ⟨by (simp [D.ids, D.idsL]; all_goals fail), by (simp [D.ids, D.idsL]; all_goals fail), by (simp [D.tks, D.tksL]; all_goals fail), by (simp [D.tks, D.tksL]; all_goals fail), by (simp; all_goals fail)⟩, rfl⟩ ?_; simp (disch := (refine Om.mk ?_; omega)) only [go_sem])
      | (refine hK.callB rfl rfl rfl (cO) ⟨⟨by simp only [Nat.reduceLT], (by first | (simp; all_goals fail) | (simp [LS.getBox, Lg.look]; all_goals fail)), by (simp [Lg.look]; all_goals fail), by (simp; all_goals fail), by (simp; all_goals fail)⟩, ⟨by (simp [D.ids, D.idsL]; all_goals fail), by (simp [D.ids, D.idsL]; all_goals fail), by (simp [D.tks, D.tksL]; all_goals fail), by (simp [D.tks, D.tksL]; all_goals fail), by (simp; all_goals fail)⟩, rfl⟩ ?_; simp (disch := (refine Om.mk ?_; omega)) only [go_sem])
      | (refine hK.fork rfl rfl rfl (fun h => ?_) (fun h => ?_) <;> (try simp (disch := (refine Om.mk ?_; omega)) only [go_sem] at h))
      | (with_reducible refine And.intro (by first | omega | (simp only [List.length_append, List.length_take, List.length_drop, List.length_cons, List.length_nil, List.length_map]; omega)) ?_)
      | ((with_reducible refine And.intro ?_ ?_); · first | (intro x hx; subst hx; rfl) | exact upR_mem fun _ _ => rfl | exact mapR_mem fun _ _ => rfl | (intro x; refine And.intro ?_ ?_ <;> (intros; subst_vars; rfl)))
      | fail
end Go.Proofs.Ytfokjjlbdaabaaa
