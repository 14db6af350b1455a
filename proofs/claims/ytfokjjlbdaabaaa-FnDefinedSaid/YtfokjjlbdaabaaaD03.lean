/-
  The drawing functions: terms.
-/
import Derived.Test.YtfokjjlbdaabaaaD02
namespace Go.Proofs.Ytfokjjlbdaabaaa
open Go Go.Lg
set_option linter.unusedSimpArgs false
set_option linter.unusedVariables false
set_option maxHeartbeats 4000000
attribute [local irreducible] SW runL runQ runG runQG FC Ret1 toF redoL anyB
theorem ret1_ownB {S : Setup} {L : LS} {t k : Nat} {e : TypeId} {z : Nat} {xs : List D} {id : Nat} {cs : List D} (h : Lg.look L.env t = some (.sl (.own k e z) xs)) (hk : k ∈ L.toks) (hb : Lg.look L.boxes id = some cs) (h0 : 0 ∉ D.tksL cs) : Ret1 S [.tmp t] (.sl (.own 0 e z) xs) [(id, cs)] L := by
  unfold Ret1
  simp only [resY, resYs, resY1, LS.get, h, someK]
  exact ⟨k, _, .refl _, hk, fun k' hk' => by simpa [tupD, D.tks] using hk', rfl, by simpa using hb, by simpa using h0⟩
def constD (rs : List Int) : Nat → List Int
  | 0 => [-1]
  | f + 1 => if rs.getD f default = 0 then [(f : Int)] else constD rs f
def leafV (bs rs : List Int) (vars : Int) (c : Cu) : List Int × Cu :=
  if 0 < vars then (if belowV bs c 2 = 0 then ([-1 - belowV bs (belowC bs c 2) vars], belowC bs (belowC bs c 2) vars) else (constD rs rs.length, belowC bs c 2)) else (constD rs rs.length, c)
def nodeU (T : Cu → List Int × Cu) (f : Int) (c : Cu) : Nat → List Int × Cu
  | 0 => ([f], c)
  | k + 1 => ((nodeU T f c k).1 ++ (T (nodeU T f c k).2).1, (T (nodeU T f c k).2).2)
def termV (bs rs : List Int) (vars : Int) : Nat → Cu → List Int × Cu
  | 0, c => leafV bs rs vars c
  | d + 1, c => if belowV bs c 4 = 0 then leafV bs rs vars (belowC bs c 4) else
      nodeU (termV bs rs vars d) (belowV bs (belowC bs c 4) rs.length) (belowC bs (belowC bs c 4) rs.length) (rs.getD (belowV bs (belowC bs c 4) rs.length).toNat default).toNat
theorem constD_len (rs : List Int) : ∀ f, (constD rs f).length = 1
  | 0 => rfl
  | f + 1 => by unfold constD; split <;> first | rfl | exact constD_len rs f
theorem leafV_len (bs rs : List Int) (vars : Int) (c : Cu) : (leafV bs rs vars c).1.length = 1 := by
  unfold leafV
  split
  · split
    · rfl
    · exact constD_len rs _
  · exact constD_len rs _
theorem nodeU_len {T : Cu → List Int × Cu} {n : Nat} (hT : ∀ c, (T c).1.length ≤ n) (f : Int) (c : Cu) : ∀ k, (nodeU T f c k).1.length ≤ 1 + k * n
  | 0 => by simp [nodeU]
  | k + 1 => by
    have ih := nodeU_len hT f c k
    have := hT (nodeU T f c k).2
    simp only [nodeU, List.length_append, Nat.succ_mul]; omega
theorem termV_len (bs rs : List Int) (hs : SigOkP rs) (vars : Int) : ∀ d c, (termV bs rs vars d c).1.length ≤ 4 ^ d
  | 0, c => by simp [termV, leafV_len]
  | d + 1, c => by
    have hp : 0 < 4 ^ d := Nat.pow_pos (by decide)
    unfold termV
    split
    · rw [leafV_len, Nat.pow_succ]; omega
    · have h1 := nodeU_len (fun c => termV_len bs rs hs vars d c) (belowV bs (belowC bs c 4) rs.length) (belowC bs (belowC bs c 4) rs.length) (rs.getD (belowV bs (belowC bs c 4) rs.length).toNat default).toNat
      have hl := hs.1
      have hv := belowV_lt bs (belowC bs c 4) (n := (rs.length : Int)) (by omega)
      have h2 := (hs.2 (belowV bs (belowC bs c 4) rs.length).toNat (by omega)).2
      have h3 : (rs.getD (belowV bs (belowC bs c 4) rs.length).toNat default).toNat ≤ 3 := by omega
      have h4 := Nat.mul_le_mul_right (4 ^ d) h3
      rw [Nat.pow_succ]; omega
theorem nodeU_s1 (T : Cu → List Int × Cu) (f : Int) (c : Cu) (k : Nat) : (nodeU T f c (k + 1)).1 = (nodeU T f c k).1 ++ (T (nodeU T f c k).2).1 := rfl
theorem nodeU_s2 (T : Cu → List Int × Cu) (f : Int) (c : Cu) (k : Nat) : (nodeU T f c (k + 1)).2 = (T (nodeU T f c k).2).2 := rfl
theorem nodeU_z (T : Cu → List Int × Cu) (f : Int) (c : Cu) : nodeU T f c 0 = ([f], c) := rfl
theorem constD_z (rs : List Int) : constD rs 0 = [-1] := rfl
theorem constD_y {rs : List Int} {f : Nat} (h : rs.getD f default = 0) : constD rs (f + 1) = [(f : Int)] := if_pos h
theorem constD_n {rs : List Int} {f : Nat} (h : ¬ rs.getD f default = 0) : constD rs (f + 1) = constD rs f := if_neg h
attribute [local irreducible] nodeU belowV belowC byteV nextC mixH constD
def kp71 : List (Nat × List Nat) := [(0, [0, 2, 3, 5]), (1, [0, 2, 3, 5, 18]), (2, [0, 3, 5, 24]), (3, [8]), (4, [5, 9]), (5, [5, 9, 35]), (7, [5, 9, 43]), (8, [8]), (6, [5, 9]), (9, [8]), (10, [0, 2, 3, 5, 10]), (11, [0, 2, 3, 5, 10, 11]), (12, [0, 2, 3, 5, 11, 12]), (13, [0, 2, 3, 5, 11, 12, 60]), (15, [0, 2, 3, 5, 11, 12]), (14, [0, 2, 3, 5, 11, 12]), (16, [8])]
attribute [go_sem] kp71
theorem l1DrawTerm_fc (bs : List Int) (hb : BytesP bs) (rs : List Int) (hs : SigOkP rs) (vars : Int) (hv : 0 ≤ vars ∧ vars ≤ 3) (id : Nat) : ∀ (d : Nat), d ≤ 3 → ∀ c : Cu, FC S 71 [] [(id + 1000, [.sl .any (bs.map (.int .u8)), .int .i64 (c).i, .int .i64 (c).h])] [] [.box (id + 1000) 0, .agg [.sl .any (rs.map (.int .i64))], .int .i64 ((d : Int) + 1), .int .i64 vars] (.sl (.own 0 2 1) ((termV bs rs vars d c).1.map (.int .i64))) [(id + 1000, [.sl .any (bs.map (.int .u8)), .int .i64 ((termV bs rs vars d c).2).i, .int .i64 ((termV bs rs vars d c).2).h])] [0] := by
  intro d
  have hl := hs.1
  induction d with
  | zero =>
    intro _ c
    simp only [termV]
    have c2 := l1Once_fc (id + 1000) bs hb c 2 (by omega)
    have c3 := l1Below_fc (id + 1000) bs hb (belowC bs c 2) vars (by omega)
    have b3 := fun h : 0 < vars => belowV_lt bs (belowC bs c 2) h
    by_cases hv0 : 0 < vars
    · have b3 := b3 hv0
      rcases Classical.em (belowV bs c 2 = 0) with h2 | h2
      · simp only [leafV, if_pos hv0, if_pos h2]
        refine fc_body1 Try.func71 rfl (by kernel_rfl) (by simp [Try.f71]) fun B => ?_
        simp only [Try.ntmps71, enumD, List.map_nil, List.map_cons, List.length_map, Nat.zero_add, Nat.reduceAdd]
        repeat' first
          | ((exfalso; omega))
          | ((refine sw_goB (id := 3) 0 kp71 4 30000 rfl fun K hK => ?_))
          | ((refine sw_goB (id := 8) 0 kp71 1 46000 rfl fun K hK => ?_))
          | ((refine sw_goB (id := 9) 0 kp71 0 47000 rfl fun K hK => ?_))
          | ((refine ⟨_, _, _, rfl, rfl, rfl, ⟨⟨by simp only [Nat.reduceLT], by decide, by decide, by decide⟩, rfl, by simp [D.strip, strip1, D.cells, D.memOk, TyI.size]⟩, rfl, by simp only [Nat.reduceLT], ?_⟩; simp only [go_sem]))
          | exact Bool.noConfusion h
          | refine sw_seq ?_
          | refine sw_block ?_
          | refine sw_skip ?_
          | refine sw_inBlock ?_
          | refine sw_go 0 kp71 fun K hK => ?_
          | refine fun (K : List Oper → LS → Prop) (hK : KOk S 0 _ _ _ K) => ?_
          | ((first | refine runL_go ?_ | refine runQ_go ?_); simp (disch := (refine Om.mk ?_; omega)) only [go_sem])
          | (refine hK.nil ?_; clear hK K; simp only [go_sem])
          | (refine runG_fork rfl rfl rfl rfl rfl (fun h => ?_) (fun h => ?_) <;> (try simp (disch := (refine Om.mk ?_; omega)) only [go_sem] at h))
          | (refine hK.skip rfl (by simp only [dstOk, Nat.reduceLT]) ?_)
          | (refine sw_cond rfl (fun h => ?_) (fun h => ?_) <;> (try simp (disch := (refine Om.mk ?_; omega)) only [go_sem] at h))
          | (refine sw_exit rfl ?_)
          | (refine sw_loopEnd ?_)
          | ((first | refine sw_ret (ret0 ?_) | refine sw_ret ?_); simp (disch := (refine Om.mk ?_; omega)) only [go_sem, Try.results71])
          | (refine hK.callB rfl rfl rfl (c2) ⟨⟨by simp only [Nat.reduceLT], (by first | (simp; all_goals fail) | (simp [LS.getBox, Lg.look]; all_goals fail)), by (simp [Lg.look]; all_goals fail), by (simp; all_goals fail), by (simp; all_goals fail)⟩, ⟨by (simp [D.ids, D.idsL]; all_goals fail), by (simp [D.ids, D.idsL]; all_goals fail), by (simp [D.tks, D.tksL]; all_goals fail), by (simp [D.tks, D.tksL]; all_goals fail), by (simp; all_goals fail)⟩, rfl⟩ ?_; simp (disch := (refine Om.mk ?_; omega)) only [go_sem])
          | (refine hK.callB rfl rfl rfl (c3) ⟨⟨by simp only [Nat.reduceLT], (by first | (simp; all_goals fail) | (simp [LS.getBox, Lg.look]; all_goals fail)), by (simp [Lg.look]; all_goals fail), by (simp; all_goals fail), by (simp; all_goals fail)⟩, ⟨by (simp [D.ids, D.idsL]; all_goals fail), by (simp [D.ids, D.idsL]; all_goals fail), by (simp [D.tks, D.tksL]; all_goals fail), by (simp [D.tks, D.tksL]; all_goals fail), by (simp; all_goals fail)⟩, rfl⟩ ?_; simp (disch := (refine Om.mk ?_; omega)) only [go_sem])
          | (refine hK.fork rfl rfl rfl (fun h => ?_) (fun h => ?_) <;> (try simp (disch := (refine Om.mk ?_; omega)) only [go_sem] at h))
          | (with_reducible refine And.intro (by first | omega | (simp only [List.length_append, List.length_take, List.length_drop, List.length_cons, List.length_nil, List.length_map]; omega)) ?_)
          | ((with_reducible refine And.intro ?_ ?_); · first | (intro x hx; subst hx; rfl) | exact upR_mem fun _ _ => rfl | exact mapR_mem fun _ _ => rfl | (intro x; refine And.intro ?_ ?_ <;> (intros; subst_vars; rfl)))
          | fail
        all_goals exact ret1_ownB rfl (by simp) (by simp [Lg.look]) (by simp [D.tksL, D.tks])
      · simp only [leafV, if_pos hv0, if_neg h2]
        refine fc_body1 Try.func71 rfl (by kernel_rfl) (by simp [Try.f71]) fun B => ?_
        simp only [Try.ntmps71, enumD, List.map_nil, List.map_cons, List.length_map, Nat.zero_add, Nat.reduceAdd]
        repeat' first
          | ((exfalso; omega))
          | ((refine sw_goB (id := 3) 0 kp71 4 30000 rfl fun K hK => ?_))
          | ((refine sw_goB (id := 8) 0 kp71 1 46000 rfl fun K hK => ?_))
          | ((refine sw_goB (id := 9) 0 kp71 0 47000 rfl fun K hK => ?_))
          | ((refine ⟨_, _, _, rfl, rfl, rfl, ⟨⟨by simp only [Nat.reduceLT], by decide, by decide, by decide⟩, rfl, by simp [D.strip, strip1, D.cells, D.memOk, TyI.size]⟩, rfl, by simp only [Nat.reduceLT], ?_⟩; simp only [go_sem]))
          | exact Bool.noConfusion h
          | refine sw_seq ?_
          | refine sw_block ?_
          | refine sw_skip ?_
          | refine sw_inBlock ?_
          | refine sw_go 0 kp71 fun K hK => ?_
          | refine fun (K : List Oper → LS → Prop) (hK : KOk S 0 _ _ _ K) => ?_
          | ((first | refine runL_go ?_ | refine runQ_go ?_); simp (disch := (refine Om.mk ?_; omega)) only [go_sem])
          | (refine hK.nil ?_; clear hK K; simp only [go_sem])
          | (refine runG_fork rfl rfl rfl rfl rfl (fun h => ?_) (fun h => ?_) <;> (try simp (disch := (refine Om.mk ?_; omega)) only [go_sem] at h))
          | (refine hK.skip rfl (by simp only [dstOk, Nat.reduceLT]) ?_)
          | (refine sw_cond rfl (fun h => ?_) (fun h => ?_) <;> (try simp (disch := (refine Om.mk ?_; omega)) only [go_sem] at h))
          | (refine sw_exit rfl ?_)
          | (refine sw_loopEnd ?_)
          | ((first | refine sw_ret (ret0 ?_) | refine sw_ret ?_); simp (disch := (refine Om.mk ?_; omega)) only [go_sem, Try.results71])
          | (refine hK.callB rfl rfl rfl (c2) ⟨⟨by simp only [Nat.reduceLT], (by first | (simp; all_goals fail) | (simp [LS.getBox, Lg.look]; all_goals fail)), by (simp [Lg.look]; all_goals fail), by (simp; all_goals fail), by (simp; all_goals fail)⟩, ⟨by (simp [D.ids, D.idsL]; all_goals fail), by (simp [D.ids, D.idsL]; all_goals fail), by (simp [D.tks, D.tksL]; all_goals fail), by (simp [D.tks, D.tksL]; all_goals fail), by (simp; all_goals fail)⟩, rfl⟩ ?_; simp (disch := (refine Om.mk ?_; omega)) only [go_sem])
          | (refine hK.fork rfl rfl rfl (fun h => ?_) (fun h => ?_) <;> (try simp (disch := (refine Om.mk ?_; omega)) only [go_sem] at h))
          | (with_reducible refine And.intro (by first | omega | (simp only [List.length_append, List.length_take, List.length_drop, List.length_cons, List.length_nil, List.length_map]; omega)) ?_)
          | ((with_reducible refine And.intro ?_ ?_); · first | (intro x hx; subst hx; rfl) | exact upR_mem fun _ _ => rfl | exact mapR_mem fun _ _ => rfl | (intro x; refine And.intro ?_ ?_ <;> (intros; subst_vars; rfl)))
          | fail
        refine sw_loopU (ι := Nat) (fun p => [(9, .int .i64 ((p : Int) - 1))]) (fun p => []) (fun p => p ≤ rs.length ∧ constD rs rs.length = constD rs p) (fun p => p) rs.length (by (refine covers_mk0 rfl rfl ?_ ?_ ?_ ?_ <;> simp (disch := (refine Om.mk ?_; omega)) only [go_sem] <;> (try omega))) ⟨Nat.le_refl _, rfl⟩ (fun p hp => ?_)
        simp only [go_sem]
        obtain ⟨hp1, hp2⟩ := hp
        rw [hp2]
        rcases p with _ | p
        · rw [constD_z]
          repeat' first
            | ((exfalso; omega))
            | ((refine sw_goB (id := 3) 0 kp71 4 30000 rfl fun K hK => ?_))
            | ((refine sw_goB (id := 8) 0 kp71 1 46000 rfl fun K hK => ?_))
            | ((refine sw_goB (id := 9) 0 kp71 0 47000 rfl fun K hK => ?_))
            | ((refine ⟨_, _, _, rfl, rfl, rfl, ⟨⟨by simp only [Nat.reduceLT], by decide, by decide, by decide⟩, rfl, by simp [D.strip, strip1, D.cells, D.memOk, TyI.size]⟩, rfl, by simp only [Nat.reduceLT], ?_⟩; simp only [go_sem]))
            | exact Bool.noConfusion h
            | refine sw_seq ?_
            | refine sw_block ?_
            | refine sw_skip ?_
            | refine sw_inBlock ?_
            | refine sw_go 0 kp71 fun K hK => ?_
            | refine fun (K : List Oper → LS → Prop) (hK : KOk S 0 _ _ _ K) => ?_
            | ((first | refine runL_go ?_ | refine runQ_go ?_); simp (disch := (refine Om.mk ?_; omega)) only [go_sem])
            | (refine hK.nil ?_; clear hK K; simp only [go_sem])
            | (refine runG_fork rfl rfl rfl rfl rfl (fun h => ?_) (fun h => ?_) <;> (try simp (disch := (refine Om.mk ?_; omega)) only [go_sem] at h))
            | (refine hK.skip rfl (by simp only [dstOk, Nat.reduceLT]) ?_)
            | (refine sw_cond rfl (fun h => ?_) (fun h => ?_) <;> (try simp (disch := (refine Om.mk ?_; omega)) only [go_sem] at h))
            | (refine sw_exit rfl ?_)
            | (refine sw_loopEnd ?_)
            | ((first | refine sw_ret (ret0 ?_) | refine sw_ret ?_); simp (disch := (refine Om.mk ?_; omega)) only [go_sem, Try.results71])
            | (refine hK.fork rfl rfl rfl (fun h => ?_) (fun h => ?_) <;> (try simp (disch := (refine Om.mk ?_; omega)) only [go_sem] at h))
            | (with_reducible refine And.intro (by first | omega | (simp only [List.length_append, List.length_take, List.length_drop, List.length_cons, List.length_nil, List.length_map]; omega)) ?_)
            | ((with_reducible refine And.intro ?_ ?_); · first | (intro x hx; subst hx; rfl) | exact upR_mem fun _ _ => rfl | exact mapR_mem fun _ _ => rfl | (intro x; refine And.intro ?_ ?_ <;> (intros; subst_vars; rfl)))
            | fail
          all_goals exact ret1_ownB rfl (by simp) (by simp [Lg.look]) (by simp [D.tksL, D.tks])
        · have ep : (((p + 1 : Nat) : Int)) - 1 = (p : Int) := by omega
          have hpl : p < rs.length := by omega
          rw [ep]
          rcases Classical.em (rs.getD p default = 0) with hz | hz
          · rw [constD_y hz]
            repeat' first
              | ((exfalso; omega))
              | ((refine sw_goB (id := 3) 0 kp71 4 30000 rfl fun K hK => ?_))
              | ((refine sw_goB (id := 8) 0 kp71 1 46000 rfl fun K hK => ?_))
              | ((refine sw_goB (id := 9) 0 kp71 0 47000 rfl fun K hK => ?_))
              | ((refine ⟨_, _, _, rfl, rfl, rfl, ⟨⟨by simp only [Nat.reduceLT], by decide, by decide, by decide⟩, rfl, by simp [D.strip, strip1, D.cells, D.memOk, TyI.size]⟩, rfl, by simp only [Nat.reduceLT], ?_⟩; simp only [go_sem]))
              | exact Bool.noConfusion h
              | refine sw_seq ?_
              | refine sw_block ?_
              | refine sw_skip ?_
              | refine sw_inBlock ?_
              | refine sw_go 0 kp71 fun K hK => ?_
              | refine fun (K : List Oper → LS → Prop) (hK : KOk S 0 _ _ _ K) => ?_
              | ((first | refine runL_go ?_ | refine runQ_go ?_); simp (disch := (refine Om.mk ?_; omega)) only [go_sem])
              | (refine hK.nil ?_; clear hK K; simp only [go_sem])
              | (refine runG_fork rfl rfl rfl rfl rfl (fun h => ?_) (fun h => ?_) <;> (try simp (disch := (refine Om.mk ?_; omega)) only [go_sem] at h))
              | (refine hK.skip rfl (by simp only [dstOk, Nat.reduceLT]) ?_)
              | (refine sw_cond rfl (fun h => ?_) (fun h => ?_) <;> (try simp (disch := (refine Om.mk ?_; omega)) only [go_sem] at h))
              | (refine sw_exit rfl ?_)
              | (refine sw_loopEnd ?_)
              | ((first | refine sw_ret (ret0 ?_) | refine sw_ret ?_); simp (disch := (refine Om.mk ?_; omega)) only [go_sem, Try.results71])
              | (refine hK.fork rfl rfl rfl (fun h => ?_) (fun h => ?_) <;> (try simp (disch := (refine Om.mk ?_; omega)) only [go_sem] at h))
              | (with_reducible refine And.intro (by first | omega | (simp only [List.length_append, List.length_take, List.length_drop, List.length_cons, List.length_nil, List.length_map]; omega)) ?_)
              | ((with_reducible refine And.intro ?_ ?_); · first | (intro x hx; subst hx; rfl) | exact upR_mem fun _ _ => rfl | exact mapR_mem fun _ _ => rfl | (intro x; refine And.intro ?_ ?_ <;> (intros; subst_vars; rfl)))
              | fail
            all_goals first | exact ret1_ownB rfl (by simp) (by simp [Lg.look]) (by simp [D.tksL, D.tks]) | (exfalso; exact absurd hz (by assumption)) | trace_state
          · rw [constD_n hz]
            repeat' first
              | ((exfalso; omega))
              | ((refine sw_goB (id := 3) 0 kp71 4 30000 rfl fun K hK => ?_))
              | ((refine sw_goB (id := 8) 0 kp71 1 46000 rfl fun K hK => ?_))
              | ((refine sw_goB (id := 9) 0 kp71 0 47000 rfl fun K hK => ?_))
              | ((refine ⟨_, _, _, rfl, rfl, rfl, ⟨⟨by simp only [Nat.reduceLT], by decide, by decide, by decide⟩, rfl, by simp [D.strip, strip1, D.cells, D.memOk, TyI.size]⟩, rfl, by simp only [Nat.reduceLT], ?_⟩; simp only [go_sem]))
              | exact Bool.noConfusion h
              | refine sw_seq ?_
              | refine sw_block ?_
              | refine sw_skip ?_
              | refine sw_inBlock ?_
              | refine sw_go 0 kp71 fun K hK => ?_
              | refine fun (K : List Oper → LS → Prop) (hK : KOk S 0 _ _ _ K) => ?_
              | ((first | refine runL_go ?_ | refine runQ_go ?_); simp (disch := (refine Om.mk ?_; omega)) only [go_sem])
              | (refine hK.nil ?_; clear hK K; simp only [go_sem])
              | (refine runG_fork rfl rfl rfl rfl rfl (fun h => ?_) (fun h => ?_) <;> (try simp (disch := (refine Om.mk ?_; omega)) only [go_sem] at h))
              | (refine hK.skip rfl (by simp only [dstOk, Nat.reduceLT]) ?_)
              | (refine sw_cond rfl (fun h => ?_) (fun h => ?_) <;> (try simp (disch := (refine Om.mk ?_; omega)) only [go_sem] at h))
              | (refine sw_exit rfl ?_)
              | (refine sw_loopEnd ?_)
              | ((first | refine sw_ret (ret0 ?_) | refine sw_ret ?_); simp (disch := (refine Om.mk ?_; omega)) only [go_sem, Try.results71])
              | (refine hK.fork rfl rfl rfl (fun h => ?_) (fun h => ?_) <;> (try simp (disch := (refine Om.mk ?_; omega)) only [go_sem] at h))
              | (with_reducible refine And.intro (by first | omega | (simp only [List.length_append, List.length_take, List.length_drop, List.length_cons, List.length_nil, List.length_map]; omega)) ?_)
              | ((with_reducible refine And.intro ?_ ?_); · first | (intro x hx; subst hx; rfl) | exact upR_mem fun _ _ => rfl | exact mapR_mem fun _ _ => rfl | (intro x; refine And.intro ?_ ?_ <;> (intros; subst_vars; rfl)))
              | fail
            all_goals first | exact ⟨p, (by (refine covers_mk0 rfl rfl ?_ ?_ ?_ ?_ <;> simp (disch := (refine Om.mk ?_; omega)) only [go_sem] <;> (try omega))), ⟨by omega, by rw [hp2, constD_n hz]⟩, by omega⟩ | exact ⟨p, (by (refine covers_mk0 rfl rfl ?_ ?_ ?_ ?_ <;> simp (disch := (refine Om.mk ?_; omega)) only [go_sem] <;> (try omega))), ⟨by omega, rfl⟩, by omega⟩ | (exfalso; exact hz (by assumption)) | trace_state
    · simp only [leafV, if_neg hv0]
      refine fc_body1 Try.func71 rfl (by kernel_rfl) (by simp [Try.f71]) fun B => ?_
      simp only [Try.ntmps71, enumD, List.map_nil, List.map_cons, List.length_map, Nat.zero_add, Nat.reduceAdd]
      repeat' first
        | ((exfalso; omega))
        | ((refine sw_goB (id := 3) 0 kp71 4 30000 rfl fun K hK => ?_))
        | ((refine sw_goB (id := 8) 0 kp71 1 46000 rfl fun K hK => ?_))
        | ((refine sw_goB (id := 9) 0 kp71 0 47000 rfl fun K hK => ?_))
        | ((refine ⟨_, _, _, rfl, rfl, rfl, ⟨⟨by simp only [Nat.reduceLT], by decide, by decide, by decide⟩, rfl, by simp [D.strip, strip1, D.cells, D.memOk, TyI.size]⟩, rfl, by simp only [Nat.reduceLT], ?_⟩; simp only [go_sem]))
        | exact Bool.noConfusion h
        | refine sw_seq ?_
        | refine sw_block ?_
        | refine sw_skip ?_
        | refine sw_inBlock ?_
        | refine sw_go 0 kp71 fun K hK => ?_
        | refine fun (K : List Oper → LS → Prop) (hK : KOk S 0 _ _ _ K) => ?_
        | ((first | refine runL_go ?_ | refine runQ_go ?_); simp (disch := (refine Om.mk ?_; omega)) only [go_sem])
        | (refine hK.nil ?_; clear hK K; simp only [go_sem])
        | (refine runG_fork rfl rfl rfl rfl rfl (fun h => ?_) (fun h => ?_) <;> (try simp (disch := (refine Om.mk ?_; omega)) only [go_sem] at h))
        | (refine hK.skip rfl (by simp only [dstOk, Nat.reduceLT]) ?_)
        | (refine sw_cond rfl (fun h => ?_) (fun h => ?_) <;> (try simp (disch := (refine Om.mk ?_; omega)) only [go_sem] at h))
        | (refine sw_exit rfl ?_)
        | (refine sw_loopEnd ?_)
        | ((first | refine sw_ret (ret0 ?_) | refine sw_ret ?_); simp (disch := (refine Om.mk ?_; omega)) only [go_sem, Try.results71])
        | (refine hK.callB rfl rfl rfl (c2) ⟨⟨by simp only [Nat.reduceLT], (by first | (simp; all_goals fail) | (simp [LS.getBox, Lg.look]; all_goals fail)), by (simp [Lg.look]; all_goals fail), by (simp; all_goals fail), by (simp; all_goals fail)⟩, ⟨by (simp [D.ids, D.idsL]; all_goals fail), by (simp [D.ids, D.idsL]; all_goals fail), by (simp [D.tks, D.tksL]; all_goals fail), by (simp [D.tks, D.tksL]; all_goals fail), by (simp; all_goals fail)⟩, rfl⟩ ?_; simp (disch := (refine Om.mk ?_; omega)) only [go_sem])
        | (refine hK.fork rfl rfl rfl (fun h => ?_) (fun h => ?_) <;> (try simp (disch := (refine Om.mk ?_; omega)) only [go_sem] at h))
        | (with_reducible refine And.intro (by first | omega | (simp only [List.length_append, List.length_take, List.length_drop, List.length_cons, List.length_nil, List.length_map]; omega)) ?_)
        | ((with_reducible refine And.intro ?_ ?_); · first | (intro x hx; subst hx; rfl) | exact upR_mem fun _ _ => rfl | exact mapR_mem fun _ _ => rfl | (intro x; refine And.intro ?_ ?_ <;> (intros; subst_vars; rfl)))
        | fail
      refine sw_loopU (ι := Nat) (fun p => [(9, .int .i64 ((p : Int) - 1))]) (fun p => []) (fun p => p ≤ rs.length ∧ constD rs rs.length = constD rs p) (fun p => p) rs.length (by (refine covers_mk0 rfl rfl ?_ ?_ ?_ ?_ <;> simp (disch := (refine Om.mk ?_; omega)) only [go_sem] <;> (try omega))) ⟨Nat.le_refl _, rfl⟩ (fun p hp => ?_)
      simp only [go_sem]
      obtain ⟨hp1, hp2⟩ := hp
      rw [hp2]
      rcases p with _ | p
      · rw [constD_z]
        repeat' first
          | ((exfalso; omega))
          | ((refine sw_goB (id := 3) 0 kp71 4 30000 rfl fun K hK => ?_))
          | ((refine sw_goB (id := 8) 0 kp71 1 46000 rfl fun K hK => ?_))
          | ((refine sw_goB (id := 9) 0 kp71 0 47000 rfl fun K hK => ?_))
          | ((refine ⟨_, _, _, rfl, rfl, rfl, ⟨⟨by simp only [Nat.reduceLT], by decide, by decide, by decide⟩, rfl, by simp [D.strip, strip1, D.cells, D.memOk, TyI.size]⟩, rfl, by simp only [Nat.reduceLT], ?_⟩; simp only [go_sem]))
          | exact Bool.noConfusion h
          | refine sw_seq ?_
          | refine sw_block ?_
          | refine sw_skip ?_
          | refine sw_inBlock ?_
          | refine sw_go 0 kp71 fun K hK => ?_
          | refine fun (K : List Oper → LS → Prop) (hK : KOk S 0 _ _ _ K) => ?_
          | ((first | refine runL_go ?_ | refine runQ_go ?_); simp (disch := (refine Om.mk ?_; omega)) only [go_sem])
          | (refine hK.nil ?_; clear hK K; simp only [go_sem])
          | (refine runG_fork rfl rfl rfl rfl rfl (fun h => ?_) (fun h => ?_) <;> (try simp (disch := (refine Om.mk ?_; omega)) only [go_sem] at h))
          | (refine hK.skip rfl (by simp only [dstOk, Nat.reduceLT]) ?_)
          | (refine sw_cond rfl (fun h => ?_) (fun h => ?_) <;> (try simp (disch := (refine Om.mk ?_; omega)) only [go_sem] at h))
          | (refine sw_exit rfl ?_)
          | (refine sw_loopEnd ?_)
          | ((first | refine sw_ret (ret0 ?_) | refine sw_ret ?_); simp (disch := (refine Om.mk ?_; omega)) only [go_sem, Try.results71])
          | (refine hK.fork rfl rfl rfl (fun h => ?_) (fun h => ?_) <;> (try simp (disch := (refine Om.mk ?_; omega)) only [go_sem] at h))
          | (with_reducible refine And.intro (by first | omega | (simp only [List.length_append, List.length_take, List.length_drop, List.length_cons, List.length_nil, List.length_map]; omega)) ?_)
          | ((with_reducible refine And.intro ?_ ?_); · first | (intro x hx; subst hx; rfl) | exact upR_mem fun _ _ => rfl | exact mapR_mem fun _ _ => rfl | (intro x; refine And.intro ?_ ?_ <;> (intros; subst_vars; rfl)))
          | fail
        all_goals exact ret1_ownB rfl (by simp) (by simp [Lg.look]) (by simp [D.tksL, D.tks])
      · have ep : (((p + 1 : Nat) : Int)) - 1 = (p : Int) := by omega
        have hpl : p < rs.length := by omega
        rw [ep]
        rcases Classical.em (rs.getD p default = 0) with hz | hz
        · rw [constD_y hz]
          repeat' first
            | ((exfalso; omega))
            | ((refine sw_goB (id := 3) 0 kp71 4 30000 rfl fun K hK => ?_))
            | ((refine sw_goB (id := 8) 0 kp71 1 46000 rfl fun K hK => ?_))
            | ((refine sw_goB (id := 9) 0 kp71 0 47000 rfl fun K hK => ?_))
            | ((refine ⟨_, _, _, rfl, rfl, rfl, ⟨⟨by simp only [Nat.reduceLT], by decide, by decide, by decide⟩, rfl, by simp [D.strip, strip1, D.cells, D.memOk, TyI.size]⟩, rfl, by simp only [Nat.reduceLT], ?_⟩; simp only [go_sem]))
            | exact Bool.noConfusion h
            | refine sw_seq ?_
            | refine sw_block ?_
            | refine sw_skip ?_
            | refine sw_inBlock ?_
            | refine sw_go 0 kp71 fun K hK => ?_
            | refine fun (K : List Oper → LS → Prop) (hK : KOk S 0 _ _ _ K) => ?_
            | ((first | refine runL_go ?_ | refine runQ_go ?_); simp (disch := (refine Om.mk ?_; omega)) only [go_sem])
            | (refine hK.nil ?_; clear hK K; simp only [go_sem])
            | (refine runG_fork rfl rfl rfl rfl rfl (fun h => ?_) (fun h => ?_) <;> (try simp (disch := (refine Om.mk ?_; omega)) only [go_sem] at h))
            | (refine hK.skip rfl (by simp only [dstOk, Nat.reduceLT]) ?_)
            | (refine sw_cond rfl (fun h => ?_) (fun h => ?_) <;> (try simp (disch := (refine Om.mk ?_; omega)) only [go_sem] at h))
            | (refine sw_exit rfl ?_)
            | (refine sw_loopEnd ?_)
            | ((first | refine sw_ret (ret0 ?_) | refine sw_ret ?_); simp (disch := (refine Om.mk ?_; omega)) only [go_sem, Try.results71])
            | (refine hK.fork rfl rfl rfl (fun h => ?_) (fun h => ?_) <;> (try simp (disch := (refine Om.mk ?_; omega)) only [go_sem] at h))
            | (with_reducible refine And.intro (by first | omega | (simp only [List.length_append, List.length_take, List.length_drop, List.length_cons, List.length_nil, List.length_map]; omega)) ?_)
            | ((with_reducible refine And.intro ?_ ?_); · first | (intro x hx; subst hx; rfl) | exact upR_mem fun _ _ => rfl | exact mapR_mem fun _ _ => rfl | (intro x; refine And.intro ?_ ?_ <;> (intros; subst_vars; rfl)))
            | fail
          all_goals first | exact ret1_ownB rfl (by simp) (by simp [Lg.look]) (by simp [D.tksL, D.tks]) | (exfalso; exact absurd hz (by assumption)) | trace_state
        · rw [constD_n hz]
          repeat' first
            | ((exfalso; omega))
            | ((refine sw_goB (id := 3) 0 kp71 4 30000 rfl fun K hK => ?_))
            | ((refine sw_goB (id := 8) 0 kp71 1 46000 rfl fun K hK => ?_))
            | ((refine sw_goB (id := 9) 0 kp71 0 47000 rfl fun K hK => ?_))
            | ((refine ⟨_, _, _, rfl, rfl, rfl, ⟨⟨by simp only [Nat.reduceLT], by decide, by decide, by decide⟩, rfl, by simp [D.strip, strip1, D.cells, D.memOk, TyI.size]⟩, rfl, by simp only [Nat.reduceLT], ?_⟩; simp only [go_sem]))
            | exact Bool.noConfusion h
            | refine sw_seq ?_
            | refine sw_block ?_
            | refine sw_skip ?_
            | refine sw_inBlock ?_
            | refine sw_go 0 kp71 fun K hK => ?_
            | refine fun (K : List Oper → LS → Prop) (hK : KOk S 0 _ _ _ K) => ?_
            | ((first | refine runL_go ?_ | refine runQ_go ?_); simp (disch := (refine Om.mk ?_; omega)) only [go_sem])
            | (refine hK.nil ?_; clear hK K; simp only [go_sem])
            | (refine runG_fork rfl rfl rfl rfl rfl (fun h => ?_) (fun h => ?_) <;> (try simp (disch := (refine Om.mk ?_; omega)) only [go_sem] at h))
            | (refine hK.skip rfl (by simp only [dstOk, Nat.reduceLT]) ?_)
            | (refine sw_cond rfl (fun h => ?_) (fun h => ?_) <;> (try simp (disch := (refine Om.mk ?_; omega)) only [go_sem] at h))
            | (refine sw_exit rfl ?_)
            | (refine sw_loopEnd ?_)
            | ((first | refine sw_ret (ret0 ?_) | refine sw_ret ?_); simp (disch := (refine Om.mk ?_; omega)) only [go_sem, Try.results71])
            | (refine hK.fork rfl rfl rfl (fun h => ?_) (fun h => ?_) <;> (try simp (disch := (refine Om.mk ?_; omega)) only [go_sem] at h))
            | (with_reducible refine And.intro (by first | omega | (simp only [List.length_append, List.length_take, List.length_drop, List.length_cons, List.length_nil, List.length_map]; omega)) ?_)
            | ((with_reducible refine And.intro ?_ ?_); · first | (intro x hx; subst hx; rfl) | exact upR_mem fun _ _ => rfl | exact mapR_mem fun _ _ => rfl | (intro x; refine And.intro ?_ ?_ <;> (intros; subst_vars; rfl)))
            | fail
          all_goals first | exact ⟨p, (by (refine covers_mk0 rfl rfl ?_ ?_ ?_ ?_ <;> simp (disch := (refine Om.mk ?_; omega)) only [go_sem] <;> (try omega))), ⟨by omega, by rw [hp2, constD_n hz]⟩, by omega⟩ | exact ⟨p, (by (refine covers_mk0 rfl rfl ?_ ?_ ?_ ?_ <;> simp (disch := (refine Om.mk ?_; omega)) only [go_sem] <;> (try omega))), ⟨by omega, rfl⟩, by omega⟩ | (exfalso; exact hz (by assumption)) | trace_state
  | succ d ih =>
    intro hd c
    have c4 := l1Once_fc (id + 1000) bs hb c 4 (by omega)
    rcases Classical.em (belowV bs c 4 = 0) with h4 | h4
    · simp only [termV, if_pos h4]
      have c2 := l1Once_fc (id + 1000) bs hb (belowC bs c 4) 2 (by omega)
      have c3 := l1Below_fc (id + 1000) bs hb (belowC bs (belowC bs c 4) 2) vars (by omega)
      have b3 := fun h : 0 < vars => belowV_lt bs (belowC bs (belowC bs c 4) 2) h
      by_cases hv0 : 0 < vars
      · have b3 := b3 hv0
        rcases Classical.em (belowV bs (belowC bs c 4) 2 = 0) with h2 | h2
        · simp only [leafV, if_pos hv0, if_pos h2]
          refine fc_body1 Try.func71 rfl (by kernel_rfl) (by simp [Try.f71]) fun B => ?_
          simp only [Try.ntmps71, enumD, List.map_nil, List.map_cons, List.length_map, Nat.zero_add, Nat.reduceAdd]
          repeat' first
            | ((exfalso; omega))
            | ((refine sw_goB (id := 3) 0 kp71 4 30000 rfl fun K hK => ?_))
            | ((refine sw_goB (id := 8) 0 kp71 1 46000 rfl fun K hK => ?_))
            | ((refine sw_goB (id := 9) 0 kp71 0 47000 rfl fun K hK => ?_))
            | ((refine ⟨_, _, _, rfl, rfl, rfl, ⟨⟨by simp only [Nat.reduceLT], by decide, by decide, by decide⟩, rfl, by simp [D.strip, strip1, D.cells, D.memOk, TyI.size]⟩, rfl, by simp only [Nat.reduceLT], ?_⟩; simp only [go_sem]))
            | exact Bool.noConfusion h
            | refine sw_seq ?_
            | refine sw_block ?_
            | refine sw_skip ?_
            | refine sw_inBlock ?_
            | refine sw_go 0 kp71 fun K hK => ?_
            | refine fun (K : List Oper → LS → Prop) (hK : KOk S 0 _ _ _ K) => ?_
            | ((first | refine runL_go ?_ | refine runQ_go ?_); simp (disch := (refine Om.mk ?_; omega)) only [go_sem])
            | (refine hK.nil ?_; clear hK K; simp only [go_sem])
            | (refine runG_fork rfl rfl rfl rfl rfl (fun h => ?_) (fun h => ?_) <;> (try simp (disch := (refine Om.mk ?_; omega)) only [go_sem] at h))
            | (refine hK.skip rfl (by simp only [dstOk, Nat.reduceLT]) ?_)
            | (refine sw_cond rfl (fun h => ?_) (fun h => ?_) <;> (try simp (disch := (refine Om.mk ?_; omega)) only [go_sem] at h))
            | (refine sw_exit rfl ?_)
            | (refine sw_loopEnd ?_)
            | ((first | refine sw_ret (ret0 ?_) | refine sw_ret ?_); simp (disch := (refine Om.mk ?_; omega)) only [go_sem, Try.results71])
            | (refine hK.callB rfl rfl rfl (c4) ⟨⟨by simp only [Nat.reduceLT], (by first | (simp; all_goals fail) | (simp [LS.getBox, Lg.look]; all_goals fail)), by (simp [Lg.look]; all_goals fail), by (simp; all_goals fail), by (simp; all_goals fail)⟩, ⟨by (simp [D.ids, D.idsL]; all_goals fail), by (simp [D.ids, D.idsL]; all_goals fail), by (simp [D.tks, D.tksL]; all_goals fail), by (simp [D.tks, D.tksL]; all_goals fail), by (simp; all_goals fail)⟩, rfl⟩ ?_; simp (disch := (refine Om.mk ?_; omega)) only [go_sem])
            | (refine hK.callB rfl rfl rfl (c2) ⟨⟨by simp only [Nat.reduceLT], (by first | (simp; all_goals fail) | (simp [LS.getBox, Lg.look]; all_goals fail)), by (simp [Lg.look]; all_goals fail), by (simp; all_goals fail), by (simp; all_goals fail)⟩, ⟨by (simp [D.ids, D.idsL]; all_goals fail), by (simp [D.ids, D.idsL]; all_goals fail), by (simp [D.tks, D.tksL]; all_goals fail), by (simp [D.tks, D.tksL]; all_goals fail), by (simp; all_goals fail)⟩, rfl⟩ ?_; simp (disch := (refine Om.mk ?_; omega)) only [go_sem])
            | (refine hK.callB rfl rfl rfl (c3) ⟨⟨by simp only [Nat.reduceLT], (by first | (simp; all_goals fail) | (simp [LS.getBox, Lg.look]; all_goals fail)), by (simp [Lg.look]; all_goals fail), by (simp; all_goals fail), by (simp; all_goals fail)⟩, ⟨by (simp [D.ids, D.idsL]; all_goals fail), by (simp [D.ids, D.idsL]; all_goals fail), by (simp [D.tks, D.tksL]; all_goals fail), by (simp [D.tks, D.tksL]; all_goals fail), by (simp; all_goals fail)⟩, rfl⟩ ?_; simp (disch := (refine Om.mk ?_; omega)) only [go_sem])
            | (refine hK.fork rfl rfl rfl (fun h => ?_) (fun h => ?_) <;> (try simp (disch := (refine Om.mk ?_; omega)) only [go_sem] at h))
            | (with_reducible refine And.intro (by first | omega | (simp only [List.length_append, List.length_take, List.length_drop, List.length_cons, List.length_nil, List.length_map]; omega)) ?_)
            | ((with_reducible refine And.intro ?_ ?_); · first | (intro x hx; subst hx; rfl) | exact upR_mem fun _ _ => rfl | exact mapR_mem fun _ _ => rfl | (intro x; refine And.intro ?_ ?_ <;> (intros; subst_vars; rfl)))
            | fail
          all_goals exact ret1_ownB rfl (by simp) (by simp [Lg.look]) (by simp [D.tksL, D.tks])
        · simp only [leafV, if_pos hv0, if_neg h2]
          refine fc_body1 Try.func71 rfl (by kernel_rfl) (by simp [Try.f71]) fun B => ?_
          simp only [Try.ntmps71, enumD, List.map_nil, List.map_cons, List.length_map, Nat.zero_add, Nat.reduceAdd]
          repeat' first
            | ((exfalso; omega))
            | ((refine sw_goB (id := 3) 0 kp71 4 30000 rfl fun K hK => ?_))
            | ((refine sw_goB (id := 8) 0 kp71 1 46000 rfl fun K hK => ?_))
            | ((refine sw_goB (id := 9) 0 kp71 0 47000 rfl fun K hK => ?_))
            | ((refine ⟨_, _, _, rfl, rfl, rfl, ⟨⟨by simp only [Nat.reduceLT], by decide, by decide, by decide⟩, rfl, by simp [D.strip, strip1, D.cells, D.memOk, TyI.size]⟩, rfl, by simp only [Nat.reduceLT], ?_⟩; simp only [go_sem]))
            | exact Bool.noConfusion h
            | refine sw_seq ?_
            | refine sw_block ?_
            | refine sw_skip ?_
            | refine sw_inBlock ?_
            | refine sw_go 0 kp71 fun K hK => ?_
            | refine fun (K : List Oper → LS → Prop) (hK : KOk S 0 _ _ _ K) => ?_
            | ((first | refine runL_go ?_ | refine runQ_go ?_); simp (disch := (refine Om.mk ?_; omega)) only [go_sem])
            | (refine hK.nil ?_; clear hK K; simp only [go_sem])
            | (refine runG_fork rfl rfl rfl rfl rfl (fun h => ?_) (fun h => ?_) <;> (try simp (disch := (refine Om.mk ?_; omega)) only [go_sem] at h))
            | (refine hK.skip rfl (by simp only [dstOk, Nat.reduceLT]) ?_)
            | (refine sw_cond rfl (fun h => ?_) (fun h => ?_) <;> (try simp (disch := (refine Om.mk ?_; omega)) only [go_sem] at h))
            | (refine sw_exit rfl ?_)
            | (refine sw_loopEnd ?_)
            | ((first | refine sw_ret (ret0 ?_) | refine sw_ret ?_); simp (disch := (refine Om.mk ?_; omega)) only [go_sem, Try.results71])
            | (refine hK.callB rfl rfl rfl (c4) ⟨⟨by simp only [Nat.reduceLT], (by first | (simp; all_goals fail) | (simp [LS.getBox, Lg.look]; all_goals fail)), by (simp [Lg.look]; all_goals fail), by (simp; all_goals fail), by (simp; all_goals fail)⟩, ⟨by (simp [D.ids, D.idsL]; all_goals fail), by (simp [D.ids, D.idsL]; all_goals fail), by (simp [D.tks, D.tksL]; all_goals fail), by (simp [D.tks, D.tksL]; all_goals fail), by (simp; all_goals fail)⟩, rfl⟩ ?_; simp (disch := (refine Om.mk ?_; omega)) only [go_sem])
            | (refine hK.callB rfl rfl rfl (c2) ⟨⟨by simp only [Nat.reduceLT], (by first | (simp; all_goals fail) | (simp [LS.getBox, Lg.look]; all_goals fail)), by (simp [Lg.look]; all_goals fail), by (simp; all_goals fail), by (simp; all_goals fail)⟩, ⟨by (simp [D.ids, D.idsL]; all_goals fail), by (simp [D.ids, D.idsL]; all_goals fail), by (simp [D.tks, D.tksL]; all_goals fail), by (simp [D.tks, D.tksL]; all_goals fail), by (simp; all_goals fail)⟩, rfl⟩ ?_; simp (disch := (refine Om.mk ?_; omega)) only [go_sem])
            | (refine hK.fork rfl rfl rfl (fun h => ?_) (fun h => ?_) <;> (try simp (disch := (refine Om.mk ?_; omega)) only [go_sem] at h))
            | (with_reducible refine And.intro (by first | omega | (simp only [List.length_append, List.length_take, List.length_drop, List.length_cons, List.length_nil, List.length_map]; omega)) ?_)
            | ((with_reducible refine And.intro ?_ ?_); · first | (intro x hx; subst hx; rfl) | exact upR_mem fun _ _ => rfl | exact mapR_mem fun _ _ => rfl | (intro x; refine And.intro ?_ ?_ <;> (intros; subst_vars; rfl)))
            | fail
          refine sw_loopU (ι := Nat) (fun p => [(9, .int .i64 ((p : Int) - 1))]) (fun p => []) (fun p => p ≤ rs.length ∧ constD rs rs.length = constD rs p) (fun p => p) rs.length (by (refine covers_mk0 rfl rfl ?_ ?_ ?_ ?_ <;> simp (disch := (refine Om.mk ?_; omega)) only [go_sem] <;> (try omega))) ⟨Nat.le_refl _, rfl⟩ (fun p hp => ?_)
          simp only [go_sem]
          obtain ⟨hp1, hp2⟩ := hp
          rw [hp2]
          rcases p with _ | p
          · rw [constD_z]
            repeat' first
              | ((exfalso; omega))
              | ((refine sw_goB (id := 3) 0 kp71 4 30000 rfl fun K hK => ?_))
              | ((refine sw_goB (id := 8) 0 kp71 1 46000 rfl fun K hK => ?_))
              | ((refine sw_goB (id := 9) 0 kp71 0 47000 rfl fun K hK => ?_))
              | ((refine ⟨_, _, _, rfl, rfl, rfl, ⟨⟨by simp only [Nat.reduceLT], by decide, by decide, by decide⟩, rfl, by simp [D.strip, strip1, D.cells, D.memOk, TyI.size]⟩, rfl, by simp only [Nat.reduceLT], ?_⟩; simp only [go_sem]))
              | exact Bool.noConfusion h
              | refine sw_seq ?_
              | refine sw_block ?_
              | refine sw_skip ?_
              | refine sw_inBlock ?_
              | refine sw_go 0 kp71 fun K hK => ?_
              | refine fun (K : List Oper → LS → Prop) (hK : KOk S 0 _ _ _ K) => ?_
              | ((first | refine runL_go ?_ | refine runQ_go ?_); simp (disch := (refine Om.mk ?_; omega)) only [go_sem])
              | (refine hK.nil ?_; clear hK K; simp only [go_sem])
              | (refine runG_fork rfl rfl rfl rfl rfl (fun h => ?_) (fun h => ?_) <;> (try simp (disch := (refine Om.mk ?_; omega)) only [go_sem] at h))
              | (refine hK.skip rfl (by simp only [dstOk, Nat.reduceLT]) ?_)
              | (refine sw_cond rfl (fun h => ?_) (fun h => ?_) <;> (try simp (disch := (refine Om.mk ?_; omega)) only [go_sem] at h))
              | (refine sw_exit rfl ?_)
              | (refine sw_loopEnd ?_)
              | ((first | refine sw_ret (ret0 ?_) | refine sw_ret ?_); simp (disch := (refine Om.mk ?_; omega)) only [go_sem, Try.results71])
              | (refine hK.fork rfl rfl rfl (fun h => ?_) (fun h => ?_) <;> (try simp (disch := (refine Om.mk ?_; omega)) only [go_sem] at h))
              | (with_reducible refine And.intro (by first | omega | (simp only [List.length_append, List.length_take, List.length_drop, List.length_cons, List.length_nil, List.length_map]; omega)) ?_)
              | ((with_reducible refine And.intro ?_ ?_); · first | (intro x hx; subst hx; rfl) | exact upR_mem fun _ _ => rfl | exact mapR_mem fun _ _ => rfl | (intro x; refine And.intro ?_ ?_ <;> (intros; subst_vars; rfl)))
              | fail
            all_goals exact ret1_ownB rfl (by simp) (by simp [Lg.look]) (by simp [D.tksL, D.tks])
          · have ep : (((p + 1 : Nat) : Int)) - 1 = (p : Int) := by omega
            have hpl : p < rs.length := by omega
            rw [ep]
            rcases Classical.em (rs.getD p default = 0) with hz | hz
            · rw [constD_y hz]
              repeat' first
                | ((exfalso; omega))
                | ((refine sw_goB (id := 3) 0 kp71 4 30000 rfl fun K hK => ?_))
                | ((refine sw_goB (id := 8) 0 kp71 1 46000 rfl fun K hK => ?_))
                | ((refine sw_goB (id := 9) 0 kp71 0 47000 rfl fun K hK => ?_))
                | ((refine ⟨_, _, _, rfl, rfl, rfl, ⟨⟨by simp only [Nat.reduceLT], by decide, by decide, by decide⟩, rfl, by simp [D.strip, strip1, D.cells, D.memOk, TyI.size]⟩, rfl, by simp only [Nat.reduceLT], ?_⟩; simp only [go_sem]))
                | exact Bool.noConfusion h
                | refine sw_seq ?_
                | refine sw_block ?_
                | refine sw_skip ?_
                | refine sw_inBlock ?_
                | refine sw_go 0 kp71 fun K hK => ?_
                | refine fun (K : List Oper → LS → Prop) (hK : KOk S 0 _ _ _ K) => ?_
                | ((first | refine runL_go ?_ | refine runQ_go ?_); simp (disch := (refine Om.mk ?_; omega)) only [go_sem])
                | (refine hK.nil ?_; clear hK K; simp only [go_sem])
                | (refine runG_fork rfl rfl rfl rfl rfl (fun h => ?_) (fun h => ?_) <;> (try simp (disch := (refine Om.mk ?_; omega)) only [go_sem] at h))
                | (refine hK.skip rfl (by simp only [dstOk, Nat.reduceLT]) ?_)
                | (refine sw_cond rfl (fun h => ?_) (fun h => ?_) <;> (try simp (disch := (refine Om.mk ?_; omega)) only [go_sem] at h))
                | (refine sw_exit rfl ?_)
                | (refine sw_loopEnd ?_)
                | ((first | refine sw_ret (ret0 ?_) | refine sw_ret ?_); simp (disch := (refine Om.mk ?_; omega)) only [go_sem, Try.results71])
                | (refine hK.fork rfl rfl rfl (fun h => ?_) (fun h => ?_) <;> (try simp (disch := (refine Om.mk ?_; omega)) only [go_sem] at h))
                | (with_reducible refine And.intro (by first | omega | (simp only [List.length_append, List.length_take, List.length_drop, List.length_cons, List.length_nil, List.length_map]; omega)) ?_)
                | ((with_reducible refine And.intro ?_ ?_); · first | (intro x hx; subst hx; rfl) | exact upR_mem fun _ _ => rfl | exact mapR_mem fun _ _ => rfl | (intro x; refine And.intro ?_ ?_ <;> (intros; subst_vars; rfl)))
                | fail
              all_goals first | exact ret1_ownB rfl (by simp) (by simp [Lg.look]) (by simp [D.tksL, D.tks]) | (exfalso; exact absurd hz (by assumption)) | trace_state
            · rw [constD_n hz]
              repeat' first
                | ((exfalso; omega))
                | ((refine sw_goB (id := 3) 0 kp71 4 30000 rfl fun K hK => ?_))
                | ((refine sw_goB (id := 8) 0 kp71 1 46000 rfl fun K hK => ?_))
                | ((refine sw_goB (id := 9) 0 kp71 0 47000 rfl fun K hK => ?_))
                | ((refine ⟨_, _, _, rfl, rfl, rfl, ⟨⟨by simp only [Nat.reduceLT], by decide, by decide, by decide⟩, rfl, by simp [D.strip, strip1, D.cells, D.memOk, TyI.size]⟩, rfl, by simp only [Nat.reduceLT], ?_⟩; simp only [go_sem]))
                | exact Bool.noConfusion h
                | refine sw_seq ?_
                | refine sw_block ?_
                | refine sw_skip ?_
                | refine sw_inBlock ?_
                | refine sw_go 0 kp71 fun K hK => ?_
                | refine fun (K : List Oper → LS → Prop) (hK : KOk S 0 _ _ _ K) => ?_
                | ((first | refine runL_go ?_ | refine runQ_go ?_); simp (disch := (refine Om.mk ?_; omega)) only [go_sem])
                | (refine hK.nil ?_; clear hK K; simp only [go_sem])
                | (refine runG_fork rfl rfl rfl rfl rfl (fun h => ?_) (fun h => ?_) <;> (try simp (disch := (refine Om.mk ?_; omega)) only [go_sem] at h))
                | (refine hK.skip rfl (by simp only [dstOk, Nat.reduceLT]) ?_)
                | (refine sw_cond rfl (fun h => ?_) (fun h => ?_) <;> (try simp (disch := (refine Om.mk ?_; omega)) only [go_sem] at h))
                | (refine sw_exit rfl ?_)
                | (refine sw_loopEnd ?_)
                | ((first | refine sw_ret (ret0 ?_) | refine sw_ret ?_); simp (disch := (refine Om.mk ?_; omega)) only [go_sem, Try.results71])
                | (refine hK.fork rfl rfl rfl (fun h => ?_) (fun h => ?_) <;> (try simp (disch := (refine Om.mk ?_; omega)) only [go_sem] at h))
                | (with_reducible refine And.intro (by first | omega | (simp only [List.length_append, List.length_take, List.length_drop, List.length_cons, List.length_nil, List.length_map]; omega)) ?_)
                | ((with_reducible refine And.intro ?_ ?_); · first | (intro x hx; subst hx; rfl) | exact upR_mem fun _ _ => rfl | exact mapR_mem fun _ _ => rfl | (intro x; refine And.intro ?_ ?_ <;> (intros; subst_vars; rfl)))
                | fail
              all_goals first | exact ⟨p, (by (refine covers_mk0 rfl rfl ?_ ?_ ?_ ?_ <;> simp (disch := (refine Om.mk ?_; omega)) only [go_sem] <;> (try omega))), ⟨by omega, by rw [hp2, constD_n hz]⟩, by omega⟩ | exact ⟨p, (by (refine covers_mk0 rfl rfl ?_ ?_ ?_ ?_ <;> simp (disch := (refine Om.mk ?_; omega)) only [go_sem] <;> (try omega))), ⟨by omega, rfl⟩, by omega⟩ | (exfalso; exact hz (by assumption)) | trace_state
      · simp only [leafV, if_neg hv0]
        refine fc_body1 Try.func71 rfl (by kernel_rfl) (by simp [Try.f71]) fun B => ?_
        simp only [Try.ntmps71, enumD, List.map_nil, List.map_cons, List.length_map, Nat.zero_add, Nat.reduceAdd]
        repeat' first
          | ((exfalso; omega))
          | ((refine sw_goB (id := 3) 0 kp71 4 30000 rfl fun K hK => ?_))
          | ((refine sw_goB (id := 8) 0 kp71 1 46000 rfl fun K hK => ?_))
          | ((refine sw_goB (id := 9) 0 kp71 0 47000 rfl fun K hK => ?_))
          | ((refine ⟨_, _, _, rfl, rfl, rfl, ⟨⟨by simp only [Nat.reduceLT], by decide, by decide, by decide⟩, rfl, by simp [D.strip, strip1, D.cells, D.memOk, TyI.size]⟩, rfl, by simp only [Nat.reduceLT], ?_⟩; simp only [go_sem]))
          | exact Bool.noConfusion h
          | refine sw_seq ?_
          | refine sw_block ?_
          | refine sw_skip ?_
          | refine sw_inBlock ?_
          | refine sw_go 0 kp71 fun K hK => ?_
          | refine fun (K : List Oper → LS → Prop) (hK : KOk S 0 _ _ _ K) => ?_
          | ((first | refine runL_go ?_ | refine runQ_go ?_); simp (disch := (refine Om.mk ?_; omega)) only [go_sem])
          | (refine hK.nil ?_; clear hK K; simp only [go_sem])
          | (refine runG_fork rfl rfl rfl rfl rfl (fun h => ?_) (fun h => ?_) <;> (try simp (disch := (refine Om.mk ?_; omega)) only [go_sem] at h))
          | (refine hK.skip rfl (by simp only [dstOk, Nat.reduceLT]) ?_)
          | (refine sw_cond rfl (fun h => ?_) (fun h => ?_) <;> (try simp (disch := (refine Om.mk ?_; omega)) only [go_sem] at h))
          | (refine sw_exit rfl ?_)
          | (refine sw_loopEnd ?_)
          | ((first | refine sw_ret (ret0 ?_) | refine sw_ret ?_); simp (disch := (refine Om.mk ?_; omega)) only [go_sem, Try.results71])
          | (refine hK.callB rfl rfl rfl (c4) ⟨⟨by simp only [Nat.reduceLT], (by first | (simp; all_goals fail) | (simp [LS.getBox, Lg.look]; all_goals fail)), by (simp [Lg.look]; all_goals fail), by (simp; all_goals fail), by (simp; all_goals fail)⟩, ⟨by (simp [D.ids, D.idsL]; all_goals fail), by (simp [D.ids, D.idsL]; all_goals fail), by (simp [D.tks, D.tksL]; all_goals fail), by (simp [D.tks, D.tksL]; all_goals fail), by (simp; all_goals fail)⟩, rfl⟩ ?_; simp (disch := (refine Om.mk ?_; omega)) only [go_sem])
          | (refine hK.callB rfl rfl rfl (c2) ⟨⟨by simp only [Nat.reduceLT], (by first | (simp; all_goals fail) | (simp [LS.getBox, Lg.look]; all_goals fail)), by (simp [Lg.look]; all_goals fail), by (simp; all_goals fail), by (simp; all_goals fail)⟩, ⟨by (simp [D.ids, D.idsL]; all_goals fail), by (simp [D.ids, D.idsL]; all_goals fail), by (simp [D.tks, D.tksL]; all_goals fail), by (simp [D.tks, D.tksL]; all_goals fail), by (simp; all_goals fail)⟩, rfl⟩ ?_; simp (disch := (refine Om.mk ?_; omega)) only [go_sem])
          | (refine hK.fork rfl rfl rfl (fun h => ?_) (fun h => ?_) <;> (try simp (disch := (refine Om.mk ?_; omega)) only [go_sem] at h))
          | (with_reducible refine And.intro (by first | omega | (simp only [List.length_append, List.length_take, List.length_drop, List.length_cons, List.length_nil, List.length_map]; omega)) ?_)
          | ((with_reducible refine And.intro ?_ ?_); · first | (intro x hx; subst hx; rfl) | exact upR_mem fun _ _ => rfl | exact mapR_mem fun _ _ => rfl | (intro x; refine And.intro ?_ ?_ <;> (intros; subst_vars; rfl)))
          | fail
        refine sw_loopU (ι := Nat) (fun p => [(9, .int .i64 ((p : Int) - 1))]) (fun p => []) (fun p => p ≤ rs.length ∧ constD rs rs.length = constD rs p) (fun p => p) rs.length (by (refine covers_mk0 rfl rfl ?_ ?_ ?_ ?_ <;> simp (disch := (refine Om.mk ?_; omega)) only [go_sem] <;> (try omega))) ⟨Nat.le_refl _, rfl⟩ (fun p hp => ?_)
        simp only [go_sem]
        obtain ⟨hp1, hp2⟩ := hp
        rw [hp2]
        rcases p with _ | p
        · rw [constD_z]
          repeat' first
            | ((exfalso; omega))
            | ((refine sw_goB (id := 3) 0 kp71 4 30000 rfl fun K hK => ?_))
            | ((refine sw_goB (id := 8) 0 kp71 1 46000 rfl fun K hK => ?_))
            | ((refine sw_goB (id := 9) 0 kp71 0 47000 rfl fun K hK => ?_))
            | ((refine ⟨_, _, _, rfl, rfl, rfl, ⟨⟨by simp only [Nat.reduceLT], by decide, by decide, by decide⟩, rfl, by simp [D.strip, strip1, D.cells, D.memOk, TyI.size]⟩, rfl, by simp only [Nat.reduceLT], ?_⟩; simp only [go_sem]))
            | exact Bool.noConfusion h
            | refine sw_seq ?_
            | refine sw_block ?_
            | refine sw_skip ?_
            | refine sw_inBlock ?_
            | refine sw_go 0 kp71 fun K hK => ?_
            | refine fun (K : List Oper → LS → Prop) (hK : KOk S 0 _ _ _ K) => ?_
            | ((first | refine runL_go ?_ | refine runQ_go ?_); simp (disch := (refine Om.mk ?_; omega)) only [go_sem])
            | (refine hK.nil ?_; clear hK K; simp only [go_sem])
            | (refine runG_fork rfl rfl rfl rfl rfl (fun h => ?_) (fun h => ?_) <;> (try simp (disch := (refine Om.mk ?_; omega)) only [go_sem] at h))
            | (refine hK.skip rfl (by simp only [dstOk, Nat.reduceLT]) ?_)
            | (refine sw_cond rfl (fun h => ?_) (fun h => ?_) <;> (try simp (disch := (refine Om.mk ?_; omega)) only [go_sem] at h))
            | (refine sw_exit rfl ?_)
            | (refine sw_loopEnd ?_)
            | ((first | refine sw_ret (ret0 ?_) | refine sw_ret ?_); simp (disch := (refine Om.mk ?_; omega)) only [go_sem, Try.results71])
            | (refine hK.fork rfl rfl rfl (fun h => ?_) (fun h => ?_) <;> (try simp (disch := (refine Om.mk ?_; omega)) only [go_sem] at h))
            | (with_reducible refine And.intro (by first | omega | (simp only [List.length_append, List.length_take, List.length_drop, List.length_cons, List.length_nil, List.length_map]; omega)) ?_)
            | ((with_reducible refine And.intro ?_ ?_); · first | (intro x hx; subst hx; rfl) | exact upR_mem fun _ _ => rfl | exact mapR_mem fun _ _ => rfl | (intro x; refine And.intro ?_ ?_ <;> (intros; subst_vars; rfl)))
            | fail
          all_goals exact ret1_ownB rfl (by simp) (by simp [Lg.look]) (by simp [D.tksL, D.tks])
        · have ep : (((p + 1 : Nat) : Int)) - 1 = (p : Int) := by omega
          have hpl : p < rs.length := by omega
          rw [ep]
          rcases Classical.em (rs.getD p default = 0) with hz | hz
          · rw [constD_y hz]
            repeat' first
              | ((exfalso; omega))
              | ((refine sw_goB (id := 3) 0 kp71 4 30000 rfl fun K hK => ?_))
              | ((refine sw_goB (id := 8) 0 kp71 1 46000 rfl fun K hK => ?_))
              | ((refine sw_goB (id := 9) 0 kp71 0 47000 rfl fun K hK => ?_))
              | ((refine ⟨_, _, _, rfl, rfl, rfl, ⟨⟨by simp only [Nat.reduceLT], by decide, by decide, by decide⟩, rfl, by simp [D.strip, strip1, D.cells, D.memOk, TyI.size]⟩, rfl, by simp only [Nat.reduceLT], ?_⟩; simp only [go_sem]))
              | exact Bool.noConfusion h
              | refine sw_seq ?_
              | refine sw_block ?_
              | refine sw_skip ?_
              | refine sw_inBlock ?_
              | refine sw_go 0 kp71 fun K hK => ?_
              | refine fun (K : List Oper → LS → Prop) (hK : KOk S 0 _ _ _ K) => ?_
              | ((first | refine runL_go ?_ | refine runQ_go ?_); simp (disch := (refine Om.mk ?_; omega)) only [go_sem])
              | (refine hK.nil ?_; clear hK K; simp only [go_sem])
              | (refine runG_fork rfl rfl rfl rfl rfl (fun h => ?_) (fun h => ?_) <;> (try simp (disch := (refine Om.mk ?_; omega)) only [go_sem] at h))
              | (refine hK.skip rfl (by simp only [dstOk, Nat.reduceLT]) ?_)
              | (refine sw_cond rfl (fun h => ?_) (fun h => ?_) <;> (try simp (disch := (refine Om.mk ?_; omega)) only [go_sem] at h))
              | (refine sw_exit rfl ?_)
              | (refine sw_loopEnd ?_)
              | ((first | refine sw_ret (ret0 ?_) | refine sw_ret ?_); simp (disch := (refine Om.mk ?_; omega)) only [go_sem, Try.results71])
              | (refine hK.fork rfl rfl rfl (fun h => ?_) (fun h => ?_) <;> (try simp (disch := (refine Om.mk ?_; omega)) only [go_sem] at h))
              | (with_reducible refine And.intro (by first | omega | (simp only [List.length_append, List.length_take, List.length_drop, List.length_cons, List.length_nil, List.length_map]; omega)) ?_)
              | ((with_reducible refine And.intro ?_ ?_); · first | (intro x hx; subst hx; rfl) | exact upR_mem fun _ _ => rfl | exact mapR_mem fun _ _ => rfl | (intro x; refine And.intro ?_ ?_ <;> (intros; subst_vars; rfl)))
              | fail
            all_goals first | exact ret1_ownB rfl (by simp) (by simp [Lg.look]) (by simp [D.tksL, D.tks]) | (exfalso; exact absurd hz (by assumption)) | trace_state
          · rw [constD_n hz]
            repeat' first
              | ((exfalso; omega))
              | ((refine sw_goB (id := 3) 0 kp71 4 30000 rfl fun K hK => ?_))
              | ((refine sw_goB (id := 8) 0 kp71 1 46000 rfl fun K hK => ?_))
              | ((refine sw_goB (id := 9) 0 kp71 0 47000 rfl fun K hK => ?_))
              | ((refine ⟨_, _, _, rfl, rfl, rfl, ⟨⟨by simp only [Nat.reduceLT], by decide, by decide, by decide⟩, rfl, by simp [D.strip, strip1, D.cells, D.memOk, TyI.size]⟩, rfl, by simp only [Nat.reduceLT], ?_⟩; simp only [go_sem]))
              | exact Bool.noConfusion h
              | refine sw_seq ?_
              | refine sw_block ?_
              | refine sw_skip ?_
              | refine sw_inBlock ?_
              | refine sw_go 0 kp71 fun K hK => ?_
              | refine fun (K : List Oper → LS → Prop) (hK : KOk S 0 _ _ _ K) => ?_
              | ((first | refine runL_go ?_ | refine runQ_go ?_); simp (disch := (refine Om.mk ?_; omega)) only [go_sem])
              | (refine hK.nil ?_; clear hK K; simp only [go_sem])
              | (refine runG_fork rfl rfl rfl rfl rfl (fun h => ?_) (fun h => ?_) <;> (try simp (disch := (refine Om.mk ?_; omega)) only [go_sem] at h))
              | (refine hK.skip rfl (by simp only [dstOk, Nat.reduceLT]) ?_)
              | (refine sw_cond rfl (fun h => ?_) (fun h => ?_) <;> (try simp (disch := (refine Om.mk ?_; omega)) only [go_sem] at h))
              | (refine sw_exit rfl ?_)
              | (refine sw_loopEnd ?_)
              | ((first | refine sw_ret (ret0 ?_) | refine sw_ret ?_); simp (disch := (refine Om.mk ?_; omega)) only [go_sem, Try.results71])
              | (refine hK.fork rfl rfl rfl (fun h => ?_) (fun h => ?_) <;> (try simp (disch := (refine Om.mk ?_; omega)) only [go_sem] at h))
              | (with_reducible refine And.intro (by first | omega | (simp only [List.length_append, List.length_take, List.length_drop, List.length_cons, List.length_nil, List.length_map]; omega)) ?_)
              | ((with_reducible refine And.intro ?_ ?_); · first | (intro x hx; subst hx; rfl) | exact upR_mem fun _ _ => rfl | exact mapR_mem fun _ _ => rfl | (intro x; refine And.intro ?_ ?_ <;> (intros; subst_vars; rfl)))
              | fail
            all_goals first | exact ⟨p, (by (refine covers_mk0 rfl rfl ?_ ?_ ?_ ?_ <;> simp (disch := (refine Om.mk ?_; omega)) only [go_sem] <;> (try omega))), ⟨by omega, by rw [hp2, constD_n hz]⟩, by omega⟩ | exact ⟨p, (by (refine covers_mk0 rfl rfl ?_ ?_ ?_ ?_ <;> simp (disch := (refine Om.mk ?_; omega)) only [go_sem] <;> (try omega))), ⟨by omega, rfl⟩, by omega⟩ | (exfalso; exact hz (by assumption)) | trace_state
    · simp only [termV, if_neg h4]
      have hvf := belowV_lt bs (belowC bs c 4) (n := (rs.length : Int)) (by omega)
      have cB := l1Below_fc (id + 1000) bs hb (belowC bs c 4) rs.length (by omega)
      obtain ⟨f0, hf0, hfl⟩ : ∃ f0 : Nat, belowV bs (belowC bs c 4) rs.length = (f0 : Int) ∧ f0 < rs.length := ⟨(belowV bs (belowC bs c 4) rs.length).toNat, by omega, by omega⟩
      rw [hf0] at cB
      rw [hf0, Int.toNat_natCast]
      have hr := hs.2 f0 hfl
      obtain ⟨ar, har⟩ : ∃ ar : Nat, rs.getD f0 default = (ar : Int) := ⟨(rs.getD f0 default).toNat, by omega⟩
      rw [har, Int.toNat_natCast]
      generalize belowC bs (belowC bs c 4) rs.length = c' at cB ⊢
      have h4d : 4 ^ d ≤ 64 := Nat.le_trans (Nat.pow_le_pow_right (by decide) (show d ≤ 3 by omega)) (by decide)
      refine fc_body1 Try.func71 rfl (by kernel_rfl) (by simp [Try.f71]) fun B => ?_
      simp only [Try.ntmps71, enumD, List.map_nil, List.map_cons, List.length_map, Nat.zero_add, Nat.reduceAdd]
      repeat' first
        | ((exfalso; omega))
        | ((refine sw_goB (id := 11) 0 kp71 1 71000 rfl fun K hK => ?_))
        | ((refine ⟨_, _, _, rfl, rfl, rfl, ⟨⟨by simp only [Nat.reduceLT], by decide, by decide, by decide⟩, rfl, by simp [D.strip, strip1, D.cells, D.memOk, TyI.size]⟩, rfl, by simp only [Nat.reduceLT], ?_⟩; simp only [go_sem]))
        | ((rw [har]; simp only [go_sem]))
        | exact Bool.noConfusion h
        | refine sw_seq ?_
        | refine sw_block ?_
        | refine sw_skip ?_
        | refine sw_inBlock ?_
        | refine sw_go 0 kp71 fun K hK => ?_
        | refine fun (K : List Oper → LS → Prop) (hK : KOk S 0 _ _ _ K) => ?_
        | ((first | refine runL_go ?_ | refine runQ_go ?_); simp (disch := (refine Om.mk ?_; omega)) only [go_sem])
        | (refine hK.nil ?_; clear hK K; simp only [go_sem])
        | (refine runG_fork rfl rfl rfl rfl rfl (fun h => ?_) (fun h => ?_) <;> (try simp (disch := (refine Om.mk ?_; omega)) only [go_sem] at h))
        | (refine hK.skip rfl (by simp only [dstOk, Nat.reduceLT]) ?_)
        | (refine sw_cond rfl (fun h => ?_) (fun h => ?_) <;> (try simp (disch := (refine Om.mk ?_; omega)) only [go_sem] at h))
        | (refine sw_exit rfl ?_)
        | (refine sw_loopEnd ?_)
        | ((first | refine sw_ret (ret0 ?_) | refine sw_ret ?_); simp (disch := (refine Om.mk ?_; omega)) only [go_sem, Try.results71])
        | (refine hK.callB rfl rfl rfl (c4) ⟨⟨by simp only [Nat.reduceLT], (by first | (simp; all_goals fail) | (simp [LS.getBox, Lg.look]; all_goals fail)), by (simp [Lg.look]; all_goals fail), by (simp; all_goals fail), by (simp; all_goals fail)⟩, ⟨by (simp [D.ids, D.idsL]; all_goals fail), by (simp [D.ids, D.idsL]; all_goals fail), by (simp [D.tks, D.tksL]; all_goals fail), by (simp [D.tks, D.tksL]; all_goals fail), by (simp; all_goals fail)⟩, rfl⟩ ?_; simp (disch := (refine Om.mk ?_; omega)) only [go_sem])
        | (refine hK.callB rfl rfl rfl (cB) ⟨⟨by simp only [Nat.reduceLT], (by first | (simp; all_goals fail) | (simp [LS.getBox, Lg.look]; all_goals fail)), by (simp [Lg.look]; all_goals fail), by (simp; all_goals fail), by (simp; all_goals fail)⟩, ⟨by (simp [D.ids, D.idsL]; all_goals fail), by (simp [D.ids, D.idsL]; all_goals fail), by (simp [D.tks, D.tksL]; all_goals fail), by (simp [D.tks, D.tksL]; all_goals fail), by (simp; all_goals fail)⟩, rfl⟩ ?_; simp (disch := (refine Om.mk ?_; omega)) only [go_sem])
        | (refine hK.fork rfl rfl rfl (fun h => ?_) (fun h => ?_) <;> (try simp (disch := (refine Om.mk ?_; omega)) only [go_sem] at h))
        | (with_reducible refine And.intro (by first | omega | (simp only [List.length_append, List.length_take, List.length_drop, List.length_cons, List.length_nil, List.length_map]; omega)) ?_)
        | ((with_reducible refine And.intro ?_ ?_); · first | (intro x hx; subst hx; rfl) | exact upR_mem fun _ _ => rfl | exact mapR_mem fun _ _ => rfl | (intro x; refine And.intro ?_ ?_ <;> (intros; subst_vars; rfl)))
        | fail
      refine sw_loopT (ι := Nat) (fun k => [(12, .int .i64 ((ar : Int) - k)), (11, .sl (.own 71000 2 1) ((nodeU (termV bs rs vars d) f0 c' k).1.map (.int .i64)))]) (fun k => [(id + 1000, [.sl .any (bs.map (.int .u8)), .int .i64 ((nodeU (termV bs rs vars d) f0 c' k).2).i, .int .i64 ((nodeU (termV bs rs vars d) f0 c' k).2).h])]) (fun _ => [71000]) (fun k => k ≤ ar) (fun k => ar - k) 0 (by rw [nodeU_z]; (refine covers_mk0 rfl rfl ?_ ?_ ?_ ?_ <;> simp (disch := (refine Om.mk ?_; omega)) only [go_sem] <;> (try omega)); all_goals first | rfl | exact ⟨rfl, rfl⟩ | omega | trace_state) (by omega) (fun k hk => ?_)
      simp only [go_sem]
      have hl1 := nodeU_len (fun c => termV_len bs rs hs vars d c) f0 c' k
      have hkm : k * 4 ^ d ≤ 3 * 64 := Nat.mul_le_mul (by omega) h4d
      have hl2 := termV_len bs rs hs vars d (nodeU (termV bs rs vars d) f0 c' k).2
      have hs1 := nodeU_s1 (termV bs rs vars d) f0 c' k
      have hs2 := nodeU_s2 (termV bs rs vars d) f0 c' k
      have ih' := ih (by omega) (nodeU (termV bs rs vars d) f0 c' k).2
      have ed : (d : Int) + 1 = (((d + 1 : Nat)) : Int) := by omega
      rw [ed] at ih'
      by_cases hk2 : k < ar
      · generalize nodeU (termV bs rs vars d) f0 c' k = p at *
        repeat' first
          | ((exfalso; omega))
          | ((refine ⟨(by simp), by omega, by omega, ?_⟩))
          | exact Bool.noConfusion h
          | refine sw_seq ?_
          | refine sw_block ?_
          | refine sw_skip ?_
          | refine sw_inBlock ?_
          | refine sw_go 0 kp71 fun K hK => ?_
          | refine fun (K : List Oper → LS → Prop) (hK : KOk S 0 _ _ _ K) => ?_
          | ((first | refine runL_go ?_ | refine runQ_go ?_); simp (disch := (refine Om.mk ?_; omega)) only [go_sem])
          | (refine hK.nil ?_; clear hK K; simp only [go_sem])
          | (refine runG_fork rfl rfl rfl rfl rfl (fun h => ?_) (fun h => ?_) <;> (try simp (disch := (refine Om.mk ?_; omega)) only [go_sem] at h))
          | (refine hK.skip rfl (by simp only [dstOk, Nat.reduceLT]) ?_)
          | (refine sw_cond rfl (fun h => ?_) (fun h => ?_) <;> (try simp (disch := (refine Om.mk ?_; omega)) only [go_sem] at h))
          | (refine sw_exit rfl ?_)
          | (refine sw_loopEnd ?_)
          | ((first | refine sw_ret (ret0 ?_) | refine sw_ret ?_); simp (disch := (refine Om.mk ?_; omega)) only [go_sem, Try.results71])
          | (refine hK.callB rfl rfl rfl (ih') ⟨⟨by simp only [Nat.reduceLT], (by first | (simp; all_goals fail) | (simp [LS.getBox, Lg.look]; all_goals fail)), by (simp [Lg.look]; all_goals fail), by (simp; all_goals fail), by (simp; all_goals fail)⟩, ⟨by (simp [D.ids, D.idsL]; all_goals fail), by (simp [D.ids, D.idsL]; all_goals fail), by (simp [D.tks, D.tksL]; all_goals fail), by (simp [D.tks, D.tksL]; all_goals fail), by (simp; all_goals fail)⟩, rfl⟩ ?_; simp (disch := (refine Om.mk ?_; omega)) only [go_sem])
          | (refine hK.fork rfl rfl rfl (fun h => ?_) (fun h => ?_) <;> (try simp (disch := (refine Om.mk ?_; omega)) only [go_sem] at h))
          | (with_reducible refine And.intro (by first | omega | (simp only [List.length_append, List.length_take, List.length_drop, List.length_cons, List.length_nil, List.length_map]; omega)) ?_)
          | ((with_reducible refine And.intro ?_ ?_); · first | (intro x hx; subst hx; rfl) | exact upR_mem fun _ _ => rfl | exact mapR_mem fun _ _ => rfl | (intro x; refine And.intro ?_ ?_ <;> (intros; subst_vars; rfl)))
          | fail
        refine ⟨k + 1, ?_, by omega, by omega⟩
        rw [hs1, hs2]
        exact (by (refine covers_mk0 rfl rfl ?_ ?_ ?_ ?_ <;> simp (disch := (refine Om.mk ?_; omega)) only [go_sem] <;> (try omega)); all_goals first | rfl | exact ⟨rfl, rfl⟩ | exact ⟨by omega, rfl⟩ | omega | trace_state)
      · have ek : k = ar := by omega
        subst ek
        repeat' first
          | ((exfalso; omega))
          | exact Bool.noConfusion h
          | refine sw_seq ?_
          | refine sw_block ?_
          | refine sw_skip ?_
          | refine sw_inBlock ?_
          | refine sw_go 0 kp71 fun K hK => ?_
          | refine fun (K : List Oper → LS → Prop) (hK : KOk S 0 _ _ _ K) => ?_
          | ((first | refine runL_go ?_ | refine runQ_go ?_); simp (disch := (refine Om.mk ?_; omega)) only [go_sem])
          | (refine hK.nil ?_; clear hK K; simp only [go_sem])
          | (refine runG_fork rfl rfl rfl rfl rfl (fun h => ?_) (fun h => ?_) <;> (try simp (disch := (refine Om.mk ?_; omega)) only [go_sem] at h))
          | (refine hK.skip rfl (by simp only [dstOk, Nat.reduceLT]) ?_)
          | (refine sw_cond rfl (fun h => ?_) (fun h => ?_) <;> (try simp (disch := (refine Om.mk ?_; omega)) only [go_sem] at h))
          | (refine sw_exit rfl ?_)
          | (refine sw_loopEnd ?_)
          | ((first | refine sw_ret (ret0 ?_) | refine sw_ret ?_); simp (disch := (refine Om.mk ?_; omega)) only [go_sem, Try.results71])
          | (refine hK.fork rfl rfl rfl (fun h => ?_) (fun h => ?_) <;> (try simp (disch := (refine Om.mk ?_; omega)) only [go_sem] at h))
          | (with_reducible refine And.intro (by first | omega | (simp only [List.length_append, List.length_take, List.length_drop, List.length_cons, List.length_nil, List.length_map]; omega)) ?_)
          | ((with_reducible refine And.intro ?_ ?_); · first | (intro x hx; subst hx; rfl) | exact upR_mem fun _ _ => rfl | exact mapR_mem fun _ _ => rfl | (intro x; refine And.intro ?_ ?_ <;> (intros; subst_vars; rfl)))
          | fail
        all_goals exact ret1_ownB rfl (by simp) (by simp [Lg.look]) (by simp [D.tksL, D.tks])
end Go.Proofs.Ytfokjjlbdaabaaa
