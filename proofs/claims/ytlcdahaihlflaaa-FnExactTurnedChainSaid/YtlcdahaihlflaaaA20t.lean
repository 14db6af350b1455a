/-
  Chains turned round: the plain law; the specification's side.
-/
import Derived.Test.YtlcdahaihlflaaaA20k
namespace Go.Proofs.Ytlcdahaihlflaaa
open Go Go.Lg
set_option linter.unusedSimpArgs false
set_option linter.unusedVariables false
set_option maxHeartbeats 4000000
attribute [local irreducible] SW runL runQ runG runQG FC Ret1
def tmv (a : ChainT) (i : Nat) : MoveT := { a.moves.getD i default with back := !(a.moves.getD i default).back, to := curT a i }
def turnL (a : ChainT) (j : Nat) : List MoveT := (List.range j).map fun k => tmv a (a.moves.length - 1 - k)
def turnC (a : ChainT) : ChainT := ⟨curT a a.moves.length, turnL a a.moves.length⟩
open Classical in
noncomputable def turnR (rs : List Int) (es : List EqT) (a : ChainT) : ChainT := if ChainP rs es a then turnC a else ⟨[], []⟩
theorem turnR_yes {rs : List Int} {es : List EqT} {a : ChainT} (h : ChainP rs es a) : turnR rs es a = turnC a := if_pos h
theorem turnR_no {rs : List Int} {es : List EqT} {a : ChainT} (h : ¬ ChainP rs es a) : turnR rs es a = ⟨[], []⟩ := if_neg h
theorem turnL_len (a : ChainT) (j : Nat) : (turnL a j).length = j := by simp [turnL]
theorem turnL_succ (a : ChainT) (k : Nat) (h : k < a.moves.length) : turnL a (a.moves.length - k) = turnL a (a.moves.length - (k + 1)) ++ [tmv a k] := by
  unfold turnL
  rw [show a.moves.length - k = (a.moves.length - (k + 1)) + 1 by omega, List.range_succ, List.map_append, List.map_cons, List.map_nil, show a.moves.length - 1 - (a.moves.length - (k + 1)) = k by omega]
theorem curT_len {a : ChainT} (h : LenP a) : ∀ i ≤ a.moves.length, 1 ≤ (curT a i).length ∧ (curT a i).length ≤ 60
  | 0, _ => h.1
  | i + 1, hi => h.2 _ (getD_mem a.moves i (by omega))
theorem turnR_mc (rs : List Int) (es : List EqT) (a : ChainT) : mcChain (turnR rs es a) ≤ 3900 := by
  rcases Classical.em (ChainP rs es a) with h | h
  · rw [turnR_yes h]
    have l1 := h.len
    have hn := h.1.2.2
    have hs : mcMoveS (turnL a a.moves.length) ≤ (turnL a a.moves.length).length * 63 := sum_le_k fun x hx => by
      obtain ⟨k, hk, rfl⟩ := List.mem_map.1 hx
      have := (curT_len l1 (a.moves.length - 1 - k) (by omega)).2
      show mcInt64S (curT a (a.moves.length - 1 - k)) + 0 + 1 + 1 + 1 ≤ 63
      unfold mcInt64S
      omega
    rw [turnL_len] at hs
    have hf := curT_len l1 a.moves.length (Nat.le_refl _)
    unfold mcChain mcInt64S turnC
    simp only
    omega
  · rw [turnR_no h]; simp [mcChain, mcInt64S, mcMoveS]
def kp55 : List (Nat × List Nat) := [(0, [1, 2]), (1, [1, 2, 3]), (2, [1, 2, 3, 4]), (3, [1, 2, 3, 4, 15]), (5, [1, 2, 3, 4, 5]), (6, [1, 2, 3, 4, 5]), (7, [1, 2, 3, 4, 5]), (8, [1, 2, 3, 4, 5, 31]), (9, [1, 2, 3, 4, 5]), (10, [1, 2, 3, 4]), (4, [1, 2, 3, 4]), (11, [2])]
attribute [go_sem] kp55
theorem l20Turn_fc (a : ChainT) (ha : LenP a) (hla : a.moves.length ≤ 60) : FC S 55 [] [] [] [ChainD a] (ChainD (turnC a)) [] [] := by
  have hf := curT_len ha a.moves.length (Nat.le_refl _)
  refine fc_body Try.func55 rfl (by kernel_rfl) (by simp [Try.f55]) fun B => ?_
  simp only [Try.ntmps55, enumD, List.map_nil, List.map_cons, List.length_map, Nat.zero_add, Nat.reduceAdd]
  refine sw_bnd_agg 0 1 rfl rfl fun hb0_1 => ?_
  simp only [D.bnd, List.length_map] at hb0_1
  repeat' first
    | ((exfalso; omega))
    | exact Bool.noConfusion h
    | refine sw_seq ?_
    | refine sw_block ?_
    | refine sw_skip ?_
    | refine sw_inBlock ?_
    | refine sw_go 0 kp55 fun K hK => ?_
    | refine sw_goT 0 kp55 5 (id := 10) (by kernel_rfl) fun K hK => ?_
    | refine fun (K : List Oper → LS → Prop) (hK : KOk S 0 _ _ _ K) => ?_
    | refine sw_goD kp55 (by kernel_rfl) fun K hK => ?_
    | ((first | refine runL_go ?_ | refine runQ_go ?_); simp (disch := (refine Om.mk ?_; omega)) only [go_sem])
    | (refine hK.nil ?_; clear hK K; simp only [go_sem])
    | (refine sw_cond rfl (fun h => ?_) (fun h => ?_) <;> (try simp (disch := (refine Om.mk ?_; omega)) only [go_sem] at h))
    | (refine sw_exit rfl ?_)
    | (refine sw_loopEnd ?_)
    | ((first | refine sw_ret (ret0 ?_) | refine sw_ret ?_); simp (disch := (refine Om.mk ?_; omega)) only [go_sem, Try.results55])
    | refine hK.call rfl rfl rfl (l20End_fc a) ⟨(by intro p hp; cases hp), rfl, rfl, (by simp only [dstOk, Nat.reduceLT])⟩ ?_
    | refine hK.call rfl rfl rfl (copyQ_fc _ (curT a a.moves.length) (by omega)) ⟨(by intro p hp; cases hp), rfl, rfl, (by simp only [dstOk, Nat.reduceLT])⟩ ?_
    | (with_reducible refine And.intro (by first | omega | (simp only [List.length_append, List.length_take, List.length_drop, List.length_cons, List.length_nil, List.length_map]; omega)) ?_)
    | ((with_reducible refine And.intro ?_ ?_); · first | (intro x hx; subst hx; rfl) | exact upR_mem fun _ _ => rfl | exact mapR_mem fun _ _ => rfl | (intro x; refine And.intro ?_ ?_ <;> (intros; subst_vars; rfl)))
    | fail
  refine sw_tokBox 3 1 46000 136 4 rfl rfl rfl ?_
  simp only [go_sem]
  refine sw_loopT (ι := Nat) (fun i => [(4, .int .i64 ((i : Int) - 1))]) (fun i => [(3, [.sl .any ((curT a a.moves.length).map (.int .i64)), .sl (.own 46000 136 4) ((turnL a (a.moves.length - i)).map MoveD)])]) (fun _ => [46000]) (fun i => i ≤ a.moves.length) (fun i => i) a.moves.length (by (refine covers_mk0 rfl rfl ?_ ?_ ?_ ?_ <;> simp (disch := (refine Om.mk ?_; omega)) only [go_sem] <;> (try omega)); all_goals first | rfl | (simp [turnL]; done)) (by omega) (fun i hi => ?_)
  simp only [go_sem]
  have htl := turnL_len a (a.moves.length - i)
  cases i with
  | zero =>
    repeat' first
      | ((exfalso; omega))
      | exact Bool.noConfusion h
      | refine sw_seq ?_
      | refine sw_block ?_
      | refine sw_skip ?_
      | refine sw_inBlock ?_
      | refine sw_go 0 kp55 fun K hK => ?_
      | refine sw_goT 0 kp55 5 (id := 10) (by kernel_rfl) fun K hK => ?_
      | refine fun (K : List Oper → LS → Prop) (hK : KOk S 0 _ _ _ K) => ?_
      | refine sw_goD kp55 (by kernel_rfl) fun K hK => ?_
      | ((first | refine runL_go ?_ | refine runQ_go ?_); simp (disch := (refine Om.mk ?_; omega)) only [go_sem])
      | (refine hK.nil ?_; clear hK K; simp only [go_sem])
      | (refine sw_cond rfl (fun h => ?_) (fun h => ?_) <;> (try simp (disch := (refine Om.mk ?_; omega)) only [go_sem] at h))
      | (refine sw_exit rfl ?_)
      | (refine sw_loopEnd ?_)
      | ((first | refine sw_ret (ret0 ?_) | refine sw_ret ?_); simp (disch := (refine Om.mk ?_; omega)) only [go_sem, Try.results55])
      | (with_reducible refine And.intro (by first | omega | (simp only [List.length_append, List.length_take, List.length_drop, List.length_cons, List.length_nil, List.length_map]; omega)) ?_)
      | ((with_reducible refine And.intro ?_ ?_); · first | (intro x hx; subst hx; rfl) | exact upR_mem fun _ _ => rfl | exact mapR_mem fun _ _ => rfl | (intro x; refine And.intro ?_ ?_ <;> (intros; subst_vars; rfl)))
      | fail
    exact ⟨rfl, rfl⟩
  | succ k =>
    have hm := curT_len ha k (by omega)
    have hs := turnL_succ a k (by omega)
    have c := l20CopyMove_fc (tmv a k) (by show (curT a k).length ≤ 60; omega)
    cases k with
    | zero =>
      have q1 : (turnL a (a.moves.length - 1)).length ≤ 60 := by rw [turnL_len]; omega
      rw [show ((0 + 1 : Nat) : Int) - 1 = ((0 : Nat) : Int) by omega]
      repeat' first
        | ((exfalso; omega))
        | exact Bool.noConfusion h
        | refine sw_seq ?_
        | refine sw_block ?_
        | refine sw_skip ?_
        | refine sw_inBlock ?_
        | refine sw_go 0 kp55 fun K hK => ?_
        | refine sw_goT 0 kp55 5 (id := 10) (by kernel_rfl) fun K hK => ?_
        | refine fun (K : List Oper → LS → Prop) (hK : KOk S 0 _ _ _ K) => ?_
        | refine sw_goD kp55 (by kernel_rfl) fun K hK => ?_
        | ((first | refine runL_go ?_ | refine runQ_go ?_); simp (disch := (refine Om.mk ?_; omega)) only [go_sem])
        | (refine hK.nil ?_; clear hK K; simp only [go_sem])
        | (refine sw_cond rfl (fun h => ?_) (fun h => ?_) <;> (try simp (disch := (refine Om.mk ?_; omega)) only [go_sem] at h))
        | (refine sw_exit rfl ?_)
        | (refine sw_loopEnd ?_)
        | ((first | refine sw_ret (ret0 ?_) | refine sw_ret ?_); simp (disch := (refine Om.mk ?_; omega)) only [go_sem, Try.results55])
        | refine hK.call rfl rfl rfl (c) ⟨(by intro p hp; cases hp), rfl, rfl, (by simp only [dstOk, Nat.reduceLT])⟩ ?_
        | (with_reducible refine And.intro (by first | omega | (simp only [List.length_append, List.length_take, List.length_drop, List.length_cons, List.length_nil, List.length_map]; omega)) ?_)
        | ((with_reducible refine And.intro ?_ ?_); · first | (intro x hx; subst hx; rfl) | exact upR_mem fun _ _ => rfl | exact mapR_mem fun _ _ => rfl | (intro x; refine And.intro ?_ ?_ <;> (intros; subst_vars; rfl)))
        | fail
      all_goals first | exact ⟨0, (by (refine covers_mk0 rfl rfl ?_ ?_ ?_ ?_ <;> simp (disch := (refine Om.mk ?_; omega)) only [go_sem] <;> (try omega)); all_goals first | exact ⟨by omega, by rw [hs, List.map_append]; rfl⟩ | (rw [hs, List.map_append]; rfl) | rfl | omega | trace_state), by omega, by omega⟩ | trace_state
    | succ k =>
      have q1 : (turnL a (a.moves.length - (k + 1 + 1))).length ≤ 60 := by rw [turnL_len]; omega
      have q2 : (turnL a (a.moves.length - (k + 2))).length ≤ 60 := q1
      rw [show ((k + 1 + 1 : Nat) : Int) - 1 = ((k + 1 : Nat) : Int) by omega]
      repeat' first
        | ((exfalso; omega))
        | exact Bool.noConfusion h
        | refine sw_seq ?_
        | refine sw_block ?_
        | refine sw_skip ?_
        | refine sw_inBlock ?_
        | refine sw_go 0 kp55 fun K hK => ?_
        | refine sw_goT 0 kp55 5 (id := 10) (by kernel_rfl) fun K hK => ?_
        | refine fun (K : List Oper → LS → Prop) (hK : KOk S 0 _ _ _ K) => ?_
        | refine sw_goD kp55 (by kernel_rfl) fun K hK => ?_
        | ((first | refine runL_go ?_ | refine runQ_go ?_); simp (disch := (refine Om.mk ?_; omega)) only [go_sem])
        | (refine hK.nil ?_; clear hK K; simp only [go_sem])
        | (refine sw_cond rfl (fun h => ?_) (fun h => ?_) <;> (try simp (disch := (refine Om.mk ?_; omega)) only [go_sem] at h))
        | (refine sw_exit rfl ?_)
        | (refine sw_loopEnd ?_)
        | ((first | refine sw_ret (ret0 ?_) | refine sw_ret ?_); simp (disch := (refine Om.mk ?_; omega)) only [go_sem, Try.results55])
        | refine hK.call rfl rfl rfl (c) ⟨(by intro p hp; cases hp), rfl, rfl, (by simp only [dstOk, Nat.reduceLT])⟩ ?_
        | (with_reducible refine And.intro (by first | omega | (simp only [List.length_append, List.length_take, List.length_drop, List.length_cons, List.length_nil, List.length_map]; omega)) ?_)
        | ((with_reducible refine And.intro ?_ ?_); · first | (intro x hx; subst hx; rfl) | exact upR_mem fun _ _ => rfl | exact mapR_mem fun _ _ => rfl | (intro x; refine And.intro ?_ ?_ <;> (intros; subst_vars; rfl)))
        | fail
      all_goals first | exact ⟨k + 1, (by (refine covers_mk0 rfl rfl ?_ ?_ ?_ ?_ <;> simp (disch := (refine Om.mk ?_; omega)) only [go_sem] <;> (try omega)); all_goals first | exact ⟨by omega, by rw [hs, List.map_append]; rfl⟩ | (rw [hs, List.map_append]; rfl) | rfl | omega | trace_state), by omega, by omega⟩ | trace_state
def kp18 : List (Nat × List Nat) := [(0, [1, 3, 5, 6]), (1, [5, 6, 12]), (2, [6, 7]), (3, [6, 7])]
attribute [go_sem] kp18
theorem specTurnedChain_fc (rs : List Int) (es : List EqT) (a : ChainT) : FC S 18 [] [] [] [.agg [.sl .any (rs.map (.int .i64))], .sl .any (es.map EqD), ChainD a] (.tup [ChainD (turnR rs es a), .bool (tst (ChainP rs es a))]) [] [] := by
  rcases Classical.em (ChainP rs es a) with h1 | hn
  · rw [turnR_yes h1]
    refine fc_body Try.func18 rfl (by kernel_rfl) (by simp [Try.f18]) fun B => ?_
    simp only [Try.ntmps18, enumD, List.map_nil, List.map_cons, List.length_map, Nat.zero_add, Nat.reduceAdd]
    repeat' first
      | ((exact absurd h1 (by assumption)))
      | exact Bool.noConfusion h
      | refine sw_seq ?_
      | refine sw_block ?_
      | refine sw_skip ?_
      | refine sw_inBlock ?_
      | refine sw_go 0 kp18 fun K hK => ?_
      | refine fun (K : List Oper → LS → Prop) (hK : KOk S 0 _ _ _ K) => ?_
      | ((first | refine runL_go ?_ | refine runQ_go ?_); simp (disch := (refine Om.mk ?_; omega)) only [go_sem])
      | (refine hK.nil ?_; clear hK K; simp only [go_sem])
      | (refine sw_cond rfl (fun h => ?_) (fun h => ?_) <;> (try simp (disch := (refine Om.mk ?_; omega)) only [go_sem] at h))
      | (refine sw_exit rfl ?_)
      | (refine sw_loopEnd ?_)
      | ((first | refine sw_ret (ret0 ?_) | refine sw_ret ?_); simp (disch := (refine Om.mk ?_; omega)) only [go_sem, Try.results18])
      | refine hK.call rfl rfl rfl (specChainOk_fc _ _ rs es a) ⟨(by intro p hp; cases hp), rfl, rfl, (by simp only [dstOk, Nat.reduceLT])⟩ ?_
      | refine hK.call rfl rfl rfl (l20Turn_fc a h1.len h1.1.2.2) ⟨(by intro p hp; cases hp), rfl, rfl, (by simp only [dstOk, Nat.reduceLT])⟩ ?_
      | (with_reducible refine And.intro (by first | omega | (simp only [List.length_append, List.length_take, List.length_drop, List.length_cons, List.length_nil, List.length_map]; omega)) ?_)
      | ((with_reducible refine And.intro ?_ ?_); · first | (intro x hx; subst hx; rfl) | exact upR_mem fun _ _ => rfl | exact mapR_mem fun _ _ => rfl | (intro x; refine And.intro ?_ ?_ <;> (intros; subst_vars; rfl)))
      | fail
    all_goals assumption
  · rw [turnR_no hn]
    refine fc_body Try.func18 rfl (by kernel_rfl) (by simp [Try.f18]) fun B => ?_
    simp only [Try.ntmps18, enumD, List.map_nil, List.map_cons, List.length_map, Nat.zero_add, Nat.reduceAdd]
    repeat' first
      | ((exact absurd (by assumption) hn))
      | exact Bool.noConfusion h
      | refine sw_seq ?_
      | refine sw_block ?_
      | refine sw_skip ?_
      | refine sw_inBlock ?_
      | refine sw_go 0 kp18 fun K hK => ?_
      | refine fun (K : List Oper → LS → Prop) (hK : KOk S 0 _ _ _ K) => ?_
      | ((first | refine runL_go ?_ | refine runQ_go ?_); simp (disch := (refine Om.mk ?_; omega)) only [go_sem])
      | (refine hK.nil ?_; clear hK K; simp only [go_sem])
      | (refine sw_cond rfl (fun h => ?_) (fun h => ?_) <;> (try simp (disch := (refine Om.mk ?_; omega)) only [go_sem] at h))
      | (refine sw_exit rfl ?_)
      | (refine sw_loopEnd ?_)
      | ((first | refine sw_ret (ret0 ?_) | refine sw_ret ?_); simp (disch := (refine Om.mk ?_; omega)) only [go_sem, Try.results18])
      | refine hK.call rfl rfl rfl (specChainOk_fc _ _ rs es a) ⟨(by intro p hp; cases hp), rfl, rfl, (by simp only [dstOk, Nat.reduceLT])⟩ ?_
      | (with_reducible refine And.intro (by first | omega | (simp only [List.length_append, List.length_take, List.length_drop, List.length_cons, List.length_nil, List.length_map]; omega)) ?_)
      | ((with_reducible refine And.intro ?_ ?_); · first | (intro x hx; subst hx; rfl) | exact upR_mem fun _ _ => rfl | exact mapR_mem fun _ _ => rfl | (intro x; refine And.intro ?_ ?_ <;> (intros; subst_vars; rfl)))
      | fail
    all_goals assumption
end Go.Proofs.Ytlcdahaihlflaaa
