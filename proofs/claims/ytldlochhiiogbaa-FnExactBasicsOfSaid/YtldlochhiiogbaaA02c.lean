/-
  Contracts of package slices' Grow (of a nil list) and Concat.
-/
import Derived.Test.YtldlochhiiogbaaA01b
import Derived.Test.YtldlochhiiogbaaLgK6
import Derived.Test.YtldlochhiiogbaaLgK4
import Derived.Test.YtldlochhiiogbaaLgK7
namespace Go.Proofs.Ytldlochhiiogbaa
open Go Go.Lg
set_option linter.unusedSimpArgs false
set_option linter.unusedVariables false
set_option maxHeartbeats 4000000
attribute [local irreducible] SW runL runQ runG runQG FC LopsW
def kp48 : List (Nat × List Nat) := [(0, [0, 1]), (1, [0, 1, 6]), (2, [0, 1]), (3, [0, 1]), (4, [0, 1, 16]), (5, [0]), (6, [4])]
attribute [go_sem] kp48
theorem grow_fc (n : Nat) (h0 : 0 < n) (hn : n ≤ 100000) : FC S 48 [] [] [] [.sl .nil [], .int .i64 n] (.sl (.own 0 2 1) []) [] [0] := by
  refine fc_body1 Try.func48 rfl (by kernel_rfl) (by simp [Try.f48]) fun B => ?_
  simp only [Try.ntmps48, enumD, List.map_nil, List.map_cons, List.length_map, Nat.zero_add, Nat.reduceAdd]
  repeat' first
    | ((refine sw_region ?_; refine LopsW.step (base := 0) rfl ?_; simp (disch := (refine Om.mk ?_; omega)) only [stepY, opY, go_sem]; refine LopsW.step (base := 0) rfl ?_; simp (disch := (refine Om.mk ?_; omega)) only [stepY, opY, go_sem]; refine LopsW.capNil rfl rfl (by simp only [Nat.reduceLT]) ?_; simp only [go_sem]; refine LopsW.step (base := 0) rfl ?_; simp (disch := (refine Om.mk ?_; omega)) only [stepY, opY, go_sem]; refine LopsW.step (base := 0) rfl ?_; simp (disch := (refine Om.mk ?_; omega)) only [stepY, opY, go_sem]; refine LopsW.step (base := 0) rfl ?_; simp (disch := (refine Om.mk ?_; omega)) only [stepY, opY, go_sem]; refine LopsW.step (base := 0) rfl ?_; simp (disch := (refine Om.mk ?_; omega)) only [stepY, opY, go_sem]; refine LopsW.step (base := 0) rfl ?_; simp (disch := (refine Om.mk ?_; omega)) only [stepY, opY, go_sem]; refine LopsW.nil ?_; refine sw_keepAt kp48 3 ?_; simp only [go_sem]))
    | ((refine sw_region ?_; refine LopsW.step (base := 0) rfl ?_; simp (disch := (refine Om.mk ?_; omega)) only [stepY, opY, go_sem]; refine LopsW.step (base := 0) rfl ?_; simp (disch := (refine Om.mk ?_; omega)) only [stepY, opY, go_sem]; refine LopsW.capNil rfl rfl (by simp only [Nat.reduceLT]) ?_; simp only [go_sem]; refine LopsW.sliceNil rfl rfl rfl (j := _) rfl (by simp only [Nat.reduceLT]) ?_; simp only [go_sem]; refine LopsW.step (base := 0) rfl ?_; simp (disch := (refine Om.mk ?_; omega)) only [stepY, opY, go_sem]; refine LopsW.grow (n := n) (tok := 5) rfl rfl rfl rfl ((S.ok 3 _ rfl).desc) rfl (by decide) ((S.ok 22 _ rfl).desc) h0 (by simp only [Nat.reduceMul]; omega) (by omega) rfl (by decide) (by simp only [Nat.reduceLT]; trivial) (fun v => ?_); simp only [go_sem]; refine LopsW.step (base := 0) rfl ?_; simp (disch := (refine Om.mk ?_; omega)) only [stepY, opY, go_sem]; refine LopsW.nil ?_; refine sw_keepAt kp48 5 ?_; simp only [go_sem]))
    | exact Bool.noConfusion h
    | refine sw_seq ?_
    | refine sw_block ?_
    | refine sw_skip ?_
    | refine sw_inBlock ?_
    | refine sw_go 0 kp48 fun K hK => ?_
    | refine fun (K : List Oper → LS → Prop) (hK : KOk S 0 _ _ _ K) => ?_
    | ((first | refine runL_go ?_ | refine runQ_go ?_); simp (disch := (refine Om.mk ?_; omega)) only [go_sem])
    | (refine hK.nil ?_; clear hK K; simp only [go_sem])
    | (refine sw_cond rfl (fun h => ?_) (fun h => ?_) <;> (try simp (disch := (refine Om.mk ?_; omega)) only [go_sem] at h))
    | (refine sw_exit rfl ?_)
    | (refine sw_loopEnd ?_)
    | ((first | refine sw_ret (ret0 ?_) | refine sw_ret ?_); simp (disch := (refine Om.mk ?_; omega)) only [go_sem, Try.results48])
    | (with_reducible refine And.intro (by first | omega | (simp only [List.length_append, List.length_take, List.length_drop, List.length_cons, List.length_nil, List.length_map]; omega)) ?_)
    | ((with_reducible refine And.intro ?_ ?_); · first | (intro x hx; subst hx; rfl) | exact upR_mem fun _ _ => rfl | exact mapR_mem fun _ _ => rfl | (intro x; refine And.intro ?_ ?_ <;> (intros; subst_vars; rfl)))
    | fail
  all_goals first | (exfalso; omega) | exact ret1_own rfl (by simp)
theorem grow0_fc (n : Nat) (h0 : n = 0) : FC S 48 [] [] [] [.sl .nil [], .int .i64 n] (.sl .nil []) [] [] := by
  subst h0
  refine fc_body Try.func48 rfl (by kernel_rfl) (by simp [Try.f48]) fun B => ?_
  simp only [Try.ntmps48, enumD, List.map_nil, List.map_cons, List.length_map, Nat.zero_add, Nat.reduceAdd]
  repeat' first
    | ((refine sw_region ?_; refine LopsW.step (base := 0) rfl ?_; simp (disch := (refine Om.mk ?_; omega)) only [stepY, opY, go_sem]; refine LopsW.step (base := 0) rfl ?_; simp (disch := (refine Om.mk ?_; omega)) only [stepY, opY, go_sem]; refine LopsW.capNil rfl rfl (by simp only [Nat.reduceLT]) ?_; simp only [go_sem]; refine LopsW.step (base := 0) rfl ?_; simp (disch := (refine Om.mk ?_; omega)) only [stepY, opY, go_sem]; refine LopsW.step (base := 0) rfl ?_; simp (disch := (refine Om.mk ?_; omega)) only [stepY, opY, go_sem]; refine LopsW.step (base := 0) rfl ?_; simp (disch := (refine Om.mk ?_; omega)) only [stepY, opY, go_sem]; refine LopsW.step (base := 0) rfl ?_; simp (disch := (refine Om.mk ?_; omega)) only [stepY, opY, go_sem]; refine LopsW.step (base := 0) rfl ?_; simp (disch := (refine Om.mk ?_; omega)) only [stepY, opY, go_sem]; refine LopsW.nil ?_; refine sw_keepAt kp48 3 ?_; simp only [go_sem]))
    | exact Bool.noConfusion h
    | refine sw_seq ?_
    | refine sw_block ?_
    | refine sw_skip ?_
    | refine sw_inBlock ?_
    | refine sw_go 0 kp48 fun K hK => ?_
    | refine fun (K : List Oper → LS → Prop) (hK : KOk S 0 _ _ _ K) => ?_
    | ((first | refine runL_go ?_ | refine runQ_go ?_); simp (disch := (refine Om.mk ?_; omega)) only [go_sem])
    | (refine hK.nil ?_; clear hK K; simp only [go_sem])
    | (refine sw_cond rfl (fun h => ?_) (fun h => ?_) <;> (try simp (disch := (refine Om.mk ?_; omega)) only [go_sem] at h))
    | (refine sw_exit rfl ?_)
    | (refine sw_loopEnd ?_)
    | ((first | refine sw_ret (ret0 ?_) | refine sw_ret ?_); simp (disch := (refine Om.mk ?_; omega)) only [go_sem, Try.results48])
    | (with_reducible refine And.intro (by first | omega | (simp only [List.length_append, List.length_take, List.length_drop, List.length_cons, List.length_nil, List.length_map]; omega)) ?_)
    | ((with_reducible refine And.intro ?_ ?_); · first | (intro x hx; subst hx; rfl) | exact upR_mem fun _ _ => rfl | exact mapR_mem fun _ _ => rfl | (intro x; refine And.intro ?_ ?_ <;> (intros; subst_vars; rfl)))
    | fail
  all_goals (exfalso; omega)
def flatTo (xs : List (List Int)) (i : Nat) : List Int := (xs.take i).flatten
theorem flatTo_succ (xs : List (List Int)) (i : Nat) (h : i < xs.length) : flatTo xs (i + 1) = flatTo xs i ++ xs.getD i default := by
  have := take_flat (ass := xs) (List.getElem?_eq_getElem h)
  unfold flatTo
  rw [this]
  simp [List.getD, List.getElem?_eq_getElem h]
theorem flatTo_all (xs : List (List Int)) (i : Nat) (h : xs.length ≤ i) : flatTo xs i = xs.flatten := by
  unfold flatTo
  rw [List.take_of_length_le h]
theorem flatTo_le (xs : List (List Int)) (i : Nat) : (flatTo xs i).length ≤ xs.flatten.length := by
  have : xs.flatten = flatTo xs i ++ (xs.drop i).flatten := by unfold flatTo; rw [← List.flatten_append, List.take_append_drop]
  rw [this, List.length_append]; omega
def kp29 : List (Nat × List Nat) := [(0, [0]), (1, [0, 3]), (2, [0, 3, 9, 10, 11]), (3, [0, 3, 9, 10, 11, 12]), (4, [0, 3, 5, 9, 10, 11]), (5, [0, 3, 9, 10, 11]), (6, [0, 3, 9, 10, 11, 20]), (7, [0, 3, 9, 10, 11]), (8, [0, 3, 9, 10, 11]), (9, [0, 6]), (10, [6, 25, 26, 27]), (11, [6, 25, 26, 27, 28]), (12, [6, 8, 25, 26, 27]), (13, [6, 25, 26, 27]), (14, [6, 25, 26, 27]), (15, [2])]
attribute [go_sem] kp29
theorem concat0_fc (p : List Nat) (hp : p ≠ []) (tk : Tk) (xs : List (List Int)) (hx : xs.length ≤ 1000) (hb : xs.flatten.length = 0) : FC S 29 [] [] [] [.sl tk (xs.map IntsD)] (.sl (.lab p) (xs.flatten.map (.int .i64))) [] [] := by
  refine FC.args (args' := [.sl .any (xs.map IntsD)]) ?_ (by simp only [go_sem])
  refine fc_body Try.func29 rfl (by kernel_rfl) (by simp [Try.f29]) fun B => ?_
  simp only [Try.ntmps29, enumD, List.map_nil, List.map_cons, List.length_map, Nat.zero_add, Nat.reduceAdd]
  refine sw_bnd 0 rfl fun hb0 => ?_
  simp only [D.bnd, List.length_map] at hb0
  repeat' first
    | exact Bool.noConfusion h
    | refine sw_seq ?_
    | refine sw_block ?_
    | refine sw_skip ?_
    | refine sw_inBlock ?_
    | refine sw_go 0 kp29 fun K hK => ?_
    | refine fun (K : List Oper → LS → Prop) (hK : KOk S 0 _ _ _ K) => ?_
    | ((first | refine runL_go ?_ | refine runQ_go ?_); simp (disch := (refine Om.mk ?_; omega)) only [go_sem])
    | (refine hK.nil ?_; clear hK K; simp only [go_sem])
    | (refine sw_cond rfl (fun h => ?_) (fun h => ?_) <;> (try simp (disch := (refine Om.mk ?_; omega)) only [go_sem] at h))
    | (refine sw_exit rfl ?_)
    | (refine sw_loopEnd ?_)
    | ((first | refine sw_ret (ret0 ?_) | refine sw_ret ?_); simp (disch := (refine Om.mk ?_; omega)) only [go_sem, Try.results29])
    | (with_reducible refine And.intro (by first | omega | (simp only [List.length_append, List.length_take, List.length_drop, List.length_cons, List.length_nil, List.length_map]; omega)) ?_)
    | ((with_reducible refine And.intro ?_ ?_); · first | (intro x hx; subst hx; rfl) | exact upR_mem fun _ _ => rfl | exact mapR_mem fun _ _ => rfl | (intro x; refine And.intro ?_ ?_ <;> (intros; subst_vars; rfl)))
    | fail
  refine sw_loopU (ι := Nat) (fun i => [(11, .int .i64 i), (3, .int .i64 (flatTo xs i).length)]) (fun _ => []) (fun i => i ≤ xs.length ∧ (True)) (fun i => xs.length - i) 0 (by (refine covers_mk0 rfl rfl ?_ ?_ ?_ ?_ <;> simp (disch := (refine Om.mk ?_; omega)) only [go_sem] <;> (try omega)); exact ⟨by simp [flatTo], rfl⟩) ⟨by omega, ?_⟩ (fun i ⟨hi, hj⟩ => ?_)
  rotate_left
  simp only [go_sem]
  have hs := flatTo_succ xs i
  have hle := flatTo_le xs i
  have hle1 := flatTo_le xs (i + 1)
  have hsl : i < xs.length → (flatTo xs (i + 1)).length = (flatTo xs i).length + (xs.getD i default).length := fun h => by rw [hs h, List.length_append]
  repeat' first
    | exact Bool.noConfusion h
    | refine sw_seq ?_
    | refine sw_block ?_
    | refine sw_skip ?_
    | refine sw_inBlock ?_
    | refine sw_go 0 kp29 fun K hK => ?_
    | refine fun (K : List Oper → LS → Prop) (hK : KOk S 0 _ _ _ K) => ?_
    | ((first | refine runL_go ?_ | refine runQ_go ?_); simp (disch := (refine Om.mk ?_; omega)) only [go_sem])
    | (refine hK.nil ?_; clear hK K; simp only [go_sem])
    | (refine sw_cond rfl (fun h => ?_) (fun h => ?_) <;> (try simp (disch := (refine Om.mk ?_; omega)) only [go_sem] at h))
    | (refine sw_exit rfl ?_)
    | (refine sw_loopEnd ?_)
    | ((first | refine sw_ret (ret0 ?_) | refine sw_ret ?_); simp (disch := (refine Om.mk ?_; omega)) only [go_sem, Try.results29])
    | refine hK.call rfl rfl rfl (grow0_fc (flatTo xs i).length (by omega)) ⟨(by intro p hp; cases hp), rfl, rfl, (by simp only [dstOk, Nat.reduceLT])⟩ ?_
    | (with_reducible refine And.intro (by first | omega | (simp only [List.length_append, List.length_take, List.length_drop, List.length_cons, List.length_nil, List.length_map]; omega)) ?_)
    | ((with_reducible refine And.intro ?_ ?_); · first | (intro x hx; subst hx; rfl) | exact upR_mem fun _ _ => rfl | exact mapR_mem fun _ _ => rfl | (intro x; refine And.intro ?_ ?_ <;> (intros; subst_vars; rfl)))
    | fail
  · exfalso; omega
  · exact ⟨i + 1, (by have := hsl (by omega); (refine covers_mk0 rfl rfl ?_ ?_ ?_ ?_ <;> simp (disch := (refine Om.mk ?_; omega)) only [go_sem] <;> (try omega))), by omega, by omega⟩
  · refine sw_tok 6 34000 2 1 rfl (.inl rfl) rfl ?_
    simp only [go_sem]
    refine sw_loopT (ι := Nat) (fun k => [(27, .int .i64 k), (6, .sl (.own 34000 2 1) ((flatTo xs k).map (.int .i64)))]) (fun _ => []) (fun _ => [34000]) (fun k => k ≤ xs.length) (fun k => xs.length - k) 0 (by (refine covers_mk0 rfl rfl ?_ ?_ ?_ ?_ <;> simp (disch := (refine Om.mk ?_; omega)) only [go_sem] <;> (try omega)); exact ⟨rfl, rfl⟩) (by omega) (fun k hk => ?_)
    simp only [go_sem]
    have hs2 := flatTo_succ xs k
    have hle2 := flatTo_le xs k
    have hle3 := flatTo_le xs (k + 1)
    have hsl2 : k < xs.length → (flatTo xs (k + 1)).length = (flatTo xs k).length + (xs.getD k default).length := fun h => by rw [hs2 h, List.length_append]
    repeat' first
      | (refine sw_lab 2 p (k := 34000) rfl (by simp) hp ?_; simp only [go_sem])
      | exact Bool.noConfusion h
      | refine sw_seq ?_
      | refine sw_block ?_
      | refine sw_skip ?_
      | refine sw_inBlock ?_
      | refine sw_go 0 kp29 fun K hK => ?_
      | refine fun (K : List Oper → LS → Prop) (hK : KOk S 0 _ _ _ K) => ?_
      | ((first | refine runL_go ?_ | refine runQ_go ?_); simp (disch := (refine Om.mk ?_; omega)) only [go_sem])
      | (refine hK.nil ?_; clear hK K; simp only [go_sem])
      | (refine sw_cond rfl (fun h => ?_) (fun h => ?_) <;> (try simp (disch := (refine Om.mk ?_; omega)) only [go_sem] at h))
      | (refine sw_exit rfl ?_)
      | (refine sw_loopEnd ?_)
      | ((first | refine sw_ret (ret0 ?_) | refine sw_ret ?_); simp (disch := (refine Om.mk ?_; omega)) only [go_sem, Try.results29])
      | (with_reducible refine And.intro (by first | omega | (simp only [List.length_append, List.length_take, List.length_drop, List.length_cons, List.length_nil, List.length_map]; omega)) ?_)
      | ((with_reducible refine And.intro ?_ ?_); · first | (intro x hx; subst hx; rfl) | exact upR_mem fun _ _ => rfl | exact mapR_mem fun _ _ => rfl | (intro x; refine And.intro ?_ ?_ <;> (intros; subst_vars; rfl)))
      | fail
    · exact ⟨k + 1, (by have e := (hs2 (by omega)).symm; (refine covers_mk0 rfl rfl ?_ ?_ ?_ ?_ <;> simp (disch := (refine Om.mk ?_; omega)) only [go_sem] <;> (try omega)); first | exact e | exact ⟨e, by omega⟩ | exact ⟨by omega, e⟩ | (constructor <;> first | (rw [e]; done) | omega)), by omega, by omega⟩
    · exact flatTo_all xs k (by omega)
  · trivial
theorem concat1_fc (p : List Nat) (hp : p ≠ []) (tk : Tk) (xs : List (List Int)) (hx : xs.length ≤ 1000) (hb : 0 < xs.flatten.length ∧ xs.flatten.length ≤ 100000) : FC S 29 [] [] [] [.sl tk (xs.map IntsD)] (.sl (.lab p) (xs.flatten.map (.int .i64))) [] [] := by
  refine FC.args (args' := [.sl .any (xs.map IntsD)]) ?_ (by simp only [go_sem])
  refine fc_body Try.func29 rfl (by kernel_rfl) (by simp [Try.f29]) fun B => ?_
  simp only [Try.ntmps29, enumD, List.map_nil, List.map_cons, List.length_map, Nat.zero_add, Nat.reduceAdd]
  refine sw_bnd 0 rfl fun hb0 => ?_
  simp only [D.bnd, List.length_map] at hb0
  repeat' first
    | exact Bool.noConfusion h
    | refine sw_seq ?_
    | refine sw_block ?_
    | refine sw_skip ?_
    | refine sw_inBlock ?_
    | refine sw_go 0 kp29 fun K hK => ?_
    | refine fun (K : List Oper → LS → Prop) (hK : KOk S 0 _ _ _ K) => ?_
    | ((first | refine runL_go ?_ | refine runQ_go ?_); simp (disch := (refine Om.mk ?_; omega)) only [go_sem])
    | (refine hK.nil ?_; clear hK K; simp only [go_sem])
    | (refine sw_cond rfl (fun h => ?_) (fun h => ?_) <;> (try simp (disch := (refine Om.mk ?_; omega)) only [go_sem] at h))
    | (refine sw_exit rfl ?_)
    | (refine sw_loopEnd ?_)
    | ((first | refine sw_ret (ret0 ?_) | refine sw_ret ?_); simp (disch := (refine Om.mk ?_; omega)) only [go_sem, Try.results29])
    | (with_reducible refine And.intro (by first | omega | (simp only [List.length_append, List.length_take, List.length_drop, List.length_cons, List.length_nil, List.length_map]; omega)) ?_)
    | ((with_reducible refine And.intro ?_ ?_); · first | (intro x hx; subst hx; rfl) | exact upR_mem fun _ _ => rfl | exact mapR_mem fun _ _ => rfl | (intro x; refine And.intro ?_ ?_ <;> (intros; subst_vars; rfl)))
    | fail
  refine sw_loopU (ι := Nat) (fun i => [(11, .int .i64 i), (3, .int .i64 (flatTo xs i).length)]) (fun _ => []) (fun i => i ≤ xs.length ∧ (True)) (fun i => xs.length - i) 0 (by (refine covers_mk0 rfl rfl ?_ ?_ ?_ ?_ <;> simp (disch := (refine Om.mk ?_; omega)) only [go_sem] <;> (try omega)); exact ⟨by simp [flatTo], rfl⟩) ⟨by omega, ?_⟩ (fun i ⟨hi, hj⟩ => ?_)
  rotate_left
  simp only [go_sem]
  have hs := flatTo_succ xs i
  have hle := flatTo_le xs i
  have hle1 := flatTo_le xs (i + 1)
  have hal := flatTo_all xs i
  have hal2 : xs.length ≤ i → (flatTo xs i).length = xs.flatten.length := fun h => by rw [hal h]
  have hsl : i < xs.length → (flatTo xs (i + 1)).length = (flatTo xs i).length + (xs.getD i default).length := fun h => by rw [hs h, List.length_append]
  repeat' first
    | exact Bool.noConfusion h
    | refine sw_seq ?_
    | refine sw_block ?_
    | refine sw_skip ?_
    | refine sw_inBlock ?_
    | refine sw_go 0 kp29 fun K hK => ?_
    | refine fun (K : List Oper → LS → Prop) (hK : KOk S 0 _ _ _ K) => ?_
    | ((first | refine runL_go ?_ | refine runQ_go ?_); simp (disch := (refine Om.mk ?_; omega)) only [go_sem])
    | (refine hK.nil ?_; clear hK K; simp only [go_sem])
    | (refine sw_cond rfl (fun h => ?_) (fun h => ?_) <;> (try simp (disch := (refine Om.mk ?_; omega)) only [go_sem] at h))
    | (refine sw_exit rfl ?_)
    | (refine sw_loopEnd ?_)
    | ((first | refine sw_ret (ret0 ?_) | refine sw_ret ?_); simp (disch := (refine Om.mk ?_; omega)) only [go_sem, Try.results29])
    | (refine hK.callB rfl rfl rfl (grow_fc (flatTo xs i).length (by omega) (by omega)) ⟨⟨by simp only [Nat.reduceLT], (by first | (simp; all_goals fail) | (simp [LS.getBox, Lg.look]; all_goals fail)), by (simp [Lg.look]; all_goals fail), by (simp; all_goals fail), by (simp; all_goals fail)⟩, ⟨by (simp [D.ids, D.idsL]; all_goals fail), by (simp [D.ids, D.idsL]; all_goals fail), by (simp [D.tks, D.tksL]; all_goals fail), by (simp [D.tks, D.tksL]; all_goals fail), by (simp; all_goals fail)⟩, rfl⟩ ?_; simp (disch := (refine Om.mk ?_; omega)) only [go_sem])
    | (with_reducible refine And.intro (by first | omega | (simp only [List.length_append, List.length_take, List.length_drop, List.length_cons, List.length_nil, List.length_map]; omega)) ?_)
    | ((with_reducible refine And.intro ?_ ?_); · first | (intro x hx; subst hx; rfl) | exact upR_mem fun _ _ => rfl | exact mapR_mem fun _ _ => rfl | (intro x; refine And.intro ?_ ?_ <;> (intros; subst_vars; rfl)))
    | fail
  · exfalso; omega
  · exact ⟨i + 1, (by have := hsl (by omega); (refine covers_mk0 rfl rfl ?_ ?_ ?_ ?_ <;> simp (disch := (refine Om.mk ?_; omega)) only [go_sem] <;> (try omega))), by omega, by omega⟩
  · refine sw_loopT (ι := Nat) (fun k => [(27, .int .i64 k), (6, if k = 0 then .sl (.own 25000 2 1) [] else .sl (.own 34000 2 1) ((flatTo xs k).map (.int .i64)))]) (fun _ => []) (fun k => if k = 0 then [25000] else [34000]) (fun k => k ≤ xs.length) (fun k => xs.length - k) 0 (by (refine covers_mk0 rfl rfl ?_ ?_ ?_ ?_ <;> simp (disch := (refine Om.mk ?_; omega)) only [go_sem] <;> (try omega))) (by omega) (fun k hk => ?_)
    have hs2 := flatTo_succ xs k
    have hle2 := flatTo_le xs k
    have hle3 := flatTo_le xs (k + 1)
    have hsl2 : k < xs.length → (flatTo xs (k + 1)).length = (flatTo xs k).length + (xs.getD k default).length := fun h => by rw [hs2 h, List.length_append]
    cases k with
    | zero =>
      simp only [go_sem]
      repeat' first
        | exact Bool.noConfusion h
        | refine sw_seq ?_
        | refine sw_block ?_
        | refine sw_skip ?_
        | refine sw_inBlock ?_
        | refine sw_go 0 kp29 fun K hK => ?_
        | refine fun (K : List Oper → LS → Prop) (hK : KOk S 0 _ _ _ K) => ?_
        | ((first | refine runL_go ?_ | refine runQ_go ?_); simp (disch := (refine Om.mk ?_; omega)) only [go_sem])
        | (refine hK.nil ?_; clear hK K; simp only [go_sem])
        | (refine sw_cond rfl (fun h => ?_) (fun h => ?_) <;> (try simp (disch := (refine Om.mk ?_; omega)) only [go_sem] at h))
        | (refine sw_exit rfl ?_)
        | (refine sw_loopEnd ?_)
        | ((first | refine sw_ret (ret0 ?_) | refine sw_ret ?_); simp (disch := (refine Om.mk ?_; omega)) only [go_sem, Try.results29])
        | (with_reducible refine And.intro (by first | omega | (simp only [List.length_append, List.length_take, List.length_drop, List.length_cons, List.length_nil, List.length_map]; omega)) ?_)
        | ((with_reducible refine And.intro ?_ ?_); · first | (intro x hx; subst hx; rfl) | exact upR_mem fun _ _ => rfl | exact mapR_mem fun _ _ => rfl | (intro x; refine And.intro ?_ ?_ <;> (intros; subst_vars; rfl)))
        | fail
      · exact ⟨0 + 1, (by have e : xs.getD 0 default = flatTo xs (0 + 1) := (hs2 (by omega)).symm; (refine covers_mk0 rfl rfl ?_ ?_ ?_ ?_ <;> simp (disch := (refine Om.mk ?_; omega)) only [go_sem] <;> (try omega)); first | exact e | exact ⟨e, by omega⟩ | exact ⟨by omega, e⟩ | (constructor <;> first | (rw [e]; done) | omega)), by omega, by omega⟩
      · exfalso
        have h5 := flatTo_all xs 0 (by omega)
        rw [← h5] at hb
        simp [flatTo] at hb
    | succ k =>
      simp only [go_sem]
      repeat' first
        | (refine sw_lab 2 p (k := 34000) rfl (by simp) hp ?_; simp only [go_sem])
        | exact Bool.noConfusion h
        | refine sw_seq ?_
        | refine sw_block ?_
        | refine sw_skip ?_
        | refine sw_inBlock ?_
        | refine sw_go 0 kp29 fun K hK => ?_
        | refine fun (K : List Oper → LS → Prop) (hK : KOk S 0 _ _ _ K) => ?_
        | ((first | refine runL_go ?_ | refine runQ_go ?_); simp (disch := (refine Om.mk ?_; omega)) only [go_sem])
        | (refine hK.nil ?_; clear hK K; simp only [go_sem])
        | (refine sw_cond rfl (fun h => ?_) (fun h => ?_) <;> (try simp (disch := (refine Om.mk ?_; omega)) only [go_sem] at h))
        | (refine sw_exit rfl ?_)
        | (refine sw_loopEnd ?_)
        | ((first | refine sw_ret (ret0 ?_) | refine sw_ret ?_); simp (disch := (refine Om.mk ?_; omega)) only [go_sem, Try.results29])
        | (with_reducible refine And.intro (by first | omega | (simp only [List.length_append, List.length_take, List.length_drop, List.length_cons, List.length_nil, List.length_map]; omega)) ?_)
        | ((with_reducible refine And.intro ?_ ?_); · first | (intro x hx; subst hx; rfl) | exact upR_mem fun _ _ => rfl | exact mapR_mem fun _ _ => rfl | (intro x; refine And.intro ?_ ?_ <;> (intros; subst_vars; rfl)))
        | fail
      · exact ⟨k + 1 + 1, (by have e := (hs2 (by omega)).symm; (refine covers_mk0 rfl rfl ?_ ?_ ?_ ?_ <;> simp (disch := (refine Om.mk ?_; omega)) only [go_sem] <;> (try omega)); first | exact e | exact ⟨e, by omega⟩ | exact ⟨by omega, e⟩ | (constructor <;> first | (rw [e]; done) | omega)), by omega, by omega⟩
      · exact flatTo_all xs (k + 1) (by omega)
  · trivial
theorem concat_fc (p : List Nat) (hp : p ≠ []) (tk : Tk) (xs : List (List Int)) (hx : xs.length ≤ 1000) (hb : xs.flatten.length ≤ 100000) : FC S 29 [] [] [] [.sl tk (xs.map IntsD)] (.sl (.lab p) (xs.flatten.map (.int .i64))) [] [] := by
  rcases Nat.eq_zero_or_pos xs.flatten.length with h | h
  · exact concat0_fc p hp tk xs hx h
  · exact concat1_fc p hp tk xs hx ⟨h, hb⟩
theorem concatQ_fc (tk : Tk) (xs : List (List Int)) (hx : xs.length ≤ 1000) (hb : xs.flatten.length ≤ 100000) : FC S 29 [] [] [] [.sl tk (xs.map IntsD)] (.sl .any (xs.flatten.map (.int .i64))) [] [] :=
  (concat_fc [0] (by simp) tk xs hx hb).weak .any (by simp) (by simp)
end Go.Proofs.Ytldlochhiiogbaa
