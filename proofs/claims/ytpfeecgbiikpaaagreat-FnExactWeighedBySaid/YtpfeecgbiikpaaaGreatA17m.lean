/-
  Dependency pairs and their weighing: the program's side.
-/
import Derived.Test.YtpfeecgbiikpaaaGreatA17j
import Derived.Test.YtpfeecgbiikpaaaGreatA17l
namespace Go.Proofs.YtpfeecgbiikpaaaGreat
open Go Go.Lg
set_option linter.unusedSimpArgs false
set_option linter.unusedVariables false
set_option maxHeartbeats 4000000
attribute [local irreducible] SW runL runQ runG runQG FC Ret1 toF redoL anyB addJ sumF formM
def kp50 : List (Nat × List Nat) := [(0, [1, 2, 3, 4]), (1, [1, 2, 3, 4, 23]), (2, [8, 9]), (3, [1, 2, 3, 4, 10]), (4, [1, 3, 4, 10, 24, 25, 26]), (5, [1, 3, 4, 10, 24, 25, 26, 27]), (6, [1, 3, 4, 10, 12, 24, 25, 26]), (7, [1, 3, 4, 10, 12, 13, 14, 24, 25, 26]), (8, [1, 3, 4, 10, 12, 14, 24, 25, 26, 42]), (9, [8, 9]), (10, [1, 3, 4, 10, 12, 24, 25, 26, 43]), (11, [1, 3, 4, 10, 24, 25, 26]), (12, [1, 3, 4, 10, 24, 25, 26]), (13, [8, 9])]
attribute [go_sem] kp50
theorem weighPairs_fc (p : List Nat) (hp : p ≠ []) (x : SystemT) (P : List DepPairT) (set : List Int) (ps : List PolyT) (hA : AllowP x (ps.take x.sig.length)) (hM : MarkedP x.sig ps) (hP : ∀ p ∈ P, PrOk x.sig p) (hS : SetP set P.length) (hl : P.length ≤ 64) : FC S 50 [] [] [] [SystemD x, .sl .any (P.map DepPairD), .sl .any (set.map (.int .i64)), .sl .any (ps.map PolyD)] (.tup [Int64SL p (wR x.sig P set ps).1, .bool (wR x.sig P set ps).2]) [] [] := by
  have hsl := set_le hS
  have hm := hM.1
  have hat : ∀ i < set.length, (0 ≤ set.getD i default ∧ set.getD i default < P.length) ∧ PrOk x.sig (P.getD (set.getD i default).toNat default) := fun i hi => by
    have h := (hS i hi).1
    exact ⟨h, hP _ (getD_mem P _ (by omega))⟩
  refine fc_body Tryz.func50 rfl (by kernel_rfl) (by simp [Tryz.f50]) fun B => ?_
  simp only [Tryz.ntmps50, enumD, List.map_nil, List.map_cons, List.length_map, Nat.zero_add, Nat.reduceAdd]
  repeat' first
    | ((exact absurd hA.2 (by assumption)))
    | exact Bool.noConfusion h
    | refine sw_seq ?_
    | refine sw_block ?_
    | refine sw_skip ?_
    | refine sw_inBlock ?_
    | refine sw_go 0 kp50 fun K hK => ?_
    | refine fun (K : List Oper → LS → Prop) (hK : KOk S 0 _ _ _ K) => ?_
    | refine sw_goD kp50 (by kernel_rfl) fun K hK => ?_
    | ((first | refine runL_go ?_ | refine runQ_go ?_); simp (disch := (refine Om.mk ?_; omega)) only [go_sem])
    | (refine hK.nil ?_; clear hK K; simp only [go_sem])
    | (refine sw_cond rfl (fun h => ?_) (fun h => ?_) <;> (try simp (disch := (refine Om.mk ?_; omega)) only [go_sem] at h))
    | (refine sw_exit rfl ?_)
    | (refine sw_loopEnd ?_)
    | ((first | refine sw_ret (ret0 ?_) | refine sw_ret ?_); simp (disch := (refine Om.mk ?_; omega)) only [go_sem, Tryz.results50])
    | refine hK.call rfl rfl rfl (polyRulesF_fc x (ps.take x.sig.length) hA.1.1 hA.1.2.ps) ⟨(by intro p hp; cases hp), rfl, rfl, (by simp only [dstOk, Nat.reduceLT])⟩ ?_
    | (with_reducible refine And.intro (by first | omega | (simp only [List.length_append, List.length_take, List.length_drop, List.length_cons, List.length_nil, List.length_map]; omega)) ?_)
    | ((with_reducible refine And.intro ?_ ?_); · first | (intro x hx; subst hx; rfl) | exact upR_mem fun _ _ => rfl | exact mapR_mem fun _ _ => rfl | (intro x; refine And.intro ?_ ?_ <;> (intros; subst_vars; rfl)))
    | fail
  refine sw_tok 10 48000 2 1 rfl (.inl rfl) rfl ?_
  simp only [go_sem]
  refine sw_loopT (ι := Nat) (fun i => [(26, .int .i64 i), (10, .sl (.own 48000 2 1) ((wL x.sig P set ps i).map (.int .i64)))]) (fun _ => []) (fun _ => [48000]) (fun i => i ≤ set.length ∧ ∀ j < i, PMost x.sig ps (P.getD (set.getD j default).toNat default)) (fun i => set.length - i) 0 (by (refine covers_mk0 rfl rfl ?_ ?_ ?_ ?_ <;> simp (disch := (refine Om.mk ?_; omega)) only [go_sem] <;> (try omega)); all_goals exact ⟨rfl, rfl⟩) ⟨by omega, fun j hj => absurd hj (by omega)⟩ (fun i hi => ?_)
  obtain ⟨hi, hj⟩ := hi
  simp only [go_sem]
  have hwl := wL_len x.sig P set ps i
  by_cases hil : i < set.length
  · have hq := hat i hil
    have h1 := hq.1
    repeat' first
      | ((exfalso; omega))
      | exact Bool.noConfusion h
      | refine sw_seq ?_
      | refine sw_block ?_
      | refine sw_skip ?_
      | refine sw_inBlock ?_
      | refine sw_go 0 kp50 fun K hK => ?_
      | refine fun (K : List Oper → LS → Prop) (hK : KOk S 0 _ _ _ K) => ?_
      | refine sw_goD kp50 (by kernel_rfl) fun K hK => ?_
      | ((first | refine runL_go ?_ | refine runQ_go ?_); simp (disch := (refine Om.mk ?_; omega)) only [go_sem])
      | (refine hK.nil ?_; clear hK K; simp only [go_sem])
      | (refine sw_cond rfl (fun h => ?_) (fun h => ?_) <;> (try simp (disch := (refine Om.mk ?_; omega)) only [go_sem] at h))
      | (refine sw_exit rfl ?_)
      | (refine sw_loopEnd ?_)
      | ((first | refine sw_ret (ret0 ?_) | refine sw_ret ?_); simp (disch := (refine Om.mk ?_; omega)) only [go_sem, Tryz.results50])
      | refine hK.call rfl rfl rfl (comparePair_fc x.sig ps (P.getD (set.getD i default).toNat default) hM hq.2) ⟨(by intro p hp; cases hp), rfl, rfl, (by simp only [dstOk, Nat.reduceLT])⟩ ?_
      | (with_reducible refine And.intro (by first | omega | (simp only [List.length_append, List.length_take, List.length_drop, List.length_cons, List.length_nil, List.length_map]; omega)) ?_)
      | ((with_reducible refine And.intro ?_ ?_); · first | (intro x hx; subst hx; rfl) | exact upR_mem fun _ _ => rfl | exact mapR_mem fun _ _ => rfl | (intro x; refine And.intro ?_ ?_ <;> (intros; subst_vars; rfl)))
      | fail
    · rw [wR_no fun e => h (e i hil)]
      first | exact ⟨rfl, rfl⟩ | exact ⟨le0_refl _, rfl⟩ | (refine ⟨?_, rfl⟩; simp [le0])
    · exact ⟨i + 1, (by (refine covers_mk0 rfl rfl ?_ ?_ ?_ ?_ <;> simp (disch := (refine Om.mk ?_; omega)) only [go_sem] <;> (try omega)); rw [wL_yes (by assumption)]; exact ⟨rfl, by omega⟩), ⟨by omega, upto_succ hj (by assumption)⟩, by omega⟩
    · exact ⟨i + 1, (by (refine covers_mk0 rfl rfl ?_ ?_ ?_ ?_ <;> simp (disch := (refine Om.mk ?_; omega)) only [go_sem] <;> (try omega)); rw [wL_no (by assumption)]; exact ⟨rfl, by omega⟩), ⟨by omega, upto_succ hj (by assumption)⟩, by omega⟩
  · repeat' first
      | ((exfalso; omega))
      | (refine sw_lab 10 p (k := 48000) rfl (by simp) hp ?_; simp only [go_sem])
      | exact Bool.noConfusion h
      | refine sw_seq ?_
      | refine sw_block ?_
      | refine sw_skip ?_
      | refine sw_inBlock ?_
      | refine sw_go 0 kp50 fun K hK => ?_
      | refine fun (K : List Oper → LS → Prop) (hK : KOk S 0 _ _ _ K) => ?_
      | refine sw_goD kp50 (by kernel_rfl) fun K hK => ?_
      | ((first | refine runL_go ?_ | refine runQ_go ?_); simp (disch := (refine Om.mk ?_; omega)) only [go_sem])
      | (refine hK.nil ?_; clear hK K; simp only [go_sem])
      | (refine sw_cond rfl (fun h => ?_) (fun h => ?_) <;> (try simp (disch := (refine Om.mk ?_; omega)) only [go_sem] at h))
      | (refine sw_exit rfl ?_)
      | (refine sw_loopEnd ?_)
      | ((first | refine sw_ret (ret0 ?_) | refine sw_ret ?_); simp (disch := (refine Om.mk ?_; omega)) only [go_sem, Tryz.results50])
      | (with_reducible refine And.intro (by first | omega | (simp only [List.length_append, List.length_take, List.length_drop, List.length_cons, List.length_nil, List.length_map]; omega)) ?_)
      | ((with_reducible refine And.intro ?_ ?_); · first | (intro x hx; subst hx; rfl) | exact upR_mem fun _ _ => rfl | exact mapR_mem fun _ _ => rfl | (intro x; refine And.intro ?_ ?_ <;> (intros; subst_vars; rfl)))
      | fail
    rw [wR_yes fun j hj' => hj j (by omega), show i = set.length by omega]
    exact ⟨rfl, rfl⟩
theorem weighNo_fc (x : SystemT) (P : List DepPairT) (set : List Int) (ps : List PolyT) (p : List Nat) (hx : SystemOkP x) (hA : ¬ AllowP x (ps.take x.sig.length)) (hM : MarkedP x.sig ps) : FC S 50 [] [] [] [SystemD x, .sl .any (P.map DepPairD), .sl .any (set.map (.int .i64)), .sl .any (ps.map PolyD)] (.tup [Int64SL p [], .bool false]) [] [] := by
  have hm := hM.1
  refine fc_body Tryz.func50 rfl (by kernel_rfl) (by simp [Tryz.f50]) fun B => ?_
  simp only [Tryz.ntmps50, enumD, List.map_nil, List.map_cons, List.length_map, Nat.zero_add, Nat.reduceAdd]
  repeat' first
    | ((exact absurd ⟨⟨hx, hM.2.1⟩, by assumption⟩ hA))
    | exact Bool.noConfusion h
    | refine sw_seq ?_
    | refine sw_block ?_
    | refine sw_skip ?_
    | refine sw_inBlock ?_
    | refine sw_go 0 kp50 fun K hK => ?_
    | refine fun (K : List Oper → LS → Prop) (hK : KOk S 0 _ _ _ K) => ?_
    | refine sw_goD kp50 (by kernel_rfl) fun K hK => ?_
    | ((first | refine runL_go ?_ | refine runQ_go ?_); simp (disch := (refine Om.mk ?_; omega)) only [go_sem])
    | (refine hK.nil ?_; clear hK K; simp only [go_sem])
    | (refine sw_cond rfl (fun h => ?_) (fun h => ?_) <;> (try simp (disch := (refine Om.mk ?_; omega)) only [go_sem] at h))
    | (refine sw_exit rfl ?_)
    | (refine sw_loopEnd ?_)
    | ((first | refine sw_ret (ret0 ?_) | refine sw_ret ?_); simp (disch := (refine Om.mk ?_; omega)) only [go_sem, Tryz.results50])
    | refine hK.call rfl rfl rfl (polyRulesF_fc x (ps.take x.sig.length) hx hM.2.1.ps) ⟨(by intro p hp; cases hp), rfl, rfl, (by simp only [dstOk, Nat.reduceLT])⟩ ?_
    | (with_reducible refine And.intro (by first | omega | (simp only [List.length_append, List.length_take, List.length_drop, List.length_cons, List.length_nil, List.length_map]; omega)) ?_)
    | ((with_reducible refine And.intro ?_ ?_); · first | (intro x hx; subst hx; rfl) | exact upR_mem fun _ _ => rfl | exact mapR_mem fun _ _ => rfl | (intro x; refine And.intro ?_ ?_ <;> (intros; subst_vars; rfl)))
    | fail
theorem weighR_mc (x : SystemT) (set : List Int) (ps : List PolyT) : mcInt64S (weighR x set ps).1 ≤ 64 := by
  show (weighR x set ps).1.length ≤ 64
  rcases Classical.em (WeighP x set ps) with h | h
  · rw [weighR_yes h]
    have h64 : (allP x).length ≤ 64 := h.1.1.1.2
    have hs := set_le h.1.1.2
    rcases Classical.em (WAll x.sig (allP x) set ps) with h1 | h1
    · rw [wR_yes h1]
      have := wL_len x.sig (allP x) set ps set.length
      show (wL x.sig (allP x) set ps set.length).length ≤ 64
      omega
    · rw [wR_no h1]; simp
  · rw [weighR_no h]; simp
def kp14 : List (Nat × List Nat) := [(0, [1, 2, 3]), (1, [1, 2, 3, 8, 9]), (2, [1, 2, 3, 8, 30]), (3, [6, 7]), (4, [6, 7])]
attribute [go_sem] kp14
theorem implWeighedBy_fc (p : List Nat) (hp : p ≠ []) (x : SystemT) (set : List Int) (ps : List PolyT) : FC S 14 [] [] [] [SystemD x, .sl .any (set.map (.int .i64)), .sl .any (ps.map PolyD)] (.tup [Int64SL p (weighR x set ps).1, .bool (weighR x set ps).2]) [] [] := by
  have cP := implPairsOf_fc x
  rcases Classical.em (WeighP x set ps) with hW | hW
  · rw [weighR_yes hW]
    obtain ⟨⟨⟨hx, hS⟩, hM⟩, hA⟩ := hW
    rw [pairsR_yes hx] at cP
    have hsg := hx.1.1.1.1
    have h64 : (allP x).length ≤ 64 := hx.2
    refine fc_body Tryz.func14 rfl (by kernel_rfl) (by simp [Tryz.f14]) fun B => ?_
    simp only [Tryz.ntmps14, enumD, List.map_nil, List.map_cons, List.length_map, Nat.zero_add, Nat.reduceAdd]
    repeat' first
      | ((exfalso; omega))
      | ((exact absurd hS (by assumption)))
      | ((exact absurd hM (by assumption)))
      | exact Bool.noConfusion h
      | refine sw_seq ?_
      | refine sw_block ?_
      | refine sw_skip ?_
      | refine sw_inBlock ?_
      | refine sw_go 0 kp14 fun K hK => ?_
      | refine fun (K : List Oper → LS → Prop) (hK : KOk S 0 _ _ _ K) => ?_
      | ((first | refine runL_go ?_ | refine runQ_go ?_); simp (disch := (refine Om.mk ?_; omega)) only [go_sem])
      | (refine hK.nil ?_; clear hK K; simp only [go_sem])
      | (refine runG_fork rfl rfl rfl rfl rfl (fun h => ?_) (fun h => ?_) <;> (try simp (disch := (refine Om.mk ?_; omega)) only [go_sem] at h))
      | (refine hK.skip rfl (by simp only [dstOk, Nat.reduceLT]) ?_)
      | (refine sw_cond rfl (fun h => ?_) (fun h => ?_) <;> (try simp (disch := (refine Om.mk ?_; omega)) only [go_sem] at h))
      | (refine sw_exit rfl ?_)
      | (refine sw_loopEnd ?_)
      | ((first | refine sw_ret (ret0 ?_) | refine sw_ret ?_); simp (disch := (refine Om.mk ?_; omega)) only [go_sem, Tryz.results14])
      | refine hK.call rfl rfl rfl (cP) ⟨(by intro p hp; cases hp), rfl, rfl, (by simp only [dstOk, Nat.reduceLT])⟩ ?_
      | refine hK.call rfl rfl rfl (setOk_fc set _ (by omega)) ⟨(by intro p hp; cases hp), rfl, rfl, (by simp only [dstOk, Nat.reduceLT])⟩ ?_
      | refine hK.call rfl rfl rfl (implMarkedOk_fc _ _ (by omega)) ⟨(by intro p hp; cases hp), rfl, rfl, (by simp only [dstOk, Nat.reduceLT])⟩ ?_
      | refine hK.call rfl rfl rfl (weighPairs_fc p hp x (allP x) set ps hA hM (allP_ok hx) hS h64) ⟨(by intro p hp; cases hp), rfl, rfl, (by simp only [dstOk, Nat.reduceLT])⟩ ?_
      | (refine hK.fork rfl rfl rfl (fun h => ?_) (fun h => ?_) <;> (try simp (disch := (refine Om.mk ?_; omega)) only [go_sem] at h))
      | (with_reducible refine And.intro (by first | omega | (simp only [List.length_append, List.length_take, List.length_drop, List.length_cons, List.length_nil, List.length_map]; omega)) ?_)
      | ((with_reducible refine And.intro ?_ ?_); · first | (intro x hx; subst hx; rfl) | exact upR_mem fun _ _ => rfl | exact mapR_mem fun _ _ => rfl | (intro x; refine And.intro ?_ ?_ <;> (intros; subst_vars; rfl)))
      | fail
  · rw [weighR_no hW]
    rcases Classical.em (PairsP x) with hx | hx
    · rw [pairsR_yes hx] at cP
      have hsg := hx.1.1.1.1
      have h64 : (allP x).length ≤ 64 := hx.2
      rcases Classical.em (SetP set (allP x).length) with hS | hS
      · rcases Classical.em (MarkedP x.sig ps) with hM | hM
        · skip
          refine fc_body Tryz.func14 rfl (by kernel_rfl) (by simp [Tryz.f14]) fun B => ?_
          simp only [Tryz.ntmps14, enumD, List.map_nil, List.map_cons, List.length_map, Nat.zero_add, Nat.reduceAdd]
          repeat' first
            | ((exact absurd hM (by assumption)))
            | ((exact absurd hS (by assumption)))
            | exact Bool.noConfusion h
            | refine sw_seq ?_
            | refine sw_block ?_
            | refine sw_skip ?_
            | refine sw_inBlock ?_
            | refine sw_go 0 kp14 fun K hK => ?_
            | refine fun (K : List Oper → LS → Prop) (hK : KOk S 0 _ _ _ K) => ?_
            | ((first | refine runL_go ?_ | refine runQ_go ?_); simp (disch := (refine Om.mk ?_; omega)) only [go_sem])
            | (refine hK.nil ?_; clear hK K; simp only [go_sem])
            | (refine runG_fork rfl rfl rfl rfl rfl (fun h => ?_) (fun h => ?_) <;> (try simp (disch := (refine Om.mk ?_; omega)) only [go_sem] at h))
            | (refine hK.skip rfl (by simp only [dstOk, Nat.reduceLT]) ?_)
            | (refine sw_cond rfl (fun h => ?_) (fun h => ?_) <;> (try simp (disch := (refine Om.mk ?_; omega)) only [go_sem] at h))
            | (refine sw_exit rfl ?_)
            | (refine sw_loopEnd ?_)
            | ((first | refine sw_ret (ret0 ?_) | refine sw_ret ?_); simp (disch := (refine Om.mk ?_; omega)) only [go_sem, Tryz.results14])
            | refine hK.call rfl rfl rfl (cP) ⟨(by intro p hp; cases hp), rfl, rfl, (by simp only [dstOk, Nat.reduceLT])⟩ ?_
            | refine hK.call rfl rfl rfl (setOk_fc set _ (by omega)) ⟨(by intro p hp; cases hp), rfl, rfl, (by simp only [dstOk, Nat.reduceLT])⟩ ?_
            | refine hK.call rfl rfl rfl (implMarkedOk_fc _ _ (by omega)) ⟨(by intro p hp; cases hp), rfl, rfl, (by simp only [dstOk, Nat.reduceLT])⟩ ?_
            | refine hK.call rfl rfl rfl (weighNo_fc x (allP x) set ps p hx.1 (fun hA => hW ⟨⟨⟨hx, hS⟩, hM⟩, hA⟩) hM) ⟨(by intro p hp; cases hp), rfl, rfl, (by simp only [dstOk, Nat.reduceLT])⟩ ?_
            | (refine hK.fork rfl rfl rfl (fun h => ?_) (fun h => ?_) <;> (try simp (disch := (refine Om.mk ?_; omega)) only [go_sem] at h))
            | (with_reducible refine And.intro (by first | omega | (simp only [List.length_append, List.length_take, List.length_drop, List.length_cons, List.length_nil, List.length_map]; omega)) ?_)
            | ((with_reducible refine And.intro ?_ ?_); · first | (intro x hx; subst hx; rfl) | exact upR_mem fun _ _ => rfl | exact mapR_mem fun _ _ => rfl | (intro x; refine And.intro ?_ ?_ <;> (intros; subst_vars; rfl)))
            | fail
        · skip
          refine fc_body Tryz.func14 rfl (by kernel_rfl) (by simp [Tryz.f14]) fun B => ?_
          simp only [Tryz.ntmps14, enumD, List.map_nil, List.map_cons, List.length_map, Nat.zero_add, Nat.reduceAdd]
          repeat' first
            | ((exact absurd (by assumption) hM))
            | ((exact absurd hS (by assumption)))
            | exact Bool.noConfusion h
            | refine sw_seq ?_
            | refine sw_block ?_
            | refine sw_skip ?_
            | refine sw_inBlock ?_
            | refine sw_go 0 kp14 fun K hK => ?_
            | refine fun (K : List Oper → LS → Prop) (hK : KOk S 0 _ _ _ K) => ?_
            | ((first | refine runL_go ?_ | refine runQ_go ?_); simp (disch := (refine Om.mk ?_; omega)) only [go_sem])
            | (refine hK.nil ?_; clear hK K; simp only [go_sem])
            | (refine runG_fork rfl rfl rfl rfl rfl (fun h => ?_) (fun h => ?_) <;> (try simp (disch := (refine Om.mk ?_; omega)) only [go_sem] at h))
            | (refine hK.skip rfl (by simp only [dstOk, Nat.reduceLT]) ?_)
            | (refine sw_cond rfl (fun h => ?_) (fun h => ?_) <;> (try simp (disch := (refine Om.mk ?_; omega)) only [go_sem] at h))
            | (refine sw_exit rfl ?_)
            | (refine sw_loopEnd ?_)
            | ((first | refine sw_ret (ret0 ?_) | refine sw_ret ?_); simp (disch := (refine Om.mk ?_; omega)) only [go_sem, Tryz.results14])
            | refine hK.call rfl rfl rfl (cP) ⟨(by intro p hp; cases hp), rfl, rfl, (by simp only [dstOk, Nat.reduceLT])⟩ ?_
            | refine hK.call rfl rfl rfl (setOk_fc set _ (by omega)) ⟨(by intro p hp; cases hp), rfl, rfl, (by simp only [dstOk, Nat.reduceLT])⟩ ?_
            | refine hK.call rfl rfl rfl (implMarkedOk_fc _ _ (by omega)) ⟨(by intro p hp; cases hp), rfl, rfl, (by simp only [dstOk, Nat.reduceLT])⟩ ?_
            | (refine hK.fork rfl rfl rfl (fun h => ?_) (fun h => ?_) <;> (try simp (disch := (refine Om.mk ?_; omega)) only [go_sem] at h))
            | (with_reducible refine And.intro (by first | omega | (simp only [List.length_append, List.length_take, List.length_drop, List.length_cons, List.length_nil, List.length_map]; omega)) ?_)
            | ((with_reducible refine And.intro ?_ ?_); · first | (intro x hx; subst hx; rfl) | exact upR_mem fun _ _ => rfl | exact mapR_mem fun _ _ => rfl | (intro x; refine And.intro ?_ ?_ <;> (intros; subst_vars; rfl)))
            | fail
      · skip
        refine fc_body Tryz.func14 rfl (by kernel_rfl) (by simp [Tryz.f14]) fun B => ?_
        simp only [Tryz.ntmps14, enumD, List.map_nil, List.map_cons, List.length_map, Nat.zero_add, Nat.reduceAdd]
        repeat' first
          | ((exact absurd (by assumption) hS))
          | exact Bool.noConfusion h
          | refine sw_seq ?_
          | refine sw_block ?_
          | refine sw_skip ?_
          | refine sw_inBlock ?_
          | refine sw_go 0 kp14 fun K hK => ?_
          | refine fun (K : List Oper → LS → Prop) (hK : KOk S 0 _ _ _ K) => ?_
          | ((first | refine runL_go ?_ | refine runQ_go ?_); simp (disch := (refine Om.mk ?_; omega)) only [go_sem])
          | (refine hK.nil ?_; clear hK K; simp only [go_sem])
          | (refine runG_fork rfl rfl rfl rfl rfl (fun h => ?_) (fun h => ?_) <;> (try simp (disch := (refine Om.mk ?_; omega)) only [go_sem] at h))
          | (refine hK.skip rfl (by simp only [dstOk, Nat.reduceLT]) ?_)
          | (refine sw_cond rfl (fun h => ?_) (fun h => ?_) <;> (try simp (disch := (refine Om.mk ?_; omega)) only [go_sem] at h))
          | (refine sw_exit rfl ?_)
          | (refine sw_loopEnd ?_)
          | ((first | refine sw_ret (ret0 ?_) | refine sw_ret ?_); simp (disch := (refine Om.mk ?_; omega)) only [go_sem, Tryz.results14])
          | refine hK.call rfl rfl rfl (cP) ⟨(by intro p hp; cases hp), rfl, rfl, (by simp only [dstOk, Nat.reduceLT])⟩ ?_
          | refine hK.call rfl rfl rfl (setOk_fc set _ (by omega)) ⟨(by intro p hp; cases hp), rfl, rfl, (by simp only [dstOk, Nat.reduceLT])⟩ ?_
          | (refine hK.fork rfl rfl rfl (fun h => ?_) (fun h => ?_) <;> (try simp (disch := (refine Om.mk ?_; omega)) only [go_sem] at h))
          | (with_reducible refine And.intro (by first | omega | (simp only [List.length_append, List.length_take, List.length_drop, List.length_cons, List.length_nil, List.length_map]; omega)) ?_)
          | ((with_reducible refine And.intro ?_ ?_); · first | (intro x hx; subst hx; rfl) | exact upR_mem fun _ _ => rfl | exact mapR_mem fun _ _ => rfl | (intro x; refine And.intro ?_ ?_ <;> (intros; subst_vars; rfl)))
          | fail
    · rw [pairsR_no hx] at cP
      refine fc_body Tryz.func14 rfl (by kernel_rfl) (by simp [Tryz.f14]) fun B => ?_
      simp only [Tryz.ntmps14, enumD, List.map_nil, List.map_cons, List.length_map, Nat.zero_add, Nat.reduceAdd]
      repeat' first
        | exact Bool.noConfusion h
        | refine sw_seq ?_
        | refine sw_block ?_
        | refine sw_skip ?_
        | refine sw_inBlock ?_
        | refine sw_go 0 kp14 fun K hK => ?_
        | refine fun (K : List Oper → LS → Prop) (hK : KOk S 0 _ _ _ K) => ?_
        | ((first | refine runL_go ?_ | refine runQ_go ?_); simp (disch := (refine Om.mk ?_; omega)) only [go_sem])
        | (refine hK.nil ?_; clear hK K; simp only [go_sem])
        | (refine runG_fork rfl rfl rfl rfl rfl (fun h => ?_) (fun h => ?_) <;> (try simp (disch := (refine Om.mk ?_; omega)) only [go_sem] at h))
        | (refine hK.skip rfl (by simp only [dstOk, Nat.reduceLT]) ?_)
        | (refine sw_cond rfl (fun h => ?_) (fun h => ?_) <;> (try simp (disch := (refine Om.mk ?_; omega)) only [go_sem] at h))
        | (refine sw_exit rfl ?_)
        | (refine sw_loopEnd ?_)
        | ((first | refine sw_ret (ret0 ?_) | refine sw_ret ?_); simp (disch := (refine Om.mk ?_; omega)) only [go_sem, Tryz.results14])
        | refine hK.call rfl rfl rfl (cP) ⟨(by intro p hp; cases hp), rfl, rfl, (by simp only [dstOk, Nat.reduceLT])⟩ ?_
        | (refine hK.fork rfl rfl rfl (fun h => ?_) (fun h => ?_) <;> (try simp (disch := (refine Om.mk ?_; omega)) only [go_sem] at h))
        | (with_reducible refine And.intro (by first | omega | (simp only [List.length_append, List.length_take, List.length_drop, List.length_cons, List.length_nil, List.length_map]; omega)) ?_)
        | ((with_reducible refine And.intro ?_ ?_); · first | (intro x hx; subst hx; rfl) | exact upR_mem fun _ _ => rfl | exact mapR_mem fun _ _ => rfl | (intro x; refine And.intro ?_ ?_ <;> (intros; subst_vars; rfl)))
        | fail
end Go.Proofs.YtpfeecgbiikpaaaGreat
