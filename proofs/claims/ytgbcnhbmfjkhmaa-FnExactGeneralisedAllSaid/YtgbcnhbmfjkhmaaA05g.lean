/-
  What two terms have in common: both sides.
-/
import Derived.Test.YtgbcnhbmfjkhmaaA05p
import Derived.Test.YtgbcnhbmfjkhmaaA04
import Derived.Test.YtgbcnhbmfjkhmaaLTy
import Derived.Test.YtgbcnhbmfjkhmaaLgK5
import Derived.Test.YtgbcnhbmfjkhmaaLgK4
import Derived.Test.YtgbcnhbmfjkhmaaLgK7
namespace Go.Proofs.Ytgbcnhbmfjkhmaa
open Go Go.Lg
set_option linter.unusedSimpArgs false
set_option linter.unusedVariables false
set_option maxHeartbeats 4000000
attribute [local irreducible] SW runL runQ runG runQG FC Ret1 RetN toF redoL
attribute [local go_sem] List.filter_cons
def lftD (q : List Int × List Int) : D := IntsD q.1
def rgtD (q : List Int × List Int) : D := IntsD q.2
attribute [local go_sem] lftD rgtD
theorem subS_zero {rs t : List Int} (h : TermOkP rs t) : subS rs t 0 = t := by
  have h0 := h.2.2
  unfold subS
  rw [List.drop_zero, h0]
  simp
theorem ret_pair (L : LS) (T a b : Nat) (hab : a ≠ b) (tk : Tk) (xs xs' ys zs : List D) (P : Prs) (ha : a ∈ L.toks) (hb : b ∈ L.toks) (hx : xs' = xs) (hy : ys = P.map lftD) (hz : zs = P.map rgtD) : RetK (.tup [.sl .any xs, .sl (.own 0 T 1) (P.map lftD), .sl (.own 1 T 1) (P.map rgtD)]) [] 2 L (.tup [.sl tk xs', .sl (.own a T 1) ys, .sl (.own b T 1) zs]) := by
  subst hx hy hz
  refine ⟨[a, b], .tup [.sl .any xs', .sl (.own a T 1) (P.map lftD), .sl (.own b T 1) (P.map rgtD)], by rw [le_tup]; exact ⟨.any, .refl _, .refl _, trivial⟩, ⟨rfl, by simp [hab]⟩, ?_, ?_, ?_, by simp⟩
  · intro t ht; simp only [List.mem_cons, List.not_mem_nil, or_false] at ht; rcases ht with rfl | rfl <;> assumption
  · intro k hk; simpa [D.tks, D.tksL] using hk
  · have : (a == b) = false := by simpa using hab
    simp [D.mT, D.mTL, List.idxOf_cons, this]
def kp186 : List (Nat × List Nat) := [(0, [1, 2, 3, 4, 5, 6, 7]), (1, [1, 2, 3, 4, 5, 6, 7, 42]), (2, [1, 2, 3, 4, 5, 6, 7, 17]), (3, [1, 3, 4, 5, 6, 7, 17, 18]), (4, [1, 3, 5, 6, 7, 17, 18, 19]), (5, [1, 3, 5, 6, 7, 17, 18, 19, 20]), (6, [1, 3, 5, 6, 7, 17, 18, 19, 20, 59]), (8, [1, 3, 7, 17, 18, 19, 20, 21, 22, 23]), (9, [1, 3, 7, 17, 18, 19, 20, 22, 23]), (10, [1, 3, 5, 7, 17, 18, 19, 20, 23]), (11, [1, 3, 5, 6, 7, 17, 18, 19, 20]), (7, [1, 3, 5, 6, 7, 17, 18, 19, 20]), (12, [14, 15, 16]), (13, [3, 4, 5, 6, 7, 24]), (14, [5, 6, 24, 25]), (15, [5, 6, 24, 25, 26]), (16, [5, 6, 24, 25, 26, 99]), (18, [5, 6, 24, 25, 26, 115]), (19, [14, 15, 16]), (17, [5, 6, 24, 25, 26]), (20, [14, 15, 16])]
attribute [go_sem] kp186
theorem l5General_fc (rs t u : List Int) (hT : TermOkP rs t) (hU : TermOkP rs u) : ∀ (f : Nat) (i k : Nat) (P : Prs), i < t.length → k < u.length → (subS rs t i).length ≤ f → P.length + (subS rs t i).length ≤ 200 → FC S 186 [] [] [5, 6] [.agg [.sl .any (rs.map (.int .i64))], .sl .any (t.map (.int .i64)), .int .i64 i, .sl .any (u.map (.int .i64)), .int .i64 k, .sl (.own 5 22 1) (P.map lftD), .sl (.own 6 22 1) (P.map rgtD)]
    (.tup [.sl .any ((genM rs f (subS rs t i) (subS rs u k) P).1.map (.int .i64)), .sl (.own 0 22 1) ((genM rs f (subS rs t i) (subS rs u k) P).2.map lftD), .sl (.own 1 22 1) ((genM rs f (subS rs t i) (subS rs u k) P).2.map rgtD)]) [] [0, 1] := by
  intro f
  induction f with
  | zero => intro i k P hi hk hf hp; have := (subS_ok hT hi).2.1.1; omega
  | succ f ih =>
    intro i k P hi hk hf hp
    have htl := hT.2.1
    have hul := hU.2.1
    have oa := subS_ok hT hi
    have ob := subS_ok hU hk
    obtain ⟨ha0, ha1⟩ := sub_sub hT hi
    obtain ⟨hb0, hb1⟩ := sub_sub hU hk
    by_cases hs : SameHd (subS rs t i) (subS rs u k)
    · have hs1 := hs.1
      have hs2 := hs.2
      rw [show genM rs (f + 1) (subS rs t i) (subS rs u k) P = genA (genM rs f) rs (subS rs t i) (subS rs u k) P (arS rs ((subS rs t i).getD 0 default)).toNat by rw [genM, if_pos hs]]
      have hgl := genA_len (f := f) (P := P) oa ob hs
      have hnl := fun j => nthB_lt (j := j) oa (a := 0) (by have := oa.2.1; omega)
      have hsn := fun j => subS_nth (j := j) oa (a := 0) (by have := oa.2.1; omega)
      rw [ha0, hb0] at hs1
      rw [ha0] at hs2 hgl hnl hsn ⊢
      simp only [Nat.zero_add] at hnl hsn
      have hlo := hT.low hi
      have hal := argsS_len rs t i
      have hbl := argsS_len rs u k
      rw [← hs1] at hbl hb1
      have hag := fun j => argsS_get rs t i j
      have hbg := fun j => argsS_get rs u k j
      rw [← hs1] at hbg
      have hna := fun j => nthB_lt (j := j) hT hi
      have hnb := fun j => nthB_lt (j := j) hU hk
      rw [← hs1] at hnb
      have hle := fun j => nthB_le (j := j) oa (a := 0) (by have := oa.2.1; omega)
      rw [ha0] at hle
      simp only [Nat.zero_add] at hle
      generalize hn : (arS rs (t.getD i default)).toNat = n at *
      have hal60 := oa.2.1.2
      refine fc_bodyN Try.func186 rfl (by kernel_rfl) (by simp [Try.f186]) rfl fun B => ?_
      simp only [Try.ntmps186, enumD, List.map_nil, List.map_cons, List.length_map, Nat.zero_add, Nat.reduceAdd]
      repeat' first
        | ((exfalso; omega))
        | exact Bool.noConfusion h
        | refine sw_seq ?_
        | refine sw_block ?_
        | refine sw_skip ?_
        | refine sw_inBlock ?_
        | refine sw_go 0 kp186 fun K hK => ?_
        | refine fun (K : List Oper → LS → Prop) (hK : KOk S 0 _ _ _ K) => ?_
        | refine sw_goD kp186 (by kernel_rfl) fun K hK => ?_
        | ((first | refine runL_go ?_ | refine runQ_go ?_); simp (disch := (refine Om.mk ?_; omega)) only [go_sem, Nat.reduceAdd, Nat.reduceMul, Nat.reduceLT, Nat.reduceLeDiff, Nat.reduceEqDiff, Nat.reduceBEq, Nat.reduceSub, ↓reduceIte, reduceCtorEq])
        | (refine hK.nil ?_; clear hK K; simp only [go_sem, Nat.reduceAdd, Nat.reduceMul, Nat.reduceLT, Nat.reduceLeDiff, Nat.reduceEqDiff, Nat.reduceBEq, Nat.reduceSub, ↓reduceIte, reduceCtorEq])
        | (refine runG_fork rfl rfl rfl rfl rfl (fun h => ?_) (fun h => ?_) <;> (try simp (disch := (refine Om.mk ?_; omega)) only [go_sem, Nat.reduceAdd, Nat.reduceMul, Nat.reduceLT, Nat.reduceLeDiff, Nat.reduceEqDiff, Nat.reduceBEq, Nat.reduceSub, ↓reduceIte, reduceCtorEq] at h))
        | (refine runQG_fork rfl rfl rfl rfl rfl (fun h => ?_) (fun h => ?_) <;> (try simp (disch := (refine Om.mk ?_; omega)) only [go_sem, Nat.reduceAdd, Nat.reduceMul, Nat.reduceLT, Nat.reduceLeDiff, Nat.reduceEqDiff, Nat.reduceBEq, Nat.reduceSub, ↓reduceIte, reduceCtorEq] at h))
        | (refine hK.skip rfl (by simp only [dstOk, Nat.reduceLT]) ?_)
        | (refine sw_cond rfl (fun h => ?_) (fun h => ?_) <;> (try simp (disch := (refine Om.mk ?_; omega)) only [go_sem, Nat.reduceAdd, Nat.reduceMul, Nat.reduceLT, Nat.reduceLeDiff, Nat.reduceEqDiff, Nat.reduceBEq, Nat.reduceSub, ↓reduceIte, reduceCtorEq] at h))
        | (refine sw_exit rfl ?_)
        | (refine sw_loopEnd ?_)
        | ((first | refine sw_ret (ret0 ?_) | refine sw_ret ?_); simp (disch := (refine Om.mk ?_; omega)) only [go_sem, Nat.reduceAdd, Nat.reduceMul, Nat.reduceLT, Nat.reduceLeDiff, Nat.reduceEqDiff, Nat.reduceBEq, Nat.reduceSub, ↓reduceIte, reduceCtorEq, Try.results186])
        | refine hK.call rfl rfl rfl (l1Args_fc _ _ rs t i hT hi) ⟨(by intro p hp; cases hp), rfl, rfl, (by simp only [dstOk, Nat.reduceLT])⟩ ?_
        | refine hK.call rfl rfl rfl (l1Args_fc _ _ rs u k hU hk) ⟨(by intro p hp; cases hp), rfl, rfl, (by simp only [dstOk, Nat.reduceLT])⟩ ?_
        | (refine hK.fork rfl rfl rfl (fun h => ?_) (fun h => ?_) <;> (try simp (disch := (refine Om.mk ?_; omega)) only [go_sem, Nat.reduceAdd, Nat.reduceMul, Nat.reduceLT, Nat.reduceLeDiff, Nat.reduceEqDiff, Nat.reduceBEq, Nat.reduceSub, ↓reduceIte, reduceCtorEq] at h))
        | (with_reducible refine And.intro (by first | omega | (simp only [List.length_append, List.length_take, List.length_drop, List.length_cons, List.length_nil]; omega)) ?_)
        | ((with_reducible refine And.intro ?_ ?_); · first | (intro x hx; subst hx; rfl) | exact upR_mem fun _ _ => rfl | exact mapR_mem fun _ _ => rfl | (intro x; refine And.intro ?_ ?_ <;> (intros; subst_vars; rfl)))
        | fail
      have h00 : (genA (genM rs f) rs (subS rs t i) (subS rs u k) P 0).1 = [t.getD i default] := by rw [genA, ha0]
      have g2 : (genA (genM rs f) rs (subS rs t i) (subS rs u k) P 0).2 = P := rfl
      refine sw_loopT (ι := Nat) (fun j => [(20, .int .i64 j), (17, if j = 0 then .sl .full ((genA (genM rs f) rs (subS rs t i) (subS rs u k) P j).1.map (.int .i64)) else .sl (.own 83000 2 1) ((genA (genM rs f) rs (subS rs t i) (subS rs u k) P j).1.map (.int .i64))), (5, .sl (.own 5 22 1) ((genA (genM rs f) rs (subS rs t i) (subS rs u k) P j).2.map lftD)), (6, .sl (.own 6 22 1) ((genA (genM rs f) rs (subS rs t i) (subS rs u k) P j).2.map rgtD))]) (fun _ => []) (fun j => if j = 0 then [5, 6] else [83000, 5, 6]) (fun j => j ≤ n) (fun j => n - j) 0 (by (refine covers_mk0 rfl rfl ?_ ?_ ?_ ?_ <;> simp (disch := (refine Om.mk ?_; omega)) only [go_sem, Nat.reduceAdd, Nat.reduceMul, Nat.reduceLT, Nat.reduceLeDiff, Nat.reduceEqDiff, Nat.reduceBEq, Nat.reduceSub, ↓reduceIte, reduceCtorEq] <;> (try omega)); all_goals first | rfl | (rw [g2, h00]; simp [List.getD]; done) | (simp; done)) (by omega) (fun j hj => ?_)
      have key : ∀ j < n, genA (genM rs f) rs (subS rs t i) (subS rs u k) P (j + 1) = ((genA (genM rs f) rs (subS rs t i) (subS rs u k) P j).1 ++ (genM rs f (subS rs t ((argsS rs t i).getD j default)) (subS rs u ((argsS rs u k).getD j default)) (genA (genM rs f) rs (subS rs t i) (subS rs u k) P j).2).1, (genM rs f (subS rs t ((argsS rs t i).getD j default)) (subS rs u ((argsS rs u k).getD j default)) (genA (genM rs f) rs (subS rs t i) (subS rs u k) P j).2).2) := fun j hj => by
        rw [hag j hj, hbg j hj, ← ha1 j hj, ← hb1 j hj]
        rfl
      have hcall : ∀ j < n, (argsS rs t i).getD j default < t.length ∧ (argsS rs u k).getD j default < u.length ∧ (subS rs t ((argsS rs t i).getD j default)).length ≤ f ∧ (genA (genM rs f) rs (subS rs t i) (subS rs u k) P j).2.length + (subS rs t ((argsS rs t i).getD j default)).length ≤ 200 := fun j hj => by
        have e1 := hgl j (by omega)
        have e2 := hnl j hj
        have e3 := hsn j hj
        have e4 := hle (j + 1) (by omega)
        rw [hag j hj, hbg j hj]
        refine ⟨(hna j hj).2, (hnb j hj).2, ?_, ?_⟩ <;> rw [← ha1 j hj] <;> omega
      have hpos : j < n → 1 ≤ (genM rs f (subS rs t ((argsS rs t i).getD j default)) (subS rs u ((argsS rs u k).getD j default)) (genA (genM rs f) rs (subS rs t i) (subS rs u k) P j).2).1.length := fun hj => by
        have e1 := hcall j hj
        have e3 := (subS_ok hT e1.1).2.1
        exact genM_pos f _ _ _ (by omega)
      have hfit : j < n → (genM rs f (subS rs t ((argsS rs t i).getD j default)) (subS rs u ((argsS rs u k).getD j default)) (genA (genM rs f) rs (subS rs t i) (subS rs u k) P j).2).1.length ≤ 60 := fun hj => by
        have e1 := hcall j hj
        have e2 := genM_len f _ _ (genA (genM rs f) rs (subS rs t i) (subS rs u k) P j).2 (subS_ok hT e1.1) (subS_ok hU e1.2.1)
        have e3 := (subS_ok hT e1.1).2.1
        omega
      have hgj := hgl j hj
      have hnj := hle j hj
      rcases j with _ | j
      · simp only [if_true, Nat.succ_ne_zero, if_false, go_sem, Nat.reduceAdd, Nat.reduceMul, Nat.reduceLT, Nat.reduceLeDiff, Nat.reduceEqDiff, Nat.reduceBEq, Nat.reduceSub, ↓reduceIte, reduceCtorEq]
        rw [h00]
        by_cases h0 : 0 < n
        · obtain ⟨c1, c2, c3, c4⟩ := hcall 0 h0
          have c := ih _ _ _ c1 c2 c3 c4
          have hk := key 0 h0
          have hf2 := hfit h0
          have hf3 := hpos h0
          have hne := fun (r : List Int × Prs) (h1 : 1 ≤ r.1.length) => show ¬ List.map (D.int .i64) r.1 = [] from fun e => by rw [List.map_eq_nil_iff] at e; rw [e] at h1; simp at h1
          have hf4 := hne _ hf3
          clear hne
          generalize hr : genM rs f (subS rs t ((argsS rs t i).getD 0 default)) (subS rs u ((argsS rs u k).getD 0 default)) (genA (genM rs f) rs (subS rs t i) (subS rs u k) P 0).2 = r at *
          repeat' first
            | ((with_reducible refine And.intro hf4 ?_))
            | ((exfalso; omega))
            | (refine sw_renC 77000 5 rfl rfl ?_; simp only [go_sem, Nat.reduceAdd, Nat.reduceMul, Nat.reduceLT, Nat.reduceLeDiff, Nat.reduceEqDiff, Nat.reduceBEq, Nat.reduceSub, ↓reduceIte, reduceCtorEq])
            | (refine sw_renC 77001 6 rfl rfl ?_; simp only [go_sem, Nat.reduceAdd, Nat.reduceMul, Nat.reduceLT, Nat.reduceLeDiff, Nat.reduceEqDiff, Nat.reduceBEq, Nat.reduceSub, ↓reduceIte, reduceCtorEq])
            | exact Bool.noConfusion h
            | refine sw_seq ?_
            | refine sw_block ?_
            | refine sw_skip ?_
            | refine sw_inBlock ?_
            | refine sw_go 0 kp186 fun K hK => ?_
            | refine sw_goM 0 kp186 13 (id := 8) (by kernel_rfl) rfl fun K hK => ?_
            | refine fun (K : List Oper → LS → Prop) (hK : KOk S 0 _ _ _ K) => ?_
            | refine fun (K : List Oper → LS → Prop) (hK : QOk S _ _ K) => ?_
            | refine sw_goD kp186 (by kernel_rfl) fun K hK => ?_
            | ((first | refine runL_go ?_ | refine runQ_go ?_); simp (disch := (refine Om.mk ?_; omega)) only [go_sem, Nat.reduceAdd, Nat.reduceMul, Nat.reduceLT, Nat.reduceLeDiff, Nat.reduceEqDiff, Nat.reduceBEq, Nat.reduceSub, ↓reduceIte, reduceCtorEq])
            | (refine hK.nil ?_; clear hK K; simp only [go_sem, Nat.reduceAdd, Nat.reduceMul, Nat.reduceLT, Nat.reduceLeDiff, Nat.reduceEqDiff, Nat.reduceBEq, Nat.reduceSub, ↓reduceIte, reduceCtorEq])
            | (refine runG_fork rfl rfl rfl rfl rfl (fun h => ?_) (fun h => ?_) <;> (try simp (disch := (refine Om.mk ?_; omega)) only [go_sem, Nat.reduceAdd, Nat.reduceMul, Nat.reduceLT, Nat.reduceLeDiff, Nat.reduceEqDiff, Nat.reduceBEq, Nat.reduceSub, ↓reduceIte, reduceCtorEq] at h))
            | (refine runQG_fork rfl rfl rfl rfl rfl (fun h => ?_) (fun h => ?_) <;> (try simp (disch := (refine Om.mk ?_; omega)) only [go_sem, Nat.reduceAdd, Nat.reduceMul, Nat.reduceLT, Nat.reduceLeDiff, Nat.reduceEqDiff, Nat.reduceBEq, Nat.reduceSub, ↓reduceIte, reduceCtorEq] at h))
            | (refine hK.skip rfl (by simp only [dstOk, Nat.reduceLT]) ?_)
            | (refine sw_cond rfl (fun h => ?_) (fun h => ?_) <;> (try simp (disch := (refine Om.mk ?_; omega)) only [go_sem, Nat.reduceAdd, Nat.reduceMul, Nat.reduceLT, Nat.reduceLeDiff, Nat.reduceEqDiff, Nat.reduceBEq, Nat.reduceSub, ↓reduceIte, reduceCtorEq] at h))
            | (refine sw_exit rfl ?_)
            | (refine sw_loopEnd ?_)
            | ((first | refine sw_ret (ret0 ?_) | refine sw_ret ?_); simp (disch := (refine Om.mk ?_; omega)) only [go_sem, Nat.reduceAdd, Nat.reduceMul, Nat.reduceLT, Nat.reduceLeDiff, Nat.reduceEqDiff, Nat.reduceBEq, Nat.reduceSub, ↓reduceIte, reduceCtorEq, Try.results186])
            | (refine hK.callB rfl rfl rfl (c) ⟨⟨by simp only [Nat.reduceLT], (by first | (simp; all_goals fail) | (simp [LS.getBox, Lg.look]; all_goals fail)), by (simp [Lg.look]; all_goals fail), by (simp; all_goals fail), by (simp; all_goals fail)⟩, ⟨by (simp [D.ids, D.idsL]; all_goals fail), by (simp [D.ids, D.idsL]; all_goals fail), by (simp [D.tks, D.tksL]; all_goals fail), by (simp [D.tks, D.tksL]; all_goals fail), by (simp; all_goals fail)⟩, rfl⟩ ?_; simp (disch := (refine Om.mk ?_; omega)) only [go_sem, Nat.reduceAdd, Nat.reduceMul, Nat.reduceLT, Nat.reduceLeDiff, Nat.reduceEqDiff, Nat.reduceBEq, Nat.reduceSub, ↓reduceIte, reduceCtorEq])
            | (refine hK.fork rfl rfl rfl (fun h => ?_) (fun h => ?_) <;> (try simp (disch := (refine Om.mk ?_; omega)) only [go_sem, Nat.reduceAdd, Nat.reduceMul, Nat.reduceLT, Nat.reduceLeDiff, Nat.reduceEqDiff, Nat.reduceBEq, Nat.reduceSub, ↓reduceIte, reduceCtorEq] at h))
            | (with_reducible refine And.intro (by first | omega | (simp only [List.length_append, List.length_take, List.length_drop, List.length_cons, List.length_nil]; omega)) ?_)
            | ((with_reducible refine And.intro ?_ ?_); · first | (intro x hx; subst hx; rfl) | exact upR_mem fun _ _ => rfl | exact mapR_mem fun _ _ => rfl | (intro x; refine And.intro ?_ ?_ <;> (intros; subst_vars; rfl)))
            | fail
          · exact ⟨0 + 1, (by rw [hk, h00]; (refine covers_mk0 rfl rfl ?_ ?_ ?_ ?_ <;> simp (disch := (refine Om.mk ?_; omega)) only [go_sem, Nat.reduceAdd, Nat.reduceMul, Nat.reduceLT, Nat.reduceLeDiff, Nat.reduceEqDiff, Nat.reduceBEq, Nat.reduceSub, ↓reduceIte, reduceCtorEq] <;> (try omega)); all_goals first | rfl | (simp; done)), by omega, by omega⟩
        · have : n = 0 := by omega
          subst this
          repeat' first
            | ((exfalso; omega))
            | exact Bool.noConfusion h
            | refine sw_seq ?_
            | refine sw_block ?_
            | refine sw_skip ?_
            | refine sw_inBlock ?_
            | refine sw_go 0 kp186 fun K hK => ?_
            | refine fun (K : List Oper → LS → Prop) (hK : KOk S 0 _ _ _ K) => ?_
            | refine sw_goD kp186 (by kernel_rfl) fun K hK => ?_
            | ((first | refine runL_go ?_ | refine runQ_go ?_); simp (disch := (refine Om.mk ?_; omega)) only [go_sem, Nat.reduceAdd, Nat.reduceMul, Nat.reduceLT, Nat.reduceLeDiff, Nat.reduceEqDiff, Nat.reduceBEq, Nat.reduceSub, ↓reduceIte, reduceCtorEq])
            | (refine hK.nil ?_; clear hK K; simp only [go_sem, Nat.reduceAdd, Nat.reduceMul, Nat.reduceLT, Nat.reduceLeDiff, Nat.reduceEqDiff, Nat.reduceBEq, Nat.reduceSub, ↓reduceIte, reduceCtorEq])
            | (refine runG_fork rfl rfl rfl rfl rfl (fun h => ?_) (fun h => ?_) <;> (try simp (disch := (refine Om.mk ?_; omega)) only [go_sem, Nat.reduceAdd, Nat.reduceMul, Nat.reduceLT, Nat.reduceLeDiff, Nat.reduceEqDiff, Nat.reduceBEq, Nat.reduceSub, ↓reduceIte, reduceCtorEq] at h))
            | (refine runQG_fork rfl rfl rfl rfl rfl (fun h => ?_) (fun h => ?_) <;> (try simp (disch := (refine Om.mk ?_; omega)) only [go_sem, Nat.reduceAdd, Nat.reduceMul, Nat.reduceLT, Nat.reduceLeDiff, Nat.reduceEqDiff, Nat.reduceBEq, Nat.reduceSub, ↓reduceIte, reduceCtorEq] at h))
            | (refine hK.skip rfl (by simp only [dstOk, Nat.reduceLT]) ?_)
            | (refine sw_cond rfl (fun h => ?_) (fun h => ?_) <;> (try simp (disch := (refine Om.mk ?_; omega)) only [go_sem, Nat.reduceAdd, Nat.reduceMul, Nat.reduceLT, Nat.reduceLeDiff, Nat.reduceEqDiff, Nat.reduceBEq, Nat.reduceSub, ↓reduceIte, reduceCtorEq] at h))
            | (refine sw_exit rfl ?_)
            | (refine sw_loopEnd ?_)
            | ((first | refine sw_ret (ret0 ?_) | refine sw_ret ?_); simp (disch := (refine Om.mk ?_; omega)) only [go_sem, Nat.reduceAdd, Nat.reduceMul, Nat.reduceLT, Nat.reduceLeDiff, Nat.reduceEqDiff, Nat.reduceBEq, Nat.reduceSub, ↓reduceIte, reduceCtorEq, Try.results186])
            | (refine hK.callB rfl rfl rfl (ih) ⟨⟨by simp only [Nat.reduceLT], (by first | (simp; all_goals fail) | (simp [LS.getBox, Lg.look]; all_goals fail)), by (simp [Lg.look]; all_goals fail), by (simp; all_goals fail), by (simp; all_goals fail)⟩, ⟨by (simp [D.ids, D.idsL]; all_goals fail), by (simp [D.ids, D.idsL]; all_goals fail), by (simp [D.tks, D.tksL]; all_goals fail), by (simp [D.tks, D.tksL]; all_goals fail), by (simp; all_goals fail)⟩, rfl⟩ ?_; simp (disch := (refine Om.mk ?_; omega)) only [go_sem, Nat.reduceAdd, Nat.reduceMul, Nat.reduceLT, Nat.reduceLeDiff, Nat.reduceEqDiff, Nat.reduceBEq, Nat.reduceSub, ↓reduceIte, reduceCtorEq])
            | (refine hK.fork rfl rfl rfl (fun h => ?_) (fun h => ?_) <;> (try simp (disch := (refine Om.mk ?_; omega)) only [go_sem, Nat.reduceAdd, Nat.reduceMul, Nat.reduceLT, Nat.reduceLeDiff, Nat.reduceEqDiff, Nat.reduceBEq, Nat.reduceSub, ↓reduceIte, reduceCtorEq] at h))
            | (with_reducible refine And.intro (by first | omega | (simp only [List.length_append, List.length_take, List.length_drop, List.length_cons, List.length_nil]; omega)) ?_)
            | ((with_reducible refine And.intro ?_ ?_); · first | (intro x hx; subst hx; rfl) | exact upR_mem fun _ _ => rfl | exact mapR_mem fun _ _ => rfl | (intro x; refine And.intro ?_ ?_ <;> (intros; subst_vars; rfl)))
            | fail
          · unfold RetN
            simp only [go_sem, Nat.reduceAdd, Nat.reduceMul, Nat.reduceLT, Nat.reduceLeDiff, Nat.reduceEqDiff, Nat.reduceBEq, Nat.reduceSub, ↓reduceIte, reduceCtorEq]
            refine ret_pair _ _ 5 6 (by decide) _ _ _ _ _ _ ?_ ?_ ?_ ?_ ?_ <;> first | rfl | (simp; done) | (rw [h00]; rfl)
      · have hjp : ((j + 1 = 0) = False) := by simp
        simp only [hjp, if_false, go_sem, Nat.reduceAdd, Nat.reduceMul, Nat.reduceLT, Nat.reduceLeDiff, Nat.reduceEqDiff, Nat.reduceBEq, Nat.reduceSub, ↓reduceIte, reduceCtorEq]
        by_cases h0 : j + 1 < n
        · obtain ⟨c1, c2, c3, c4⟩ := hcall (j + 1) h0
          have c := ih _ _ _ c1 c2 c3 c4
          have hk := key (j + 1) h0
          have hf2 := hfit h0
          have hf3 := hpos h0
          have hne := fun (r : List Int × Prs) (h1 : 1 ≤ r.1.length) => show ¬ List.map (D.int .i64) r.1 = [] from fun e => by rw [List.map_eq_nil_iff] at e; rw [e] at h1; simp at h1
          have hf4 := hne _ hf3
          clear hne
          generalize hr : genM rs f (subS rs t ((argsS rs t i).getD (j + 1) default)) (subS rs u ((argsS rs u k).getD (j + 1) default)) (genA (genM rs f) rs (subS rs t i) (subS rs u k) P (j + 1)).2 = r at *
          repeat' first
            | ((with_reducible refine And.intro hf4 ?_))
            | ((exfalso; omega))
            | (refine sw_renC 77000 5 rfl rfl ?_; simp only [go_sem, Nat.reduceAdd, Nat.reduceMul, Nat.reduceLT, Nat.reduceLeDiff, Nat.reduceEqDiff, Nat.reduceBEq, Nat.reduceSub, ↓reduceIte, reduceCtorEq])
            | (refine sw_renC 77001 6 rfl rfl ?_; simp only [go_sem, Nat.reduceAdd, Nat.reduceMul, Nat.reduceLT, Nat.reduceLeDiff, Nat.reduceEqDiff, Nat.reduceBEq, Nat.reduceSub, ↓reduceIte, reduceCtorEq])
            | exact Bool.noConfusion h
            | refine sw_seq ?_
            | refine sw_block ?_
            | refine sw_skip ?_
            | refine sw_inBlock ?_
            | refine sw_go 0 kp186 fun K hK => ?_
            | refine sw_goM 0 kp186 13 (id := 8) (by kernel_rfl) rfl fun K hK => ?_
            | refine fun (K : List Oper → LS → Prop) (hK : KOk S 0 _ _ _ K) => ?_
            | refine fun (K : List Oper → LS → Prop) (hK : QOk S _ _ K) => ?_
            | refine sw_goD kp186 (by kernel_rfl) fun K hK => ?_
            | ((first | refine runL_go ?_ | refine runQ_go ?_); simp (disch := (refine Om.mk ?_; omega)) only [go_sem, Nat.reduceAdd, Nat.reduceMul, Nat.reduceLT, Nat.reduceLeDiff, Nat.reduceEqDiff, Nat.reduceBEq, Nat.reduceSub, ↓reduceIte, reduceCtorEq])
            | (refine hK.nil ?_; clear hK K; simp only [go_sem, Nat.reduceAdd, Nat.reduceMul, Nat.reduceLT, Nat.reduceLeDiff, Nat.reduceEqDiff, Nat.reduceBEq, Nat.reduceSub, ↓reduceIte, reduceCtorEq])
            | (refine runG_fork rfl rfl rfl rfl rfl (fun h => ?_) (fun h => ?_) <;> (try simp (disch := (refine Om.mk ?_; omega)) only [go_sem, Nat.reduceAdd, Nat.reduceMul, Nat.reduceLT, Nat.reduceLeDiff, Nat.reduceEqDiff, Nat.reduceBEq, Nat.reduceSub, ↓reduceIte, reduceCtorEq] at h))
            | (refine runQG_fork rfl rfl rfl rfl rfl (fun h => ?_) (fun h => ?_) <;> (try simp (disch := (refine Om.mk ?_; omega)) only [go_sem, Nat.reduceAdd, Nat.reduceMul, Nat.reduceLT, Nat.reduceLeDiff, Nat.reduceEqDiff, Nat.reduceBEq, Nat.reduceSub, ↓reduceIte, reduceCtorEq] at h))
            | (refine hK.skip rfl (by simp only [dstOk, Nat.reduceLT]) ?_)
            | (refine sw_cond rfl (fun h => ?_) (fun h => ?_) <;> (try simp (disch := (refine Om.mk ?_; omega)) only [go_sem, Nat.reduceAdd, Nat.reduceMul, Nat.reduceLT, Nat.reduceLeDiff, Nat.reduceEqDiff, Nat.reduceBEq, Nat.reduceSub, ↓reduceIte, reduceCtorEq] at h))
            | (refine sw_exit rfl ?_)
            | (refine sw_loopEnd ?_)
            | ((first | refine sw_ret (ret0 ?_) | refine sw_ret ?_); simp (disch := (refine Om.mk ?_; omega)) only [go_sem, Nat.reduceAdd, Nat.reduceMul, Nat.reduceLT, Nat.reduceLeDiff, Nat.reduceEqDiff, Nat.reduceBEq, Nat.reduceSub, ↓reduceIte, reduceCtorEq, Try.results186])
            | (refine hK.callB rfl rfl rfl (c) ⟨⟨by simp only [Nat.reduceLT], (by first | (simp; all_goals fail) | (simp [LS.getBox, Lg.look]; all_goals fail)), by (simp [Lg.look]; all_goals fail), by (simp; all_goals fail), by (simp; all_goals fail)⟩, ⟨by (simp [D.ids, D.idsL]; all_goals fail), by (simp [D.ids, D.idsL]; all_goals fail), by (simp [D.tks, D.tksL]; all_goals fail), by (simp [D.tks, D.tksL]; all_goals fail), by (simp; all_goals fail)⟩, rfl⟩ ?_; simp (disch := (refine Om.mk ?_; omega)) only [go_sem, Nat.reduceAdd, Nat.reduceMul, Nat.reduceLT, Nat.reduceLeDiff, Nat.reduceEqDiff, Nat.reduceBEq, Nat.reduceSub, ↓reduceIte, reduceCtorEq])
            | (refine hK.fork rfl rfl rfl (fun h => ?_) (fun h => ?_) <;> (try simp (disch := (refine Om.mk ?_; omega)) only [go_sem, Nat.reduceAdd, Nat.reduceMul, Nat.reduceLT, Nat.reduceLeDiff, Nat.reduceEqDiff, Nat.reduceBEq, Nat.reduceSub, ↓reduceIte, reduceCtorEq] at h))
            | (with_reducible refine And.intro (by first | omega | (simp only [List.length_append, List.length_take, List.length_drop, List.length_cons, List.length_nil]; omega)) ?_)
            | ((with_reducible refine And.intro ?_ ?_); · first | (intro x hx; subst hx; rfl) | exact upR_mem fun _ _ => rfl | exact mapR_mem fun _ _ => rfl | (intro x; refine And.intro ?_ ?_ <;> (intros; subst_vars; rfl)))
            | fail
          · exact ⟨j + 1 + 1, (by rw [hk]; (refine covers_mk0 rfl rfl ?_ ?_ ?_ ?_ <;> simp (disch := (refine Om.mk ?_; omega)) only [go_sem, Nat.reduceAdd, Nat.reduceMul, Nat.reduceLT, Nat.reduceLeDiff, Nat.reduceEqDiff, Nat.reduceBEq, Nat.reduceSub, ↓reduceIte, reduceCtorEq] <;> (try omega)); all_goals first | rfl | (simp; done)), by omega, by omega⟩
        · have : n = j + 1 := by omega
          subst this
          repeat' first
            | ((exfalso; omega))
            | exact Bool.noConfusion h
            | refine sw_seq ?_
            | refine sw_block ?_
            | refine sw_skip ?_
            | refine sw_inBlock ?_
            | refine sw_go 0 kp186 fun K hK => ?_
            | refine fun (K : List Oper → LS → Prop) (hK : KOk S 0 _ _ _ K) => ?_
            | refine sw_goD kp186 (by kernel_rfl) fun K hK => ?_
            | ((first | refine runL_go ?_ | refine runQ_go ?_); simp (disch := (refine Om.mk ?_; omega)) only [go_sem, Nat.reduceAdd, Nat.reduceMul, Nat.reduceLT, Nat.reduceLeDiff, Nat.reduceEqDiff, Nat.reduceBEq, Nat.reduceSub, ↓reduceIte, reduceCtorEq])
            | (refine hK.nil ?_; clear hK K; simp only [go_sem, Nat.reduceAdd, Nat.reduceMul, Nat.reduceLT, Nat.reduceLeDiff, Nat.reduceEqDiff, Nat.reduceBEq, Nat.reduceSub, ↓reduceIte, reduceCtorEq])
            | (refine runG_fork rfl rfl rfl rfl rfl (fun h => ?_) (fun h => ?_) <;> (try simp (disch := (refine Om.mk ?_; omega)) only [go_sem, Nat.reduceAdd, Nat.reduceMul, Nat.reduceLT, Nat.reduceLeDiff, Nat.reduceEqDiff, Nat.reduceBEq, Nat.reduceSub, ↓reduceIte, reduceCtorEq] at h))
            | (refine runQG_fork rfl rfl rfl rfl rfl (fun h => ?_) (fun h => ?_) <;> (try simp (disch := (refine Om.mk ?_; omega)) only [go_sem, Nat.reduceAdd, Nat.reduceMul, Nat.reduceLT, Nat.reduceLeDiff, Nat.reduceEqDiff, Nat.reduceBEq, Nat.reduceSub, ↓reduceIte, reduceCtorEq] at h))
            | (refine hK.skip rfl (by simp only [dstOk, Nat.reduceLT]) ?_)
            | (refine sw_cond rfl (fun h => ?_) (fun h => ?_) <;> (try simp (disch := (refine Om.mk ?_; omega)) only [go_sem, Nat.reduceAdd, Nat.reduceMul, Nat.reduceLT, Nat.reduceLeDiff, Nat.reduceEqDiff, Nat.reduceBEq, Nat.reduceSub, ↓reduceIte, reduceCtorEq] at h))
            | (refine sw_exit rfl ?_)
            | (refine sw_loopEnd ?_)
            | ((first | refine sw_ret (ret0 ?_) | refine sw_ret ?_); simp (disch := (refine Om.mk ?_; omega)) only [go_sem, Nat.reduceAdd, Nat.reduceMul, Nat.reduceLT, Nat.reduceLeDiff, Nat.reduceEqDiff, Nat.reduceBEq, Nat.reduceSub, ↓reduceIte, reduceCtorEq, Try.results186])
            | (refine hK.callB rfl rfl rfl (ih) ⟨⟨by simp only [Nat.reduceLT], (by first | (simp; all_goals fail) | (simp [LS.getBox, Lg.look]; all_goals fail)), by (simp [Lg.look]; all_goals fail), by (simp; all_goals fail), by (simp; all_goals fail)⟩, ⟨by (simp [D.ids, D.idsL]; all_goals fail), by (simp [D.ids, D.idsL]; all_goals fail), by (simp [D.tks, D.tksL]; all_goals fail), by (simp [D.tks, D.tksL]; all_goals fail), by (simp; all_goals fail)⟩, rfl⟩ ?_; simp (disch := (refine Om.mk ?_; omega)) only [go_sem, Nat.reduceAdd, Nat.reduceMul, Nat.reduceLT, Nat.reduceLeDiff, Nat.reduceEqDiff, Nat.reduceBEq, Nat.reduceSub, ↓reduceIte, reduceCtorEq])
            | (refine hK.fork rfl rfl rfl (fun h => ?_) (fun h => ?_) <;> (try simp (disch := (refine Om.mk ?_; omega)) only [go_sem, Nat.reduceAdd, Nat.reduceMul, Nat.reduceLT, Nat.reduceLeDiff, Nat.reduceEqDiff, Nat.reduceBEq, Nat.reduceSub, ↓reduceIte, reduceCtorEq] at h))
            | (with_reducible refine And.intro (by first | omega | (simp only [List.length_append, List.length_take, List.length_drop, List.length_cons, List.length_nil]; omega)) ?_)
            | ((with_reducible refine And.intro ?_ ?_); · first | (intro x hx; subst hx; rfl) | exact upR_mem fun _ _ => rfl | exact mapR_mem fun _ _ => rfl | (intro x; refine And.intro ?_ ?_ <;> (intros; subst_vars; rfl)))
            | fail
          · unfold RetN
            simp only [go_sem, Nat.reduceAdd, Nat.reduceMul, Nat.reduceLT, Nat.reduceLeDiff, Nat.reduceEqDiff, Nat.reduceBEq, Nat.reduceSub, ↓reduceIte, reduceCtorEq]
            refine ret_pair _ _ 5 6 (by decide) _ _ _ _ _ _ ?_ ?_ ?_ ?_ ?_ <;> first | rfl | (simp; done) | (rw [h00]; rfl)
    · have hs3 : ¬ (0 ≤ t.getD i default ∧ t.getD i default = u.getD k default) := fun h => hs ⟨by rw [ha0, hb0]; exact h.2, by rw [ha0]; exact h.1⟩
      rw [show genM rs (f + 1) (subS rs t i) (subS rs u k) P = leafG (subS rs t i) (subS rs u k) P by rw [genM, if_neg hs]]
      refine fc_bodyN Try.func186 rfl (by kernel_rfl) (by simp [Try.f186]) rfl fun B => ?_
      simp only [Try.ntmps186, enumD, List.map_nil, List.map_cons, List.length_map, Nat.zero_add, Nat.reduceAdd]
      repeat' first
        | ((exfalso; omega))
        | exact Bool.noConfusion h
        | refine sw_seq ?_
        | refine sw_block ?_
        | refine sw_skip ?_
        | refine sw_inBlock ?_
        | refine sw_go 0 kp186 fun K hK => ?_
        | refine fun (K : List Oper → LS → Prop) (hK : KOk S 0 _ _ _ K) => ?_
        | refine sw_goD kp186 (by kernel_rfl) fun K hK => ?_
        | ((first | refine runL_go ?_ | refine runQ_go ?_); simp (disch := (refine Om.mk ?_; omega)) only [go_sem, Nat.reduceAdd, Nat.reduceMul, Nat.reduceLT, Nat.reduceLeDiff, Nat.reduceEqDiff, Nat.reduceBEq, Nat.reduceSub, ↓reduceIte, reduceCtorEq])
        | (refine hK.nil ?_; clear hK K; simp only [go_sem, Nat.reduceAdd, Nat.reduceMul, Nat.reduceLT, Nat.reduceLeDiff, Nat.reduceEqDiff, Nat.reduceBEq, Nat.reduceSub, ↓reduceIte, reduceCtorEq])
        | (refine runG_fork rfl rfl rfl rfl rfl (fun h => ?_) (fun h => ?_) <;> (try simp (disch := (refine Om.mk ?_; omega)) only [go_sem, Nat.reduceAdd, Nat.reduceMul, Nat.reduceLT, Nat.reduceLeDiff, Nat.reduceEqDiff, Nat.reduceBEq, Nat.reduceSub, ↓reduceIte, reduceCtorEq] at h))
        | (refine runQG_fork rfl rfl rfl rfl rfl (fun h => ?_) (fun h => ?_) <;> (try simp (disch := (refine Om.mk ?_; omega)) only [go_sem, Nat.reduceAdd, Nat.reduceMul, Nat.reduceLT, Nat.reduceLeDiff, Nat.reduceEqDiff, Nat.reduceBEq, Nat.reduceSub, ↓reduceIte, reduceCtorEq] at h))
        | (refine hK.skip rfl (by simp only [dstOk, Nat.reduceLT]) ?_)
        | (refine sw_cond rfl (fun h => ?_) (fun h => ?_) <;> (try simp (disch := (refine Om.mk ?_; omega)) only [go_sem, Nat.reduceAdd, Nat.reduceMul, Nat.reduceLT, Nat.reduceLeDiff, Nat.reduceEqDiff, Nat.reduceBEq, Nat.reduceSub, ↓reduceIte, reduceCtorEq] at h))
        | (refine sw_exit rfl ?_)
        | (refine sw_loopEnd ?_)
        | ((first | refine sw_ret (ret0 ?_) | refine sw_ret ?_); simp (disch := (refine Om.mk ?_; omega)) only [go_sem, Nat.reduceAdd, Nat.reduceMul, Nat.reduceLT, Nat.reduceLeDiff, Nat.reduceEqDiff, Nat.reduceBEq, Nat.reduceSub, ↓reduceIte, reduceCtorEq, Try.results186])
        | refine hK.call rfl rfl rfl (l1Sub_fc _ _ rs t i hT hi) ⟨(by intro p hp; cases hp), rfl, rfl, (by simp only [dstOk, Nat.reduceLT])⟩ ?_
        | refine hK.call rfl rfl rfl (l1Sub_fc _ _ rs u k hU hk) ⟨(by intro p hp; cases hp), rfl, rfl, (by simp only [dstOk, Nat.reduceLT])⟩ ?_
        | (refine hK.fork rfl rfl rfl (fun h => ?_) (fun h => ?_) <;> (try simp (disch := (refine Om.mk ?_; omega)) only [go_sem, Nat.reduceAdd, Nat.reduceMul, Nat.reduceLT, Nat.reduceLeDiff, Nat.reduceEqDiff, Nat.reduceBEq, Nat.reduceSub, ↓reduceIte, reduceCtorEq] at h))
        | (with_reducible refine And.intro (by first | omega | (simp only [List.length_append, List.length_take, List.length_drop, List.length_cons, List.length_nil]; omega)) ?_)
        | ((with_reducible refine And.intro ?_ ?_); · first | (intro x hx; subst hx; rfl) | exact upR_mem fun _ _ => rfl | exact mapR_mem fun _ _ => rfl | (intro x; refine And.intro ?_ ?_ <;> (intros; subst_vars; rfl)))
        | fail
      all_goals
        refine sw_loopT (ι := Nat) (fun j => [(26, .int .i64 j)]) (fun _ => []) (fun _ => [5, 6]) (fun j => j ≤ P.length ∧ ∀ m < j, P.getD m default ≠ (subS rs t i, subS rs u k)) (fun j => P.length - j) 0 (by (refine covers_mk0 rfl rfl ?_ ?_ ?_ ?_ <;> simp (disch := (refine Om.mk ?_; omega)) only [go_sem, Nat.reduceAdd, Nat.reduceMul, Nat.reduceLT, Nat.reduceLeDiff, Nat.reduceEqDiff, Nat.reduceBEq, Nat.reduceSub, ↓reduceIte, reduceCtorEq] <;> (try omega)); all_goals first | rfl | (simp; done)) ⟨by omega, fun m hm => by omega⟩ (fun j hj => ?_)
        simp only [go_sem, Nat.reduceAdd, Nat.reduceMul, Nat.reduceLT, Nat.reduceLeDiff, Nat.reduceEqDiff, Nat.reduceBEq, Nat.reduceSub, ↓reduceIte, reduceCtorEq]
        obtain ⟨hj1, hj2⟩ := hj
        repeat' first
          | exact Bool.noConfusion h
          | refine sw_seq ?_
          | refine sw_block ?_
          | refine sw_skip ?_
          | refine sw_inBlock ?_
          | refine sw_go 0 kp186 fun K hK => ?_
          | refine fun (K : List Oper → LS → Prop) (hK : KOk S 0 _ _ _ K) => ?_
          | refine sw_goD kp186 (by kernel_rfl) fun K hK => ?_
          | ((first | refine runL_go ?_ | refine runQ_go ?_); simp (disch := (refine Om.mk ?_; omega)) only [go_sem, Nat.reduceAdd, Nat.reduceMul, Nat.reduceLT, Nat.reduceLeDiff, Nat.reduceEqDiff, Nat.reduceBEq, Nat.reduceSub, ↓reduceIte, reduceCtorEq])
          | (refine hK.nil ?_; clear hK K; simp only [go_sem, Nat.reduceAdd, Nat.reduceMul, Nat.reduceLT, Nat.reduceLeDiff, Nat.reduceEqDiff, Nat.reduceBEq, Nat.reduceSub, ↓reduceIte, reduceCtorEq])
          | (refine runG_fork rfl rfl rfl rfl rfl (fun h => ?_) (fun h => ?_) <;> (try simp (disch := (refine Om.mk ?_; omega)) only [go_sem, Nat.reduceAdd, Nat.reduceMul, Nat.reduceLT, Nat.reduceLeDiff, Nat.reduceEqDiff, Nat.reduceBEq, Nat.reduceSub, ↓reduceIte, reduceCtorEq] at h))
          | (refine runQG_fork rfl rfl rfl rfl rfl (fun h => ?_) (fun h => ?_) <;> (try simp (disch := (refine Om.mk ?_; omega)) only [go_sem, Nat.reduceAdd, Nat.reduceMul, Nat.reduceLT, Nat.reduceLeDiff, Nat.reduceEqDiff, Nat.reduceBEq, Nat.reduceSub, ↓reduceIte, reduceCtorEq] at h))
          | (refine hK.skip rfl (by simp only [dstOk, Nat.reduceLT]) ?_)
          | (refine sw_cond rfl (fun h => ?_) (fun h => ?_) <;> (try simp (disch := (refine Om.mk ?_; omega)) only [go_sem, Nat.reduceAdd, Nat.reduceMul, Nat.reduceLT, Nat.reduceLeDiff, Nat.reduceEqDiff, Nat.reduceBEq, Nat.reduceSub, ↓reduceIte, reduceCtorEq] at h))
          | (refine sw_exit rfl ?_)
          | (refine sw_loopEnd ?_)
          | ((first | refine sw_ret (ret0 ?_) | refine sw_ret ?_); simp (disch := (refine Om.mk ?_; omega)) only [go_sem, Nat.reduceAdd, Nat.reduceMul, Nat.reduceLT, Nat.reduceLeDiff, Nat.reduceEqDiff, Nat.reduceBEq, Nat.reduceSub, ↓reduceIte, reduceCtorEq, Try.results186])
          | refine hK.call rfl rfl rfl (specSameTerm_fc _ _ _ _) ⟨(by intro p hp; cases hp), rfl, rfl, (by simp only [dstOk, Nat.reduceLT])⟩ ?_
          | (refine hK.fork rfl rfl rfl (fun h => ?_) (fun h => ?_) <;> (try simp (disch := (refine Om.mk ?_; omega)) only [go_sem, Nat.reduceAdd, Nat.reduceMul, Nat.reduceLT, Nat.reduceLeDiff, Nat.reduceEqDiff, Nat.reduceBEq, Nat.reduceSub, ↓reduceIte, reduceCtorEq] at h))
          | (with_reducible refine And.intro (by first | omega | (simp only [List.length_append, List.length_take, List.length_drop, List.length_cons, List.length_nil]; omega)) ?_)
          | ((with_reducible refine And.intro ?_ ?_); · first | (intro x hx; subst hx; rfl) | exact upR_mem fun _ _ => rfl | exact mapR_mem fun _ _ => rfl | (intro x; refine And.intro ?_ ?_ <;> (intros; subst_vars; rfl)))
          | fail
        all_goals first
          | exact ⟨j + 1, (by (refine covers_mk0 rfl rfl ?_ ?_ ?_ ?_ <;> simp (disch := (refine Om.mk ?_; omega)) only [go_sem, Nat.reduceAdd, Nat.reduceMul, Nat.reduceLT, Nat.reduceLeDiff, Nat.reduceEqDiff, Nat.reduceBEq, Nat.reduceSub, ↓reduceIte, reduceCtorEq] <;> (try omega)); all_goals first | rfl | (simp; done)), ⟨by omega, fun m hm => by
              rcases Nat.lt_or_ge m j with h1 | h1
              · exact hj2 m h1
              · obtain rfl : m = j := by omega
                intro e; exact h (by rw [e])⟩, by omega⟩
          | (unfold RetN
             rw [show leafG (subS rs t i) (subS rs u k) P = ([-1 - (j : Int)], P) by rw [leafG, idx_first (P := P) (k := j) (by omega) hj2 (Prod.ext (by assumption) (by assumption)), if_pos (by omega)]]
             simp only [go_sem, Nat.reduceAdd, Nat.reduceMul, Nat.reduceLT, Nat.reduceLeDiff, Nat.reduceEqDiff, Nat.reduceBEq, Nat.reduceSub, ↓reduceIte, reduceCtorEq]
             refine ret_pair _ _ 5 6 (by decide) _ _ _ _ _ _ ?_ ?_ ?_ ?_ ?_ <;> first | rfl | (simp; done))
          | (unfold RetN
             rw [show leafG (subS rs t i) (subS rs u k) P = ([-1 - (P.length : Int)], P ++ [(subS rs t i, subS rs u k)]) by rw [leafG, idx_notin (P := P) (fun m hm => hj2 m (by omega)), if_neg (by omega)]]
             simp only [go_sem, Nat.reduceAdd, Nat.reduceMul, Nat.reduceLT, Nat.reduceLeDiff, Nat.reduceEqDiff, Nat.reduceBEq, Nat.reduceSub, ↓reduceIte, reduceCtorEq]
             refine ret_pair _ _ 129000 133000 (by decide) _ _ _ _ _ _ ?_ ?_ ?_ ?_ ?_ <;> first | rfl | (simp; done) | (rw [List.map_append]; rfl))
theorem l5General_fc0 (rs t u : List Int) (hT : TermOkP rs t) (hU : TermOkP rs u) : FC S 186 [] [] [] [.agg [.sl .any (rs.map (.int .i64))], .sl .any (t.map (.int .i64)), .int .i64 (0 : Nat), .sl .any (u.map (.int .i64)), .int .i64 (0 : Nat), .sl .full [], .sl .full []]
    (.tup [.sl .any ((genM rs 60 t u []).1.map (.int .i64)), .sl (.own 0 22 1) ((genM rs 60 t u []).2.map lftD), .sl (.own 1 22 1) ((genM rs 60 t u []).2.map rgtD)]) [] [0, 1] := by
  have h1 := hT.2.1
  have h2 := hU.2.1
  have c := l5General_fc rs t u hT hU 60 0 0 [] (by omega) (by omega) (by rw [subS_zero hT]; omega) (by rw [subS_zero hT]; simp; omega)
  rw [subS_zero hT, subS_zero hU] at c
  have c1 := FC.emp (args := [.agg [.sl .any (rs.map (.int .i64))], .sl .any (t.map (.int .i64)), .int .i64 (0 : Nat), .sl .any (u.map (.int .i64)), .int .i64 (0 : Nat), .sl .full [], .sl (.own 6 22 1) []]) 5 5 22 1 c rfl rfl (.inr rfl) (by decide) rfl rfl
  exact FC.emp 6 6 22 1 c1 rfl rfl (.inr rfl) (by decide) rfl rfl
end Go.Proofs.Ytgbcnhbmfjkhmaa
