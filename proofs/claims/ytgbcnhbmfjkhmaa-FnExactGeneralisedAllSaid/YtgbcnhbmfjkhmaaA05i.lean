/-
  What two terms have in common: the program's side.
-/
import Derived.Test.YtgbcnhbmfjkhmaaA05h
import Derived.Test.YtgbcnhbmfjkhmaaA03
import Derived.Test.YtgbcnhbmfjkhmaaLgK7
namespace Go.Proofs.Ytgbcnhbmfjkhmaa
open Go Go.Lg
set_option linter.unusedSimpArgs false
set_option linter.unusedVariables false
set_option maxHeartbeats 4000000
attribute [local irreducible] SW runL runQ runG runQG FC Ret1 RetN toF redoL
attribute [local go_sem] List.filter_cons lftD rgtD
theorem ret_box (L : LS) (id T T2 a b c : Nat) (hab : a ≠ b) (hac : a ≠ c) (hbc : b ≠ c) (rs out out' : List Int) (ys zs : List D) (P : Prs) (hl : Lg.look L.boxes id = some [D.sl .any (rs.map (.int .i64)), .sl (.own a T 1) ys, .sl (.own b T 1) zs, .sl (.own c T2 1) (out'.map (.int .i64))]) (ha : a ∈ L.toks) (hb : b ∈ L.toks) (hc : c ∈ L.toks) (hx : out' = out) (hy : ys = P.map lftD) (hz : zs = P.map rgtD) :
    RetK (.tup []) [(id, [.sl .any (rs.map (.int .i64)), .sl (.own 0 T 1) (P.map lftD), .sl (.own 1 T 1) (P.map rgtD), .sl (.own 2 T2 1) (out.map (.int .i64))])] 3 L (.tup []) := by
  subst hx hy hz
  refine ⟨[a, b, c], .tup [], .refl _, ⟨rfl, by simp [hab, hac, hbc]⟩, ?_, ?_, rfl, fun p hp => ?_⟩
  · intro t ht; simp only [List.mem_cons, List.not_mem_nil, or_false] at ht; rcases ht with rfl | rfl | rfl <;> assumption
  · intro k hk; simp [D.tks, D.tksL] at hk
  · simp only [List.mem_cons, List.not_mem_nil, or_false] at hp
    subst hp
    refine ⟨_, hl, fun k hk => by simpa [D.tks, D.tksL] using hk, ?_⟩
    have h1 : (a == b) = false := by simpa using hab
    have h2 : (a == c) = false := by simpa using hac
    have h3 : (b == c) = false := by simpa using hbc
    simp [D.mT, D.mTL, List.idxOf_cons, h1, h2, h3]
def kp189 : List (Nat × List Nat) := [(0, [0, 1, 2, 22]), (1, [0, 1, 2]), (2, [0, 1, 2, 6, 7]), (3, [0, 1, 2, 6, 7, 48, 49]), (4, [0, 1, 2, 6, 7, 48, 49, 50]), (5, [0, 1, 2, 6, 7, 8, 48, 49]), (6, [0, 1, 2, 6, 7, 48, 49]), (7, [0, 1, 2, 6, 7, 48, 49]), (8, [0, 1, 2, 9]), (9, [0, 1, 2, 9, 104]), (10, [0, 1, 2, 9]), (11, [0, 1, 2, 9, 113]), (12, [0, 2, 9]), (13, [0, 9]), (14, [])]
attribute [go_sem] kp189
theorem add_fc (rs : List Int) : ∀ (f id : Nat) (t u out : List Int) (P : Prs), TermOkP rs t → TermOkP rs u → t.length ≤ f → P.length + t.length ≤ 200 → out.length + t.length ≤ 200 → FC S 189 [] [(id, [.sl .any (rs.map (.int .i64)), .sl (.own 5 22 1) (P.map lftD), .sl (.own 6 22 1) (P.map rgtD), .sl (.own 7 2 1) (out.map (.int .i64))])] [5, 6, 7] [.box id 0, .sl .any (t.map (.int .i64)), .sl .any (u.map (.int .i64))]
    (.tup []) [(id, [.sl .any (rs.map (.int .i64)), .sl (.own 0 22 1) ((genM rs f t u P).2.map lftD), .sl (.own 1 22 1) ((genM rs f t u P).2.map rgtD), .sl (.own 2 2 1) ((out ++ (genM rs f t u P).1).map (.int .i64))])] [0, 1, 2] := by
  intro f
  induction f with
  | zero => intro id t u out P hT hU hf hp ho; have := hT.2.1.1; omega
  | succ f ih =>
    intro id t u out P hT hU hf hp ho
    have htl := hT.2.1
    have hul := hU.2.1
    by_cases hs : SameHd t u
    · have hs1 := hs.1
      have hs2 := hs.2
      rw [show genM rs (f + 1) t u P = genA (genM rs f) rs t u P (arS rs (t.getD 0 default)).toNat by rw [genM, if_pos hs]]
      have hgl := genA_len (f := f) (P := P) hT hU hs
      have hlo := hT.low (show 0 < t.length by omega)
      have hal := argsS_len rs t 0
      have hbl := argsS_len rs u 0
      have hag := fun j => argsS_get rs t 0 j
      have hbg := fun j => argsS_get rs u 0 j
      rw [← hs1] at hbl hbg
      have hna := fun j => nthB_lt (j := j) hT (show 0 < t.length by omega)
      have hnb := fun j => nthB_lt (j := j) hU (show 0 < u.length by omega)
      rw [← hs1] at hnb
      have hsn := fun j => subS_nth (j := j) hT (show 0 < t.length by omega)
      have hle := fun j => nthB_le (j := j) hT (show 0 < t.length by omega)
      simp only [Nat.zero_add] at hna hnb hag hbg hsn hle
      generalize hn : (arS rs (t.getD 0 default)).toNat = n at *
      have key : ∀ j < n, genA (genM rs f) rs t u P (j + 1) = ((genA (genM rs f) rs t u P j).1 ++ (genM rs f (subS rs t ((argsS rs t 0).getD j default)) (subS rs u ((argsS rs u 0).getD j default)) (genA (genM rs f) rs t u P j).2).1, (genM rs f (subS rs t ((argsS rs t 0).getD j default)) (subS rs u ((argsS rs u 0).getD j default)) (genA (genM rs f) rs t u P j).2).2) := fun j hj => by
        rw [hag j hj, hbg j hj]
        rfl
      have hcall : ∀ j < n, ((argsS rs t 0).getD j default < t.length ∧ (argsS rs u 0).getD j default < u.length) ∧ (subS rs t ((argsS rs t 0).getD j default)).length ≤ f ∧ (genA (genM rs f) rs t u P j).2.length + (subS rs t ((argsS rs t 0).getD j default)).length ≤ 200 ∧ (out ++ (genA (genM rs f) rs t u P j).1).length + (subS rs t ((argsS rs t 0).getD j default)).length ≤ 200 := fun j hj => by
        have e1 := hgl j (by omega)
        have e2 := hsn j hj
        have e3 := hle (j + 1) (by omega)
        have e4 := hle j (by omega)
        rw [hag j hj, hbg j hj, List.length_append]
        refine ⟨⟨(hna j hj).2, (hnb j hj).2⟩, ?_, ?_, ?_⟩ <;> omega
      have h00 : (genA (genM rs f) rs t u P 0).1 = [t.getD 0 default] := rfl
      have g2 : (genA (genM rs f) rs t u P 0).2 = P := rfl
      refine fc_bodyN Try.func189 rfl (by kernel_rfl) (by simp [Try.f189]) rfl fun B => ?_
      simp only [Try.ntmps189, enumD, List.map_nil, List.map_cons, List.length_map, Nat.zero_add, Nat.reduceAdd]
      repeat' first
        | ((refine sw_renC 33000 7 rfl rfl ?_; simp only [go_sem, Nat.reduceAdd, Nat.reduceMul, Nat.reduceLT, Nat.reduceLeDiff, Nat.reduceEqDiff, Nat.reduceBEq, Nat.reduceSub, ↓reduceIte, reduceCtorEq]))
        | ((exfalso; omega))
        | exact Bool.noConfusion h
        | refine sw_seq ?_
        | refine sw_block ?_
        | refine sw_skip ?_
        | refine sw_inBlock ?_
        | refine sw_go 0 kp189 fun K hK => ?_
        | (refine sw_goH 0 kp189 9 (id := 1) (by kernel_rfl) (by kernel_rfl) rfl rfl rfl rfl (by simp only [Nat.reduceLT]) rfl fun K hK => ?_; simp only [List.take, List.drop, Lg.LS.put])
        | refine fun (K : List Oper → LS → Prop) (hK : KOk S 0 _ _ _ K) => ?_
        | refine sw_goD kp189 (by kernel_rfl) fun K hK => ?_
        | ((first | refine runL_go ?_ | refine runQ_go ?_); simp (disch := (refine Om.mk ?_; omega)) only [go_sem, Nat.reduceAdd, Nat.reduceMul, Nat.reduceLT, Nat.reduceLeDiff, Nat.reduceEqDiff, Nat.reduceBEq, Nat.reduceSub, ↓reduceIte, reduceCtorEq])
        | (refine hK.nil ?_; clear hK K; simp only [go_sem, Nat.reduceAdd, Nat.reduceMul, Nat.reduceLT, Nat.reduceLeDiff, Nat.reduceEqDiff, Nat.reduceBEq, Nat.reduceSub, ↓reduceIte, reduceCtorEq])
        | (refine runG_fork rfl rfl rfl rfl rfl (fun h => ?_) (fun h => ?_) <;> (try simp (disch := (refine Om.mk ?_; omega)) only [go_sem, Nat.reduceAdd, Nat.reduceMul, Nat.reduceLT, Nat.reduceLeDiff, Nat.reduceEqDiff, Nat.reduceBEq, Nat.reduceSub, ↓reduceIte, reduceCtorEq] at h))
        | (refine runQG_fork rfl rfl rfl rfl rfl (fun h => ?_) (fun h => ?_) <;> (try simp (disch := (refine Om.mk ?_; omega)) only [go_sem, Nat.reduceAdd, Nat.reduceMul, Nat.reduceLT, Nat.reduceLeDiff, Nat.reduceEqDiff, Nat.reduceBEq, Nat.reduceSub, ↓reduceIte, reduceCtorEq] at h))
        | (refine hK.skip rfl (by simp only [dstOk, Nat.reduceLT]) ?_)
        | (refine sw_cond rfl (fun h => ?_) (fun h => ?_) <;> (try simp (disch := (refine Om.mk ?_; omega)) only [go_sem, Nat.reduceAdd, Nat.reduceMul, Nat.reduceLT, Nat.reduceLeDiff, Nat.reduceEqDiff, Nat.reduceBEq, Nat.reduceSub, ↓reduceIte, reduceCtorEq] at h))
        | (refine sw_exit rfl ?_)
        | (refine sw_loopEnd ?_)
        | ((first | refine sw_ret (ret0 ?_) | refine sw_ret ?_); simp (disch := (refine Om.mk ?_; omega)) only [go_sem, Nat.reduceAdd, Nat.reduceMul, Nat.reduceLT, Nat.reduceLeDiff, Nat.reduceEqDiff, Nat.reduceBEq, Nat.reduceSub, ↓reduceIte, reduceCtorEq, Try.results189])
        | (refine sw_nil ?_; simp (disch := (refine Om.mk ?_; omega)) only [go_sem, Nat.reduceAdd, Nat.reduceMul, Nat.reduceLT, Nat.reduceLeDiff, Nat.reduceEqDiff, Nat.reduceBEq, Nat.reduceSub, ↓reduceIte, reduceCtorEq, Try.results189])
        | refine hK.call rfl rfl rfl (argsAt_fc _ _ rs t 0 hT (by omega)) ⟨(by intro p hp; cases hp), rfl, rfl, (by simp only [dstOk, Nat.reduceLT])⟩ ?_
        | refine hK.call rfl rfl rfl (argsAt_fc _ _ rs u 0 hU (by omega)) ⟨(by intro p hp; cases hp), rfl, rfl, (by simp only [dstOk, Nat.reduceLT])⟩ ?_
        | (refine hK.fork rfl rfl rfl (fun h => ?_) (fun h => ?_) <;> (try simp (disch := (refine Om.mk ?_; omega)) only [go_sem, Nat.reduceAdd, Nat.reduceMul, Nat.reduceLT, Nat.reduceLeDiff, Nat.reduceEqDiff, Nat.reduceBEq, Nat.reduceSub, ↓reduceIte, reduceCtorEq] at h))
        | (with_reducible refine And.intro (by first | omega | (simp only [List.length_append, List.length_take, List.length_drop, List.length_cons, List.length_nil]; omega)) ?_)
        | ((with_reducible refine And.intro ?_ ?_); · first | (intro x hx; subst hx; rfl) | exact upR_mem fun _ _ => rfl | exact mapR_mem fun _ _ => rfl | (intro x; refine And.intro ?_ ?_ <;> (intros; subst_vars; rfl)))
        | fail
      refine sw_loopT (ι := Nat) (fun j => [(49, .int .i64 j)]) (fun j => [(id, [.sl .any (rs.map (.int .i64)), .sl (.own 5 22 1) ((genA (genM rs f) rs t u P j).2.map lftD), .sl (.own 6 22 1) ((genA (genM rs f) rs t u P j).2.map rgtD), .sl (.own 7 2 1) ((out ++ (genA (genM rs f) rs t u P j).1).map (.int .i64))])]) (fun j => [5, 6, 7]) (fun j => j ≤ n) (fun j => n - j) 0 (by (refine covers_mk0 rfl rfl ?_ ?_ ?_ ?_ <;> simp (disch := (refine Om.mk ?_; omega)) only [go_sem, Nat.reduceAdd, Nat.reduceMul, Nat.reduceLT, Nat.reduceLeDiff, Nat.reduceEqDiff, Nat.reduceBEq, Nat.reduceSub, ↓reduceIte, reduceCtorEq] <;> (try omega)); all_goals first | rfl | exact ⟨rfl, rfl, by rw [h00]⟩ | (simp; done)) (by omega) (fun j hj => ?_)
      simp only [go_sem, Nat.reduceAdd, Nat.reduceMul, Nat.reduceLT, Nat.reduceLeDiff, Nat.reduceEqDiff, Nat.reduceBEq, Nat.reduceSub, ↓reduceIte, reduceCtorEq]
      have hcj := hcall j
      have hna0 : ∀ h : j < n, TermOkP rs (subS rs t ((argsS rs t 0).getD j default)) ∧ TermOkP rs (subS rs u ((argsS rs u 0).getD j default)) := fun h => ⟨subS_ok hT (hcj h).1.1, subS_ok hU (hcj h).1.2⟩
      by_cases h0 : j < n
      · obtain ⟨⟨c1, c2⟩, c3, c4, c5⟩ := hcj h0
        have c := ih id (subS rs t ((argsS rs t 0).getD j default)) (subS rs u ((argsS rs u 0).getD j default)) (out ++ (genA (genM rs f) rs t u P j).1) (genA (genM rs f) rs t u P j).2 (subS_ok hT c1) (subS_ok hU c2) c3 c4 c5
        have hk := key j h0
        repeat' first
          | ((refine sw_renC 74000 5 rfl rfl ?_; simp only [go_sem, Nat.reduceAdd, Nat.reduceMul, Nat.reduceLT, Nat.reduceLeDiff, Nat.reduceEqDiff, Nat.reduceBEq, Nat.reduceSub, ↓reduceIte, reduceCtorEq]))
          | ((refine sw_renC 74001 6 rfl rfl ?_; simp only [go_sem, Nat.reduceAdd, Nat.reduceMul, Nat.reduceLT, Nat.reduceLeDiff, Nat.reduceEqDiff, Nat.reduceBEq, Nat.reduceSub, ↓reduceIte, reduceCtorEq]))
          | ((refine sw_renC 74002 7 rfl rfl ?_; simp only [go_sem, Nat.reduceAdd, Nat.reduceMul, Nat.reduceLT, Nat.reduceLeDiff, Nat.reduceEqDiff, Nat.reduceBEq, Nat.reduceSub, ↓reduceIte, reduceCtorEq]))
          | ((exfalso; omega))
          | exact Bool.noConfusion h
          | refine sw_seq ?_
          | refine sw_block ?_
          | refine sw_skip ?_
          | refine sw_inBlock ?_
          | refine sw_go 0 kp189 fun K hK => ?_
          | refine sw_goT 0 kp189 9 (id := 1) (by kernel_rfl) fun K hK => ?_
          | refine sw_goT 0 kp189 21 (id := 6) (by kernel_rfl) fun K hK => ?_
          | refine fun (K : List Oper → LS → Prop) (hK : KOk S 0 _ _ _ K) => ?_
          | refine sw_goD kp189 (by kernel_rfl) fun K hK => ?_
          | ((first | refine runL_go ?_ | refine runQ_go ?_); simp (disch := (refine Om.mk ?_; omega)) only [go_sem, Nat.reduceAdd, Nat.reduceMul, Nat.reduceLT, Nat.reduceLeDiff, Nat.reduceEqDiff, Nat.reduceBEq, Nat.reduceSub, ↓reduceIte, reduceCtorEq])
          | (refine hK.nil ?_; clear hK K; simp only [go_sem, Nat.reduceAdd, Nat.reduceMul, Nat.reduceLT, Nat.reduceLeDiff, Nat.reduceEqDiff, Nat.reduceBEq, Nat.reduceSub, ↓reduceIte, reduceCtorEq])
          | (refine runG_fork rfl rfl rfl rfl rfl (fun h => ?_) (fun h => ?_) <;> (try simp (disch := (refine Om.mk ?_; omega)) only [go_sem, Nat.reduceAdd, Nat.reduceMul, Nat.reduceLT, Nat.reduceLeDiff, Nat.reduceEqDiff, Nat.reduceBEq, Nat.reduceSub, ↓reduceIte, reduceCtorEq] at h))
          | (refine runQG_fork rfl rfl rfl rfl rfl (fun h => ?_) (fun h => ?_) <;> (try simp (disch := (refine Om.mk ?_; omega)) only [go_sem, Nat.reduceAdd, Nat.reduceMul, Nat.reduceLT, Nat.reduceLeDiff, Nat.reduceEqDiff, Nat.reduceBEq, Nat.reduceSub, ↓reduceIte, reduceCtorEq] at h))
          | (refine hK.skip rfl (by simp only [dstOk, Nat.reduceLT]) ?_)
          | (refine sw_cond rfl (fun h => ?_) (fun h => ?_) <;> (try simp (disch := (refine Om.mk ?_; omega)) only [go_sem, Nat.reduceAdd, Nat.reduceMul, Nat.reduceLT, Nat.reduceLeDiff, Nat.reduceEqDiff, Nat.reduceBEq, Nat.reduceSub, ↓reduceIte, reduceCtorEq] at h))
          | (refine sw_exit rfl ?_)
          | (refine sw_loopEnd ?_)
          | ((first | refine sw_ret (ret0 ?_) | refine sw_ret ?_); simp (disch := (refine Om.mk ?_; omega)) only [go_sem, Nat.reduceAdd, Nat.reduceMul, Nat.reduceLT, Nat.reduceLeDiff, Nat.reduceEqDiff, Nat.reduceBEq, Nat.reduceSub, ↓reduceIte, reduceCtorEq, Try.results189])
          | refine hK.call rfl rfl rfl (subAt_fc _ _ rs t ((argsS rs t 0).getD j default) hT c1) ⟨(by intro p hp; cases hp), rfl, rfl, (by simp only [dstOk, Nat.reduceLT])⟩ ?_
          | refine hK.call rfl rfl rfl (subAt_fc _ _ rs u ((argsS rs u 0).getD j default) hU c2) ⟨(by intro p hp; cases hp), rfl, rfl, (by simp only [dstOk, Nat.reduceLT])⟩ ?_
          | (refine hK.callB rfl rfl rfl (c) ⟨⟨by simp only [Nat.reduceLT], (by first | (simp; all_goals fail) | (simp [LS.getBox, Lg.look]; all_goals fail)), by (simp [Lg.look]; all_goals fail), by (simp; all_goals fail), by (simp; all_goals fail)⟩, ⟨by (simp [D.ids, D.idsL]; all_goals fail), by (simp [D.ids, D.idsL]; all_goals fail), by (simp [D.tks, D.tksL]; all_goals fail), by (simp [D.tks, D.tksL]; all_goals fail), by (simp; all_goals fail)⟩, rfl⟩ ?_; simp (disch := (refine Om.mk ?_; omega)) only [go_sem, Nat.reduceAdd, Nat.reduceMul, Nat.reduceLT, Nat.reduceLeDiff, Nat.reduceEqDiff, Nat.reduceBEq, Nat.reduceSub, ↓reduceIte, reduceCtorEq])
          | (refine hK.fork rfl rfl rfl (fun h => ?_) (fun h => ?_) <;> (try simp (disch := (refine Om.mk ?_; omega)) only [go_sem, Nat.reduceAdd, Nat.reduceMul, Nat.reduceLT, Nat.reduceLeDiff, Nat.reduceEqDiff, Nat.reduceBEq, Nat.reduceSub, ↓reduceIte, reduceCtorEq] at h))
          | (with_reducible refine And.intro (by first | omega | (simp only [List.length_append, List.length_take, List.length_drop, List.length_cons, List.length_nil]; omega)) ?_)
          | ((with_reducible refine And.intro ?_ ?_); · first | (intro x hx; subst hx; rfl) | exact upR_mem fun _ _ => rfl | exact mapR_mem fun _ _ => rfl | (intro x; refine And.intro ?_ ?_ <;> (intros; subst_vars; rfl)))
          | fail
        exact ⟨j + 1, (by rw [hk]; (refine covers_mk0 rfl rfl ?_ ?_ ?_ ?_ <;> simp (disch := (refine Om.mk ?_; omega)) only [go_sem, Nat.reduceAdd, Nat.reduceMul, Nat.reduceLT, Nat.reduceLeDiff, Nat.reduceEqDiff, Nat.reduceBEq, Nat.reduceSub, ↓reduceIte, reduceCtorEq] <;> (try omega)); all_goals first | rfl | (simp; done)), by omega, by omega⟩
      · have : n = j := by omega
        subst this
        repeat' first
          | ((exfalso; omega))
          | exact Bool.noConfusion h
          | refine sw_seq ?_
          | refine sw_block ?_
          | refine sw_skip ?_
          | refine sw_inBlock ?_
          | refine sw_go 0 kp189 fun K hK => ?_
          | refine sw_goT 0 kp189 9 (id := 1) (by kernel_rfl) fun K hK => ?_
          | refine fun (K : List Oper → LS → Prop) (hK : KOk S 0 _ _ _ K) => ?_
          | refine sw_goD kp189 (by kernel_rfl) fun K hK => ?_
          | ((first | refine runL_go ?_ | refine runQ_go ?_); simp (disch := (refine Om.mk ?_; omega)) only [go_sem, Nat.reduceAdd, Nat.reduceMul, Nat.reduceLT, Nat.reduceLeDiff, Nat.reduceEqDiff, Nat.reduceBEq, Nat.reduceSub, ↓reduceIte, reduceCtorEq])
          | (refine hK.nil ?_; clear hK K; simp only [go_sem, Nat.reduceAdd, Nat.reduceMul, Nat.reduceLT, Nat.reduceLeDiff, Nat.reduceEqDiff, Nat.reduceBEq, Nat.reduceSub, ↓reduceIte, reduceCtorEq])
          | (refine runG_fork rfl rfl rfl rfl rfl (fun h => ?_) (fun h => ?_) <;> (try simp (disch := (refine Om.mk ?_; omega)) only [go_sem, Nat.reduceAdd, Nat.reduceMul, Nat.reduceLT, Nat.reduceLeDiff, Nat.reduceEqDiff, Nat.reduceBEq, Nat.reduceSub, ↓reduceIte, reduceCtorEq] at h))
          | (refine runQG_fork rfl rfl rfl rfl rfl (fun h => ?_) (fun h => ?_) <;> (try simp (disch := (refine Om.mk ?_; omega)) only [go_sem, Nat.reduceAdd, Nat.reduceMul, Nat.reduceLT, Nat.reduceLeDiff, Nat.reduceEqDiff, Nat.reduceBEq, Nat.reduceSub, ↓reduceIte, reduceCtorEq] at h))
          | (refine hK.skip rfl (by simp only [dstOk, Nat.reduceLT]) ?_)
          | (refine sw_cond rfl (fun h => ?_) (fun h => ?_) <;> (try simp (disch := (refine Om.mk ?_; omega)) only [go_sem, Nat.reduceAdd, Nat.reduceMul, Nat.reduceLT, Nat.reduceLeDiff, Nat.reduceEqDiff, Nat.reduceBEq, Nat.reduceSub, ↓reduceIte, reduceCtorEq] at h))
          | (refine sw_exit rfl ?_)
          | (refine sw_loopEnd ?_)
          | ((first | refine sw_ret (ret0 ?_) | refine sw_ret ?_); simp (disch := (refine Om.mk ?_; omega)) only [go_sem, Nat.reduceAdd, Nat.reduceMul, Nat.reduceLT, Nat.reduceLeDiff, Nat.reduceEqDiff, Nat.reduceBEq, Nat.reduceSub, ↓reduceIte, reduceCtorEq, Try.results189])
          | (refine hK.callB rfl rfl rfl (ih) ⟨⟨by simp only [Nat.reduceLT], (by first | (simp; all_goals fail) | (simp [LS.getBox, Lg.look]; all_goals fail)), by (simp [Lg.look]; all_goals fail), by (simp; all_goals fail), by (simp; all_goals fail)⟩, ⟨by (simp [D.ids, D.idsL]; all_goals fail), by (simp [D.ids, D.idsL]; all_goals fail), by (simp [D.tks, D.tksL]; all_goals fail), by (simp [D.tks, D.tksL]; all_goals fail), by (simp; all_goals fail)⟩, rfl⟩ ?_; simp (disch := (refine Om.mk ?_; omega)) only [go_sem, Nat.reduceAdd, Nat.reduceMul, Nat.reduceLT, Nat.reduceLeDiff, Nat.reduceEqDiff, Nat.reduceBEq, Nat.reduceSub, ↓reduceIte, reduceCtorEq])
          | (refine hK.fork rfl rfl rfl (fun h => ?_) (fun h => ?_) <;> (try simp (disch := (refine Om.mk ?_; omega)) only [go_sem, Nat.reduceAdd, Nat.reduceMul, Nat.reduceLT, Nat.reduceLeDiff, Nat.reduceEqDiff, Nat.reduceBEq, Nat.reduceSub, ↓reduceIte, reduceCtorEq] at h))
          | (with_reducible refine And.intro (by first | omega | (simp only [List.length_append, List.length_take, List.length_drop, List.length_cons, List.length_nil]; omega)) ?_)
          | ((with_reducible refine And.intro ?_ ?_); · first | (intro x hx; subst hx; rfl) | exact upR_mem fun _ _ => rfl | exact mapR_mem fun _ _ => rfl | (intro x; refine And.intro ?_ ?_ <;> (intros; subst_vars; rfl)))
          | fail
        unfold RetN
        simp only [go_sem, Nat.reduceAdd, Nat.reduceMul, Nat.reduceLT, Nat.reduceLeDiff, Nat.reduceEqDiff, Nat.reduceBEq, Nat.reduceSub, ↓reduceIte, reduceCtorEq]
        refine ret_box _ id _ _ 5 6 7 (by decide) (by decide) (by decide) rs _ _ _ _ _ (by simp only [Lg.look, if_true] <;> rfl) ?_ ?_ ?_ rfl rfl rfl <;> (simp; done)
    · rw [show genM rs (f + 1) t u P = leafG t u P by rw [genM, if_neg hs]]
      refine fc_bodyN Try.func189 rfl (by kernel_rfl) (by simp [Try.f189]) rfl fun B => ?_
      simp only [Try.ntmps189, enumD, List.map_nil, List.map_cons, List.length_map, Nat.zero_add, Nat.reduceAdd]
      repeat' first
        | ((exfalso; omega))
        | exact Bool.noConfusion h
        | refine sw_seq ?_
        | refine sw_block ?_
        | refine sw_skip ?_
        | refine sw_inBlock ?_
        | refine sw_go 0 kp189 fun K hK => ?_
        | (refine sw_goH 0 kp189 9 (id := 1) (by kernel_rfl) (by kernel_rfl) rfl rfl rfl rfl (by simp only [Nat.reduceLT]) rfl fun K hK => ?_; simp only [List.take, List.drop, Lg.LS.put])
        | refine fun (K : List Oper → LS → Prop) (hK : KOk S 0 _ _ _ K) => ?_
        | refine sw_goD kp189 (by kernel_rfl) fun K hK => ?_
        | ((first | refine runL_go ?_ | refine runQ_go ?_); simp (disch := (refine Om.mk ?_; omega)) only [go_sem, Nat.reduceAdd, Nat.reduceMul, Nat.reduceLT, Nat.reduceLeDiff, Nat.reduceEqDiff, Nat.reduceBEq, Nat.reduceSub, ↓reduceIte, reduceCtorEq])
        | (refine hK.nil ?_; clear hK K; simp only [go_sem, Nat.reduceAdd, Nat.reduceMul, Nat.reduceLT, Nat.reduceLeDiff, Nat.reduceEqDiff, Nat.reduceBEq, Nat.reduceSub, ↓reduceIte, reduceCtorEq])
        | (refine runG_fork rfl rfl rfl rfl rfl (fun h => ?_) (fun h => ?_) <;> (try simp (disch := (refine Om.mk ?_; omega)) only [go_sem, Nat.reduceAdd, Nat.reduceMul, Nat.reduceLT, Nat.reduceLeDiff, Nat.reduceEqDiff, Nat.reduceBEq, Nat.reduceSub, ↓reduceIte, reduceCtorEq] at h))
        | (refine runQG_fork rfl rfl rfl rfl rfl (fun h => ?_) (fun h => ?_) <;> (try simp (disch := (refine Om.mk ?_; omega)) only [go_sem, Nat.reduceAdd, Nat.reduceMul, Nat.reduceLT, Nat.reduceLeDiff, Nat.reduceEqDiff, Nat.reduceBEq, Nat.reduceSub, ↓reduceIte, reduceCtorEq] at h))
        | (refine hK.skip rfl (by simp only [dstOk, Nat.reduceLT]) ?_)
        | (refine sw_cond rfl (fun h => ?_) (fun h => ?_) <;> (try simp (disch := (refine Om.mk ?_; omega)) only [go_sem, Nat.reduceAdd, Nat.reduceMul, Nat.reduceLT, Nat.reduceLeDiff, Nat.reduceEqDiff, Nat.reduceBEq, Nat.reduceSub, ↓reduceIte, reduceCtorEq] at h))
        | (refine sw_exit rfl ?_)
        | (refine sw_loopEnd ?_)
        | ((first | refine sw_ret (ret0 ?_) | refine sw_ret ?_); simp (disch := (refine Om.mk ?_; omega)) only [go_sem, Nat.reduceAdd, Nat.reduceMul, Nat.reduceLT, Nat.reduceLeDiff, Nat.reduceEqDiff, Nat.reduceBEq, Nat.reduceSub, ↓reduceIte, reduceCtorEq, Try.results189])
        | (refine sw_nil ?_; simp (disch := (refine Om.mk ?_; omega)) only [go_sem, Nat.reduceAdd, Nat.reduceMul, Nat.reduceLT, Nat.reduceLeDiff, Nat.reduceEqDiff, Nat.reduceBEq, Nat.reduceSub, ↓reduceIte, reduceCtorEq, Try.results189])
        | (refine hK.fork rfl rfl rfl (fun h => ?_) (fun h => ?_) <;> (try simp (disch := (refine Om.mk ?_; omega)) only [go_sem, Nat.reduceAdd, Nat.reduceMul, Nat.reduceLT, Nat.reduceLeDiff, Nat.reduceEqDiff, Nat.reduceBEq, Nat.reduceSub, ↓reduceIte, reduceCtorEq] at h))
        | (with_reducible refine And.intro (by first | omega | (simp only [List.length_append, List.length_take, List.length_drop, List.length_cons, List.length_nil]; omega)) ?_)
        | ((with_reducible refine And.intro ?_ ?_); · first | (intro x hx; subst hx; rfl) | exact upR_mem fun _ _ => rfl | exact mapR_mem fun _ _ => rfl | (intro x; refine And.intro ?_ ?_ <;> (intros; subst_vars; rfl)))
        | fail
      all_goals first | (exfalso; exact hs ⟨by assumption, by assumption⟩) | skip
      all_goals
        refine sw_loopT (ι := Nat) (fun j => [(9, .int .i64 j)]) (fun _ => []) (fun _ => [5, 6, 7]) (fun j => j ≤ P.length ∧ ∀ m < j, P.getD m default ≠ (t, u)) (fun j => P.length - j) 0 (by (refine covers_mk0 rfl rfl ?_ ?_ ?_ ?_ <;> simp (disch := (refine Om.mk ?_; omega)) only [go_sem, Nat.reduceAdd, Nat.reduceMul, Nat.reduceLT, Nat.reduceLeDiff, Nat.reduceEqDiff, Nat.reduceBEq, Nat.reduceSub, ↓reduceIte, reduceCtorEq] <;> (try omega)); all_goals first | rfl | (simp; done)) ⟨by omega, fun m hm => by omega⟩ (fun j hj => ?_)
        simp only [go_sem, Nat.reduceAdd, Nat.reduceMul, Nat.reduceLT, Nat.reduceLeDiff, Nat.reduceEqDiff, Nat.reduceBEq, Nat.reduceSub, ↓reduceIte, reduceCtorEq]
        obtain ⟨hj1, hj2⟩ := hj
        repeat' first
          | ((refine sw_renC 122000 5 rfl rfl ?_; simp only [go_sem, Nat.reduceAdd, Nat.reduceMul, Nat.reduceLT, Nat.reduceLeDiff, Nat.reduceEqDiff, Nat.reduceBEq, Nat.reduceSub, ↓reduceIte, reduceCtorEq]))
          | ((refine sw_renC 132000 6 rfl rfl ?_; simp only [go_sem, Nat.reduceAdd, Nat.reduceMul, Nat.reduceLT, Nat.reduceLeDiff, Nat.reduceEqDiff, Nat.reduceBEq, Nat.reduceSub, ↓reduceIte, reduceCtorEq]))
          | ((refine sw_renC 143000 7 rfl rfl ?_; simp only [go_sem, Nat.reduceAdd, Nat.reduceMul, Nat.reduceLT, Nat.reduceLeDiff, Nat.reduceEqDiff, Nat.reduceBEq, Nat.reduceSub, ↓reduceIte, reduceCtorEq]))
          | ((exfalso; omega))
          | exact Bool.noConfusion h
          | refine sw_seq ?_
          | refine sw_block ?_
          | refine sw_skip ?_
          | refine sw_inBlock ?_
          | refine sw_go 0 kp189 fun K hK => ?_
          | refine sw_goT 0 kp189 9 (id := 1) (by kernel_rfl) fun K hK => ?_
          | (refine sw_goH 0 kp189 7 (id := 12) (by kernel_rfl) (by kernel_rfl) rfl rfl rfl rfl (by simp only [Nat.reduceLT]) rfl fun K hK => ?_; simp only [List.take, List.drop, Lg.LS.put])
          | (refine sw_goH 0 kp189 7 (id := 13) (by kernel_rfl) (by kernel_rfl) rfl rfl rfl rfl (by simp only [Nat.reduceLT]) rfl fun K hK => ?_; simp only [List.take, List.drop, Lg.LS.put])
          | (refine sw_goH 0 kp189 8 (id := 14) (by kernel_rfl) (by kernel_rfl) rfl rfl rfl rfl (by simp only [Nat.reduceLT]) rfl fun K hK => ?_; simp only [List.take, List.drop, Lg.LS.put])
          | refine fun (K : List Oper → LS → Prop) (hK : KOk S 0 _ _ _ K) => ?_
          | refine sw_goD kp189 (by kernel_rfl) fun K hK => ?_
          | ((first | refine runL_go ?_ | refine runQ_go ?_); simp (disch := (refine Om.mk ?_; omega)) only [go_sem, Nat.reduceAdd, Nat.reduceMul, Nat.reduceLT, Nat.reduceLeDiff, Nat.reduceEqDiff, Nat.reduceBEq, Nat.reduceSub, ↓reduceIte, reduceCtorEq])
          | (refine hK.nil ?_; clear hK K; simp only [go_sem, Nat.reduceAdd, Nat.reduceMul, Nat.reduceLT, Nat.reduceLeDiff, Nat.reduceEqDiff, Nat.reduceBEq, Nat.reduceSub, ↓reduceIte, reduceCtorEq])
          | (refine runG_fork rfl rfl rfl rfl rfl (fun h => ?_) (fun h => ?_) <;> (try simp (disch := (refine Om.mk ?_; omega)) only [go_sem, Nat.reduceAdd, Nat.reduceMul, Nat.reduceLT, Nat.reduceLeDiff, Nat.reduceEqDiff, Nat.reduceBEq, Nat.reduceSub, ↓reduceIte, reduceCtorEq] at h))
          | (refine runQG_fork rfl rfl rfl rfl rfl (fun h => ?_) (fun h => ?_) <;> (try simp (disch := (refine Om.mk ?_; omega)) only [go_sem, Nat.reduceAdd, Nat.reduceMul, Nat.reduceLT, Nat.reduceLeDiff, Nat.reduceEqDiff, Nat.reduceBEq, Nat.reduceSub, ↓reduceIte, reduceCtorEq] at h))
          | (refine hK.skip rfl (by simp only [dstOk, Nat.reduceLT]) ?_)
          | (refine sw_cond rfl (fun h => ?_) (fun h => ?_) <;> (try simp (disch := (refine Om.mk ?_; omega)) only [go_sem, Nat.reduceAdd, Nat.reduceMul, Nat.reduceLT, Nat.reduceLeDiff, Nat.reduceEqDiff, Nat.reduceBEq, Nat.reduceSub, ↓reduceIte, reduceCtorEq] at h))
          | (refine sw_exit rfl ?_)
          | (refine sw_loopEnd ?_)
          | ((first | refine sw_ret (ret0 ?_) | refine sw_ret ?_); simp (disch := (refine Om.mk ?_; omega)) only [go_sem, Nat.reduceAdd, Nat.reduceMul, Nat.reduceLT, Nat.reduceLeDiff, Nat.reduceEqDiff, Nat.reduceBEq, Nat.reduceSub, ↓reduceIte, reduceCtorEq, Try.results189])
          | (refine sw_nil ?_; simp (disch := (refine Om.mk ?_; omega)) only [go_sem, Nat.reduceAdd, Nat.reduceMul, Nat.reduceLT, Nat.reduceLeDiff, Nat.reduceEqDiff, Nat.reduceBEq, Nat.reduceSub, ↓reduceIte, reduceCtorEq, Try.results189])
          | refine hK.call rfl rfl rfl (equalInt64_fc _ _ _ _) ⟨(by intro p hp; cases hp), rfl, rfl, (by simp only [dstOk, Nat.reduceLT])⟩ ?_
          | (refine hK.fork rfl rfl rfl (fun h => ?_) (fun h => ?_) <;> (try simp (disch := (refine Om.mk ?_; omega)) only [go_sem, Nat.reduceAdd, Nat.reduceMul, Nat.reduceLT, Nat.reduceLeDiff, Nat.reduceEqDiff, Nat.reduceBEq, Nat.reduceSub, ↓reduceIte, reduceCtorEq] at h))
          | (with_reducible refine And.intro (by first | omega | (simp only [List.length_append, List.length_take, List.length_drop, List.length_cons, List.length_nil]; omega)) ?_)
          | ((with_reducible refine And.intro ?_ ?_); · first | (intro x hx; subst hx; rfl) | exact upR_mem fun _ _ => rfl | exact mapR_mem fun _ _ => rfl | (intro x; refine And.intro ?_ ?_ <;> (intros; subst_vars; rfl)))
          | fail
        all_goals first
          | exact ⟨j + 1, (by (refine covers_mk0 rfl rfl ?_ ?_ ?_ ?_ <;> simp (disch := (refine Om.mk ?_; omega)) only [go_sem, Nat.reduceAdd, Nat.reduceMul, Nat.reduceLT, Nat.reduceLeDiff, Nat.reduceEqDiff, Nat.reduceBEq, Nat.reduceSub, ↓reduceIte, reduceCtorEq] <;> (try omega)); all_goals first | rfl | (simp; done)), ⟨by omega, fun m hm => by
              rcases Nat.lt_or_ge m j with h1 | h1
              · exact hj2 m h1
              · obtain rfl : m = j := by omega
                intro e; exact h (by rw [e])⟩, by omega⟩
          | (unfold RetN
             rw [show leafG t u P = ([-1 - (j : Int)], P) by rw [leafG, idx_first (P := P) (k := j) (by omega) hj2 (Prod.ext (by assumption) (by assumption)), if_pos (by omega)]]
             simp only [go_sem, Nat.reduceAdd, Nat.reduceMul, Nat.reduceLT, Nat.reduceLeDiff, Nat.reduceEqDiff, Nat.reduceBEq, Nat.reduceSub, ↓reduceIte, reduceCtorEq]
             refine ret_box _ id _ _ 5 6 7 (by decide) (by decide) (by decide) rs _ _ _ _ _ (by simp only [Lg.look, if_true] <;> rfl) ?_ ?_ ?_ rfl rfl rfl <;> (simp; done))
          | skip
      all_goals
        unfold RetN
        simp only [go_sem, Nat.reduceAdd, Nat.reduceMul, Nat.reduceLT, Nat.reduceLeDiff, Nat.reduceEqDiff, Nat.reduceBEq, Nat.reduceSub, ↓reduceIte, reduceCtorEq]
        rw [show leafG t u P = ([-1 - (P.length : Int)], P ++ [(t, u)]) by rw [leafG, idx_notin (P := P) (fun m hm => hj2 m (by omega)), if_neg (by omega)]]
        refine ret_box _ id _ _ 5 6 7 (by decide) (by decide) (by decide) rs _ _ _ _ _ (by simp only [Lg.look, if_true] <;> rfl) ?_ ?_ ?_ ?_ (by simp only [List.map_append]; rfl) (by simp only [List.map_append]; rfl) <;> first | (simp; done) | (rw [show (j : Int) = P.length by omega]) | (congr 3; omega)
end Go.Proofs.Ytgbcnhbmfjkhmaa
