/-
  ClashesOf: the program's side.
-/
import Derived.Test.YtlcdahaihlflaaaU12
import Derived.Test.YtlcdahaihlflaaaLTy
import Derived.Test.YtlcdahaihlflaaaLgK7
namespace Go.Proofs.Ytlcdahaihlflaaa
open Go Go.Lg
set_option linter.unusedSimpArgs false
set_option linter.unusedVariables false
set_option maxHeartbeats 4000000
attribute [local irreducible] SW runL runQ runG runQG FC Ret1
attribute [local irreducible] clRow clTo MeetM
theorem clRow_two (M : Nat → Nat → Prop) (i : Nat) : ∀ j, ∀ x ∈ clRow M i j, x.length = 2
  | 0, x, hx => by rw [clRow_z] at hx; cases hx
  | j + 1, x, hx => by
    by_cases h : M i (i + 1 + j)
    · rw [clRow_y h] at hx
      rcases List.mem_append.1 hx with hx | hx
      · exact clRow_two M i j x hx
      · rw [List.mem_singleton.1 hx]; rfl
    · rw [clRow_n h] at hx
      exact clRow_two M i j x hx
theorem clTo_two (M : Nat → Nat → Prop) (n : Nat) : ∀ i, ∀ x ∈ clTo M n i, x.length = 2
  | 0, x, hx => by rw [clTo_z] at hx; cases hx
  | i + 1, x, hx => by
    rw [clTo_s] at hx
    rcases List.mem_append.1 hx with hx | hx
    · exact clTo_two M n i x hx
    · exact clRow_two M i _ x hx
theorem sum_two : ∀ xs : List (List Int), (∀ x ∈ xs, x.length = 2) → (xs.map fun x => (x.length + 0)).sum = 2 * xs.length
  | [], _ => rfl
  | x :: r, h => by
    have h1 := h x List.mem_cons_self
    have := sum_two r fun y hy => h y (List.mem_cons_of_mem _ hy)
    simp only [List.map_cons, List.sum_cons, List.length_cons]; omega
theorem clR_mc (f : FrontT) : mcInt64SS (clR f) ≤ 128 := by
  rcases Classical.em (FrontOkP f) with h | h
  · rw [clR_yes h]
    have h1 := sum_two _ (clTo_two (clM f) f.lines.length f.lines.length)
    have h2 := clTo_len8 (clM f) h.1.2.2 (Nat.le_refl _)
    unfold mcInt64SS mcInt64S
    omega
  · rw [clR_no h]; decide
theorem mapR_snocW {α : Type} [Inhabited α] (g : Nat → α → D) (xs : List α) (y : α) : mapR g (xs ++ [y]) = mapR g xs ++ [g xs.length y] := by
  unfold mapR
  rw [List.length_append, List.length_singleton, List.range_succ, List.map_append]
  congr 1
  · refine List.map_congr_left fun j hj => ?_
    have hj := List.mem_range.1 hj
    simp only [List.getD_eq_getElem?_getD, List.getElem?_append_left hj]
  · simp [List.getD_eq_getElem?_getD]
theorem puL_bD (f : Nat → Bool) (β : Bds) : (β.map bD).map (D.pu1 f) = β.map bD := by
  rw [List.map_map]
  exact List.map_congr_left fun x _ => by
    show D.pu1 f (bD x) = bD x
    unfold bD; split <;> rfl
attribute [go_sem] puL_bD
theorem uC_zero (rs : List Int) : uC rs b0 = [.sl .any (rs.map (.int .i64)), .sl .nil [], .sl .nil [], .sl .nil [], .sl .nil [], .sl .nil [], .sl .nil [], .sl .nil [], .sl .nil [], .sl .nil [], .sl .nil [], .sl .nil [], .sl .nil [], .sl .nil [], .sl .nil [], .sl .nil [], .sl .nil [], .sl .nil [], .sl .nil [], .sl .nil [], .sl .nil [], .sl .nil [], .sl .nil [], .sl .nil [], .sl .nil [], .sl .nil [], .sl .nil [], .sl .nil [], .sl .nil [], .sl .nil [], .sl .nil [], .sl .nil [], .sl .nil [], .sl .nil [], .sl .nil [], .sl .nil [], .sl .nil [], .sl .nil [], .sl .nil [], .sl .nil [], .sl .nil [], .sl .nil [], .sl .nil [], .sl .nil [], .sl .nil [], .sl .nil [], .sl .nil [], .sl .nil [], .sl .nil []] := by
  unfold uC b0
  simp [List.replicate, bD_nil]
attribute [local irreducible] bD
def kp9 : List (Nat × List Nat) := [(0, [1]), (1, [1, 10]), (2, [2]), (3, [1, 3]), (4, [1, 3, 12, 13, 14]), (5, [1, 3, 12, 13, 14, 15]), (6, [1, 3, 4, 5, 12, 13, 14]), (7, [1, 3, 4, 5, 6, 12, 13, 14]), (8, [1, 3, 4, 5, 6, 12, 13, 14, 25]), (10, [1, 3, 4, 5, 6, 7, 12, 13, 14]), (11, [1, 3, 4, 5, 6, 12, 13, 14, 42]), (12, [1, 3, 4, 5, 6, 12, 13, 14]), (9, [1, 3, 4, 5, 6, 12, 13, 14]), (13, [1, 3, 12, 13, 14]), (14, [2])]
attribute [go_sem] kp9
theorem implClashesOf_fc (p : List Nat) (hp : p ≠ []) (f : FrontT) : FC S 9 [] [] [] [FrontD f] (Int64SSL p (clR f)) [] [] := by
  rcases Classical.em (FrontOkP f) with hs | hs
  · have hn8 := hs.1.2.2
    have hok := fun j => @left_ok f hs j
    have hfl := front_len hs
    rw [clR_yes hs]
    refine fc_body Try.func9 rfl (by kernel_rfl) (by simp [Try.f9]) fun B => ?_
    simp only [Try.ntmps9, enumD, List.map_nil, List.map_cons, List.length_map, Nat.zero_add, Nat.reduceAdd]
    repeat' first
      | ((exact absurd hs (by assumption)))
      | ((exfalso; omega))
      | exact Bool.noConfusion h
      | refine sw_seq ?_
      | refine sw_block ?_
      | refine sw_skip ?_
      | refine sw_inBlock ?_
      | refine sw_go 2000 kp9 fun K hK => ?_
      | refine fun (K : List Oper → LS → Prop) (hK : KOk S 2000 _ _ _ K) => ?_
      | refine sw_goD kp9 (by kernel_rfl) fun K hK => ?_
      | ((first | refine runL_go ?_ | refine runQ_go ?_); simp (disch := (refine Om.mk ?_; omega)) only [go_sem])
      | (refine hK.nil ?_; clear hK K; simp only [go_sem])
      | (refine sw_cond rfl (fun h => ?_) (fun h => ?_) <;> (try simp (disch := (refine Om.mk ?_; omega)) only [go_sem] at h))
      | (refine sw_exit rfl ?_)
      | (refine sw_loopEnd ?_)
      | ((first | refine sw_ret (ret0 ?_) | refine sw_ret ?_); simp (disch := (refine Om.mk ?_; omega)) only [go_sem, Try.results9])
      | refine hK.call rfl rfl rfl (implFrontOk_fc f leftC) ⟨(by intro p hp; cases hp), rfl, rfl, (by simp only [dstOk, Nat.reduceLT])⟩ ?_
      | (with_reducible refine And.intro (by first | omega | (simp only [List.length_append, List.length_take, List.length_drop, List.length_cons, List.length_nil, List.length_map]; omega)) ?_)
      | ((with_reducible refine And.intro ?_ ?_); · first | (intro x hx; subst hx; rfl) | exact upR_mem fun _ _ => rfl | exact mapR_mem fun _ _ => rfl | (intro x; refine And.intro ?_ ?_ <;> (intros; subst_vars; rfl)))
      | fail
    refine sw_tok 3 49000 22 1 rfl (.inl rfl) rfl ?_
    simp only [go_sem]
    refine sw_loopT (ι := Nat) (fun i => [(14, .int .i64 i), (3, .sl (.own 49000 22 1) (mapR (fun i y => Int64SL (p ++ [i] ++ [0]) y) (clTo (clM f) f.lines.length i)))]) (fun _ => []) (fun _ => [49000]) (fun i => i ≤ f.lines.length) (fun i => f.lines.length - i) 0 (by rw [clTo_z]; (refine covers_mk0 rfl rfl ?_ ?_ ?_ ?_ <;> simp (disch := (refine Om.mk ?_; omega)) only [go_sem] <;> (try omega)); all_goals first | rfl | exact ⟨rfl, rfl⟩ | trace_state) (by omega) (fun i hi => ?_)
    simp only [go_sem]
    have hl1 := clTo_len8 (clM f) hn8 hi
    by_cases hil : i < f.lines.length
    · repeat' first
        | ((exfalso; omega))
        | exact Bool.noConfusion h
        | refine sw_seq ?_
        | refine sw_block ?_
        | refine sw_skip ?_
        | refine sw_inBlock ?_
        | refine sw_go 2000 kp9 fun K hK => ?_
        | refine fun (K : List Oper → LS → Prop) (hK : KOk S 2000 _ _ _ K) => ?_
        | refine sw_goD kp9 (by kernel_rfl) fun K hK => ?_
        | ((first | refine runL_go ?_ | refine runQ_go ?_); simp (disch := (refine Om.mk ?_; omega)) only [go_sem])
        | (refine hK.nil ?_; clear hK K; simp only [go_sem])
        | (refine sw_cond rfl (fun h => ?_) (fun h => ?_) <;> (try simp (disch := (refine Om.mk ?_; omega)) only [go_sem] at h))
        | (refine sw_exit rfl ?_)
        | (refine sw_loopEnd ?_)
        | ((first | refine sw_ret (ret0 ?_) | refine sw_ret ?_); simp (disch := (refine Om.mk ?_; omega)) only [go_sem, Try.results9])
        | (with_reducible refine And.intro (by first | omega | (simp only [List.length_append, List.length_take, List.length_drop, List.length_cons, List.length_nil, List.length_map]; omega)) ?_)
        | ((with_reducible refine And.intro ?_ ?_); · first | (intro x hx; subst hx; rfl) | exact upR_mem fun _ _ => rfl | exact mapR_mem fun _ _ => rfl | (intro x; refine And.intro ?_ ?_ <;> (intros; subst_vars; rfl)))
        | fail
      refine sw_loopT (ι := Nat) (fun j => [(6, .int .i64 ((i + 1 + j : Nat) : Int)), (3, .sl (.own 49000 22 1) (mapR (fun i y => Int64SL (p ++ [i] ++ [0]) y) (clTo (clM f) f.lines.length i ++ clRow (clM f) i j)))]) (fun _ => []) (fun _ => [49000]) (fun j => j ≤ f.lines.length - (i + 1)) (fun j => f.lines.length - (i + 1) - j) 0 (by rw [clRow_z]; (refine covers_mk0 rfl rfl ?_ ?_ ?_ ?_ <;> simp (disch := (refine Om.mk ?_; omega)) only [go_sem] <;> (try omega)); all_goals first | rfl | exact ⟨rfl, by simp⟩ | exact ⟨by simp, rfl⟩ | (simp; done) | trace_state) (by omega) (fun j hj => ?_)
      simp only [go_sem]
      have hl2 := clRow_len (clM f) i j
      have hl3 : (clTo (clM f) f.lines.length i ++ clRow (clM f) i j).length ≤ 72 := by rw [List.length_append]; omega
      by_cases hjl : i + 1 + j < f.lines.length
      · have cL := (left_fc [0] (by simp) (f.lines.getD i default) (hfl i hil).1 (by have := (hfl i hil).2.1; omega)).weak (bx'' := []) (tk'' := []) .any (by simp) (by simp)
        have cK := (left_fc [0] (by simp) (f.lines.getD (i + 1 + j) default) (hfl _ hjl).1 (by have := (hfl _ hjl).2.1; omega)).weak (bx'' := []) (tk'' := []) .any (by simp) (by simp)
        have hA := hok i hil
        have hB := hok _ hjl
        have cW := away_fc (leftL (f.lines.getD (i + 1 + j) default)) (by have := hB.1.2.1; omega) (fun x hx => hB.1.ge x hx)
        rcases solve_law hA.1 hB.1 hA.2 hB.2 with ⟨hM, β', he⟩ | ⟨hM, he⟩
        · have cY := solve_yes 1031 f.sig 1 60 b0 β' (b0_ok _) _ _ (XT.of hA.1) (XT.away hB.1) he
          rw [uC_zero] at cY
          unfold uC at cY
          repeat' first
            | ((exfalso; omega))
            | ((refine hK.callB rfl rfl rfl (cY) ⟨⟨by simp only [Nat.reduceLT], (by simp [-List.map_set, LS.getBox, Lg.look]), (by simp [-List.map_set, Lg.look]), (by simp), (by simp)⟩, ⟨by simp [-List.map_set, D.ids, D.idsL, idsL_bool, idsL_bD], by simp [-List.map_set, D.ids, D.idsL, idsL_bool, idsL_bD], by simp [-List.map_set, D.tks, D.tksL, tksU_ints, tksL_bool, tksL_bD], by simp [-List.map_set, D.tks, D.tksL, tksU_ints, tksL_bool, tksL_bD], by simp⟩, (by simp [-List.map_set, LS.clean, D.puOk, D.pu, D.pu1, D.tks, D.tksL, tksU_ints, tksL_bool, tksL_bD, puOk_intsU, puOk_bool, puOk_bD, inTok])⟩ ?_; simp (disch := (refine Om.mk ?_; omega)) only [go_sem]))
            | ((refine sw_goAt (id := 12) 2000 kp9 3 rfl fun K hK => ?_))
            | exact Bool.noConfusion h
            | refine sw_seq ?_
            | refine sw_block ?_
            | refine sw_skip ?_
            | refine sw_inBlock ?_
            | refine sw_go 2000 kp9 fun K hK => ?_
            | refine sw_goT 2000 kp9 10 (id := 11) (by kernel_rfl) fun K hK => ?_
            | refine fun (K : List Oper → LS → Prop) (hK : KOk S 2000 _ _ _ K) => ?_
            | refine sw_goD kp9 (by kernel_rfl) fun K hK => ?_
            | ((first | refine runL_go ?_ | refine runQ_go ?_); simp (disch := (refine Om.mk ?_; omega)) only [go_sem])
            | (refine hK.nil ?_; clear hK K; simp only [go_sem])
            | (refine sw_cond rfl (fun h => ?_) (fun h => ?_) <;> (try simp (disch := (refine Om.mk ?_; omega)) only [go_sem] at h))
            | (refine sw_exit rfl ?_)
            | (refine sw_loopEnd ?_)
            | ((first | refine sw_ret (ret0 ?_) | refine sw_ret ?_); simp (disch := (refine Om.mk ?_; omega)) only [go_sem, Try.results9])
            | refine hK.call rfl rfl rfl (cL) ⟨(by intro p hp; cases hp), rfl, rfl, (by simp only [dstOk, Nat.reduceLT])⟩ ?_
            | refine hK.call rfl rfl rfl (cK) ⟨(by intro p hp; cases hp), rfl, rfl, (by simp only [dstOk, Nat.reduceLT])⟩ ?_
            | refine hK.call rfl rfl rfl (cW) ⟨(by intro p hp; cases hp), rfl, rfl, (by simp only [dstOk, Nat.reduceLT])⟩ ?_
            | (with_reducible refine And.intro (by first | omega | (simp only [List.length_append, List.length_take, List.length_drop, List.length_cons, List.length_nil, List.length_map]; omega)) ?_)
            | ((with_reducible refine And.intro ?_ ?_); · first | (intro x hx; subst hx; rfl) | exact upR_mem fun _ _ => rfl | exact mapR_mem fun _ _ => rfl | (intro x; refine And.intro ?_ ?_ <;> (intros; subst_vars; rfl)))
            | fail
          refine LopsW.buildOwn 46000 rfl rfl rfl ⟨⟨by simp only [Nat.reduceLT], by decide, by decide, by decide⟩, rfl, by simp [D.strip, strip1, D.cells, D.memOk, TyI.size]⟩ (by simp [-List.map_set, LS.clean, D.tks, D.tksL, tksU_ints, tksL_bD]) (LopsW.lab 46 (p ++ [(clTo (clM f) f.lines.length i ++ clRow (clM f) i j).length] ++ [0]) rfl (by simp [LS.put]) (by simp) (LopsW.nil ?_))
          try simp only [go_sem]
          refine fun (K : List Oper → LS → Prop) (hK : KOk S 2000 _ _ _ K) => ?_
          try simp only [go_sem]
          repeat' first
            | ((exfalso; omega))
            | ((refine ⟨?s2, ?s3, ?s4, ?s5, ?_⟩; (case s2 => decide); (case s3 => exact mapR_cells (fun _ _ => rfl)); (case s4 => omega); (case s5 => omega)))
            | exact Bool.noConfusion h
            | refine sw_seq ?_
            | refine sw_block ?_
            | refine sw_skip ?_
            | refine sw_inBlock ?_
            | refine sw_go 2000 kp9 fun K hK => ?_
            | refine fun (K : List Oper → LS → Prop) (hK : KOk S 2000 _ _ _ K) => ?_
            | refine sw_goD kp9 (by kernel_rfl) fun K hK => ?_
            | ((first | refine runL_go ?_ | refine runQ_go ?_); simp (disch := (refine Om.mk ?_; omega)) only [go_sem])
            | (refine hK.nil ?_; clear hK K; simp only [go_sem])
            | (refine sw_cond rfl (fun h => ?_) (fun h => ?_) <;> (try simp (disch := (refine Om.mk ?_; omega)) only [go_sem] at h))
            | (refine sw_exit rfl ?_)
            | (refine sw_loopEnd ?_)
            | ((first | refine sw_ret (ret0 ?_) | refine sw_ret ?_); simp (disch := (refine Om.mk ?_; omega)) only [go_sem, Try.results9])
            | (with_reducible refine And.intro (by first | omega | (simp only [List.length_append, List.length_take, List.length_drop, List.length_cons, List.length_nil, List.length_map]; omega)) ?_)
            | ((with_reducible refine And.intro ?_ ?_); · first | (intro x hx; subst hx; rfl) | exact upR_mem fun _ _ => rfl | exact mapR_mem fun _ _ => rfl | (intro x; refine And.intro ?_ ?_ <;> (intros; subst_vars; rfl)))
            | fail
          all_goals exact ⟨j + 1, (by rw [clRow_y hM, ← List.append_assoc]; (refine covers_mk0 rfl rfl ?_ ?_ ?_ ?_ <;> simp (disch := (refine Om.mk ?_; omega)) only [go_sem] <;> (try omega)); all_goals first | rfl | (refine ⟨?_, by omega⟩; rw [mapR_snocW]; rfl) | exact ⟨rfl, by omega⟩ | exact ⟨by omega, rfl⟩ | (simp; done) | trace_state), by omega, by omega⟩
        · have cY := solve_no 1031 f.sig 1 60 b0 (b0_ok _) _ _ (XT.of hA.1) (XT.away hB.1) he
          rw [uC_zero] at cY
          repeat' first
            | ((exfalso; omega))
            | ((refine hK.callB rfl rfl rfl (cY) ⟨⟨by simp only [Nat.reduceLT], (by simp [-List.map_set, LS.getBox, Lg.look]), (by simp [-List.map_set, Lg.look]), (by simp), (by simp)⟩, ⟨by simp [-List.map_set, D.ids, D.idsL, idsL_bool, idsL_bD], by simp [-List.map_set, D.ids, D.idsL, idsL_bool, idsL_bD], by simp [-List.map_set, D.tks, D.tksL, tksU_ints, tksL_bool, tksL_bD], by simp [-List.map_set, D.tks, D.tksL, tksU_ints, tksL_bool, tksL_bD], by simp⟩, (by simp [-List.map_set, LS.clean, D.puOk, D.pu, D.pu1, D.tks, D.tksL, tksU_ints, tksL_bool, tksL_bD, puOk_intsU, puOk_bool, puOk_bD, inTok])⟩ ?_; simp (disch := (refine Om.mk ?_; omega)) only [go_sem]))
            | exact Bool.noConfusion h
            | refine sw_seq ?_
            | refine sw_block ?_
            | refine sw_skip ?_
            | refine sw_inBlock ?_
            | refine sw_go 2000 kp9 fun K hK => ?_
            | refine sw_goT 2000 kp9 10 (id := 11) (by kernel_rfl) fun K hK => ?_
            | refine fun (K : List Oper → LS → Prop) (hK : KOk S 2000 _ _ _ K) => ?_
            | refine sw_goD kp9 (by kernel_rfl) fun K hK => ?_
            | ((first | refine runL_go ?_ | refine runQ_go ?_); simp (disch := (refine Om.mk ?_; omega)) only [go_sem])
            | (refine hK.nil ?_; clear hK K; simp only [go_sem])
            | (refine sw_cond rfl (fun h => ?_) (fun h => ?_) <;> (try simp (disch := (refine Om.mk ?_; omega)) only [go_sem] at h))
            | (refine sw_exit rfl ?_)
            | (refine sw_loopEnd ?_)
            | ((first | refine sw_ret (ret0 ?_) | refine sw_ret ?_); simp (disch := (refine Om.mk ?_; omega)) only [go_sem, Try.results9])
            | refine hK.call rfl rfl rfl (cL) ⟨(by intro p hp; cases hp), rfl, rfl, (by simp only [dstOk, Nat.reduceLT])⟩ ?_
            | refine hK.call rfl rfl rfl (cK) ⟨(by intro p hp; cases hp), rfl, rfl, (by simp only [dstOk, Nat.reduceLT])⟩ ?_
            | refine hK.call rfl rfl rfl (cW) ⟨(by intro p hp; cases hp), rfl, rfl, (by simp only [dstOk, Nat.reduceLT])⟩ ?_
            | (with_reducible refine And.intro (by first | omega | (simp only [List.length_append, List.length_take, List.length_drop, List.length_cons, List.length_nil, List.length_map]; omega)) ?_)
            | ((with_reducible refine And.intro ?_ ?_); · first | (intro x hx; subst hx; rfl) | exact upR_mem fun _ _ => rfl | exact mapR_mem fun _ _ => rfl | (intro x; refine And.intro ?_ ?_ <;> (intros; subst_vars; rfl)))
            | fail
          all_goals exact ⟨j + 1, (by rw [clRow_n hM]; (refine covers_mk0 rfl rfl ?_ ?_ ?_ ?_ <;> simp (disch := (refine Om.mk ?_; omega)) only [go_sem] <;> (try omega)); all_goals first | rfl | (simp; done) | exact ⟨by omega, rfl⟩ | exact ⟨rfl, by omega⟩ | omega | trace_state), by omega, by omega⟩
      · repeat' first
          | ((exfalso; omega))
          | exact Bool.noConfusion h
          | refine sw_seq ?_
          | refine sw_block ?_
          | refine sw_skip ?_
          | refine sw_inBlock ?_
          | refine sw_go 2000 kp9 fun K hK => ?_
          | refine fun (K : List Oper → LS → Prop) (hK : KOk S 2000 _ _ _ K) => ?_
          | refine sw_goD kp9 (by kernel_rfl) fun K hK => ?_
          | ((first | refine runL_go ?_ | refine runQ_go ?_); simp (disch := (refine Om.mk ?_; omega)) only [go_sem])
          | (refine hK.nil ?_; clear hK K; simp only [go_sem])
          | (refine sw_cond rfl (fun h => ?_) (fun h => ?_) <;> (try simp (disch := (refine Om.mk ?_; omega)) only [go_sem] at h))
          | (refine sw_exit rfl ?_)
          | (refine sw_loopEnd ?_)
          | ((first | refine sw_ret (ret0 ?_) | refine sw_ret ?_); simp (disch := (refine Om.mk ?_; omega)) only [go_sem, Try.results9])
          | (with_reducible refine And.intro (by first | omega | (simp only [List.length_append, List.length_take, List.length_drop, List.length_cons, List.length_nil, List.length_map]; omega)) ?_)
          | ((with_reducible refine And.intro ?_ ?_); · first | (intro x hx; subst hx; rfl) | exact upR_mem fun _ _ => rfl | exact mapR_mem fun _ _ => rfl | (intro x; refine And.intro ?_ ?_ <;> (intros; subst_vars; rfl)))
          | fail
        all_goals exact ⟨i + 1, (by rw [clTo_s, show f.lines.length - (i + 1) = j by omega]; (refine covers_mk0 rfl rfl ?_ ?_ ?_ ?_ <;> simp (disch := (refine Om.mk ?_; omega)) only [go_sem] <;> (try omega)); all_goals first | rfl | exact ⟨by omega, rfl⟩ | exact ⟨rfl, by omega⟩ | omega | trace_state), by omega, by omega⟩
    · repeat' first
        | ((exfalso; omega))
        | (refine sw_lab 2 p (k := 49000) rfl (by simp) hp ?_; simp only [go_sem])
        | exact Bool.noConfusion h
        | refine sw_seq ?_
        | refine sw_block ?_
        | refine sw_skip ?_
        | refine sw_inBlock ?_
        | refine sw_go 2000 kp9 fun K hK => ?_
        | refine fun (K : List Oper → LS → Prop) (hK : KOk S 2000 _ _ _ K) => ?_
        | refine sw_goD kp9 (by kernel_rfl) fun K hK => ?_
        | ((first | refine runL_go ?_ | refine runQ_go ?_); simp (disch := (refine Om.mk ?_; omega)) only [go_sem])
        | (refine hK.nil ?_; clear hK K; simp only [go_sem])
        | (refine sw_cond rfl (fun h => ?_) (fun h => ?_) <;> (try simp (disch := (refine Om.mk ?_; omega)) only [go_sem] at h))
        | (refine sw_exit rfl ?_)
        | (refine sw_loopEnd ?_)
        | ((first | refine sw_ret (ret0 ?_) | refine sw_ret ?_); simp (disch := (refine Om.mk ?_; omega)) only [go_sem, Try.results9])
        | (with_reducible refine And.intro (by first | omega | (simp only [List.length_append, List.length_take, List.length_drop, List.length_cons, List.length_nil, List.length_map]; omega)) ?_)
        | ((with_reducible refine And.intro ?_ ?_); · first | (intro x hx; subst hx; rfl) | exact upR_mem fun _ _ => rfl | exact mapR_mem fun _ _ => rfl | (intro x; refine And.intro ?_ ?_ <;> (intros; subst_vars; rfl)))
        | fail
      all_goals rw [show i = f.lines.length by omega]
  · rw [clR_no hs]
    refine fc_body Try.func9 rfl (by kernel_rfl) (by simp [Try.f9]) fun B => ?_
    simp only [Try.ntmps9, enumD, List.map_nil, List.map_cons, List.length_map, Nat.zero_add, Nat.reduceAdd]
    repeat' first
      | ((exact absurd (by assumption) hs))
      | exact Bool.noConfusion h
      | refine sw_seq ?_
      | refine sw_block ?_
      | refine sw_skip ?_
      | refine sw_inBlock ?_
      | refine sw_go 2000 kp9 fun K hK => ?_
      | refine fun (K : List Oper → LS → Prop) (hK : KOk S 2000 _ _ _ K) => ?_
      | refine sw_goD kp9 (by kernel_rfl) fun K hK => ?_
      | ((first | refine runL_go ?_ | refine runQ_go ?_); simp (disch := (refine Om.mk ?_; omega)) only [go_sem])
      | (refine hK.nil ?_; clear hK K; simp only [go_sem])
      | (refine sw_cond rfl (fun h => ?_) (fun h => ?_) <;> (try simp (disch := (refine Om.mk ?_; omega)) only [go_sem] at h))
      | (refine sw_exit rfl ?_)
      | (refine sw_loopEnd ?_)
      | ((first | refine sw_ret (ret0 ?_) | refine sw_ret ?_); simp (disch := (refine Om.mk ?_; omega)) only [go_sem, Try.results9])
      | refine hK.call rfl rfl rfl (implFrontOk_fc f leftC) ⟨(by intro p hp; cases hp), rfl, rfl, (by simp only [dstOk, Nat.reduceLT])⟩ ?_
      | (with_reducible refine And.intro (by first | omega | (simp only [List.length_append, List.length_take, List.length_drop, List.length_cons, List.length_nil, List.length_map]; omega)) ?_)
      | ((with_reducible refine And.intro ?_ ?_); · first | (intro x hx; subst hx; rfl) | exact upR_mem fun _ _ => rfl | exact mapR_mem fun _ _ => rfl | (intro x; refine And.intro ?_ ?_ <;> (intros; subst_vars; rfl)))
      | fail
    all_goals (simp [mapR, le0]; done)
end Go.Proofs.Ytlcdahaihlflaaa
