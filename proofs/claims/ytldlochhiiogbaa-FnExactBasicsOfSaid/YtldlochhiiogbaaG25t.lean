/-
  Ground terms by their lengths: the specification's GroundsOf.
-/
import Derived.Test.YtldlochhiiogbaaG25s
import Derived.Test.YtldlochhiiogbaaLgK10
namespace Go.Lg
open Go
theorem LopsW.stepO {S : Setup} {B : Base} {ops : Array Oper} {o : Oper} {l : List Oper} {L : LS} {K : LS → Prop} (hg : guardY ops L o.guard = some true) (h : opY S o.op (evalO L) L.getBox fun d => dstOk o.dst L ∧ LopsW S B ops l (L.putO o.dst d) K) : LopsW S B ops (o :: l) L K := by
  intro G a w hs Q hQ
  refine wpList_step fun N hN => ?_
  rw [if_pos (guardY_sound (S := S) rfl hs hg)]
  obtain ⟨d, ⟨hd, hK⟩, hy⟩ := opY_sound hs h
  exact hy _ _ fun v G' w' h1 h2 _ => hN _ w' (hK G' _ w' (h1.putO (fun t' e => by subst_vars; rw [e] at hd; exact hd) h2) Q hQ)
end Go.Lg
namespace Go.Proofs.Ytldlochhiiogbaa
open Go Go.Lg
set_option linter.unusedSimpArgs false
set_option linter.unusedVariables false
set_option maxHeartbeats 4000000
attribute [local irreducible] SW runL runQ runG runQG FC Ret1 toF redoL
attribute [local irreducible] cut rowJ rowU oI oX
def kp6 : List (Nat × List Nat) := [(0, [1, 2]), (1, [1, 2, 20]), (2, [4, 5]), (3, [1, 2, 6]), (4, [1, 2, 6, 7]), (5, [1, 2, 6, 7, 8]), (6, [1, 2, 6, 7, 8, 27]), (8, [1, 2, 6, 7, 8, 9]), (9, [1, 2, 6, 7, 8, 9, 10]), (10, [1, 2, 6, 7, 8, 9, 10, 35]), (12, [1, 2, 6, 7, 8, 9, 10, 11]), (13, [1, 2, 6, 7, 8, 9, 10, 11, 12]), (14, [1, 2, 6, 7, 8, 9, 10, 11, 12, 50]), (16, [1, 2, 6, 7, 8, 9, 10, 11, 12]), (15, [1, 2, 6, 7, 8, 9, 10, 11, 12]), (11, [1, 2, 6, 7, 8, 9, 10]), (17, [1, 2, 6, 7, 8, 9]), (18, [1, 2, 6, 7, 8]), (19, [1, 2, 6, 7, 8, 71]), (20, [4, 5]), (7, [1, 2, 6, 7, 8]), (21, [4, 5])]
attribute [go_sem] kp6
def GrP (rs : List Int) (n : Int) : Prop := SigOkP rs ∧ (1 ≤ n ∧ n ≤ 60) ∧ (allG rs n.toNat).length ≤ 200
open Classical in
noncomputable def grR (rs : List Int) (n : Int) : Tms := if GrP rs n then allG rs n.toNat else []
theorem grR_yes {rs : List Int} {n : Int} (h : GrP rs n) : grR rs n = allG rs n.toNat := if_pos h
theorem grR_no {rs : List Int} {n : Int} (h : ¬ GrP rs n) : grR rs n = [] := if_neg h
theorem catC_len {rs : List Int} (hs : SigOkP rs) (B : List Tms) (m : Nat) {j : Nat} (hj : j ≤ rs.length) : (catJ cut rs B m j).length ≤ 1608 := by
  have := (cat_cut_len rs B m j).2
  have := hs.1.2
  omega
theorem gr_step {rs : List Int} {k : Nat} (h : ((allG rs k).length : Int) + (srtM (catJ cut rs (bl rs k) k rs.length)).length ≤ 200) : srtM (catJ cut rs (bl rs k) k rs.length) = srtM (catJ id rs (bl rs k) k rs.length) := by
  rw [srtM_len] at h
  rw [cat_cut _ (by omega)]
theorem gr_over {rs : List Int} {k m : Nat} (hk : k < m) (h : 200 < ((allG rs k).length : Int) + (srtM (catJ cut rs (bl rs k) k rs.length)).length) : ¬ GrP rs (m : Int) := fun hg => by
  have h1 := hg.2.2
  rw [Int.toNat_natCast] at h1
  have h2 := allG_mono rs (k + 1) (m - (k + 1))
  rw [show k + 1 + (m - (k + 1)) = m by omega, allG_succ, List.length_append, srtM_len] at h2
  have h3 := (cat_cut_len rs (bl rs k) k rs.length).1
  rw [srtM_len] at h
  omega
theorem specGroundsOf_fc (rs : List Int) (n : Int) : FC S 6 [] [] [] [.agg [.sl .any (rs.map (.int .i64))], .int .i64 n] (.tup [.sl .any ((grR rs n).map IntsD), .bool (tst (GrP rs n))]) [] [] := by
  by_cases hs : SigOkP rs ∧ (1 ≤ n ∧ n ≤ 60)
  · obtain ⟨m, rfl⟩ : ∃ m : Nat, n = m := ⟨n.toNat, by omega⟩
    have hr8 := hs.1.1.2
    skip
    refine fc_body Try.func6 rfl (by kernel_rfl) (by simp [Try.f6]) fun B => ?_
    simp only [Try.ntmps6, enumD, List.map_nil, List.map_cons, List.length_map, Nat.zero_add, Nat.reduceAdd]
    repeat' first
      | ((exfalso; omega))
      | ((exfalso; exact absurd hs.1 (by assumption)))
      | ((refine sw_goB (id := 3) 0 kp6 1 66000 rfl fun K hK => ?_))
      | ((refine ⟨_, _, _, rfl, rfl, rfl, ⟨⟨by simp only [Nat.reduceLT], by decide, by decide, by decide⟩, rfl, by simp [D.strip, strip1, D.cells, D.memOk, TyI.size]⟩, rfl, by simp only [Nat.reduceLT], ?_⟩; simp only [go_sem]))
      | exact Bool.noConfusion h
      | refine sw_seq ?_
      | refine sw_block ?_
      | refine sw_skip ?_
      | refine sw_inBlock ?_
      | refine sw_go 0 kp6 fun K hK => ?_
      | refine fun (K : List Oper → LS → Prop) (hK : KOk S 0 _ _ _ K) => ?_
      | ((first | refine runL_go ?_ | refine runQ_go ?_); simp (disch := (refine Om.mk ?_; omega)) only [go_sem])
      | (refine hK.nil ?_; clear hK K; simp only [go_sem])
      | (refine runG_fork rfl rfl rfl rfl rfl (fun h => ?_) (fun h => ?_) <;> (try simp (disch := (refine Om.mk ?_; omega)) only [go_sem] at h))
      | (refine hK.skip rfl (by simp only [dstOk, Nat.reduceLT]) ?_)
      | (refine sw_cond rfl (fun h => ?_) (fun h => ?_) <;> (try simp (disch := (refine Om.mk ?_; omega)) only [go_sem] at h))
      | (refine sw_exit rfl ?_)
      | (refine sw_loopEnd ?_)
      | ((first | refine sw_ret (ret0 ?_) | refine sw_ret ?_); simp (disch := (refine Om.mk ?_; omega)) only [go_sem, Try.results6])
      | refine hK.call rfl rfl rfl (specSigOk_fc _ _) ⟨(by intro p hp; cases hp), rfl, rfl, (by simp only [dstOk, Nat.reduceLT])⟩ ?_
      | refine hK.call rfl rfl rfl (l1In_fc _ _ _) ⟨(by intro p hp; cases hp), rfl, rfl, (by simp only [dstOk, Nat.reduceLT])⟩ ?_
      | (refine hK.fork rfl rfl rfl (fun h => ?_) (fun h => ?_) <;> (try simp (disch := (refine Om.mk ?_; omega)) only [go_sem] at h))
      | (with_reducible refine And.intro (by first | omega | (simp only [List.length_append, List.length_take, List.length_drop, List.length_cons, List.length_nil, List.length_map]; omega)) ?_)
      | ((with_reducible refine And.intro ?_ ?_); · first | (intro x hx; subst hx; rfl) | exact upR_mem fun _ _ => rfl | exact mapR_mem fun _ _ => rfl | (intro x; refine And.intro ?_ ?_ <;> (intros; subst_vars; rfl)))
      | fail
    all_goals try exact absurd hs.1 (by assumption)
    refine sw_tok 7 69000 22 1 rfl (.inr rfl) rfl ?_
    simp only [go_sem]
    refine sw_loopT (ι := Nat) (fun k => [(8, .int .i64 (k + 1)), (6, .sl (.own 66000 26 1) ((bl rs k).map LevD)), (7, .sl (.own 69000 22 1) ((allG rs k).map IntsD))]) (fun _ => []) (fun _ => [69000, 66000]) (fun k => k ≤ m ∧ (allG rs k).length ≤ 200) (fun k => m - k) 0 (by (refine covers_mk0 rfl rfl ?_ ?_ ?_ ?_ <;> simp (disch := (refine Om.mk ?_; omega)) only [go_sem] <;> (try omega)); all_goals first | exact ⟨rfl, rfl, rfl⟩ | trace_state) ⟨by omega, by rw [allG_zero]; simp⟩ (fun k hk => ?_)
    obtain ⟨hk, hal⟩ := hk
    simp only [go_sem]
    by_cases hkm : k < m
    · have hB := bl_term rs k
      have hB2 : ∀ j, (lv (bl rs k) j).length ≤ 3000 := fun j => by have := level_le hal j; omega
      have hbl := bl_len rs k
      repeat' first
        | ((exfalso; omega))
        | exact Bool.noConfusion h
        | refine sw_seq ?_
        | refine sw_block ?_
        | refine sw_skip ?_
        | refine sw_inBlock ?_
        | refine sw_go 0 kp6 fun K hK => ?_
        | refine fun (K : List Oper → LS → Prop) (hK : KOk S 0 _ _ _ K) => ?_
        | ((first | refine runL_go ?_ | refine runQ_go ?_); simp (disch := (refine Om.mk ?_; omega)) only [go_sem])
        | (refine hK.nil ?_; clear hK K; simp only [go_sem])
        | (refine runG_fork rfl rfl rfl rfl rfl (fun h => ?_) (fun h => ?_) <;> (try simp (disch := (refine Om.mk ?_; omega)) only [go_sem] at h))
        | (refine hK.skip rfl (by simp only [dstOk, Nat.reduceLT]) ?_)
        | (refine sw_cond rfl (fun h => ?_) (fun h => ?_) <;> (try simp (disch := (refine Om.mk ?_; omega)) only [go_sem] at h))
        | (refine sw_exit rfl ?_)
        | (refine sw_loopEnd ?_)
        | ((first | refine sw_ret (ret0 ?_) | refine sw_ret ?_); simp (disch := (refine Om.mk ?_; omega)) only [go_sem, Try.results6])
        | (refine hK.fork rfl rfl rfl (fun h => ?_) (fun h => ?_) <;> (try simp (disch := (refine Om.mk ?_; omega)) only [go_sem] at h))
        | (with_reducible refine And.intro (by first | omega | (simp only [List.length_append, List.length_take, List.length_drop, List.length_cons, List.length_nil, List.length_map]; omega)) ?_)
        | ((with_reducible refine And.intro ?_ ?_); · first | (intro x hx; subst hx; rfl) | exact upR_mem fun _ _ => rfl | exact mapR_mem fun _ _ => rfl | (intro x; refine And.intro ?_ ?_ <;> (intros; subst_vars; rfl)))
        | fail
      refine sw_loopT (ι := Nat) (fun f => [(10, .int .i64 f), (9, .sl .any ((srtM (catJ cut rs (bl rs k) k f)).map IntsD))]) (fun _ => []) (fun _ => [69000, 66000]) (fun f => f ≤ rs.length) (fun f => rs.length - f) 0 (by (refine covers_mk0 rfl rfl ?_ ?_ ?_ ?_ <;> simp (disch := (refine Om.mk ?_; omega)) only [go_sem] <;> (try omega)); all_goals first | rfl | exact ⟨rfl, rfl⟩ | trace_state) (by omega) (fun f hf => ?_)
      simp only [go_sem]
      by_cases hfl : f < rs.length
      · have har := hs.1.2 f hfl
        have hcs := catJ_succ cut rs (bl rs k) k f
        have hcl := catC_len hs.1 (bl rs k) k (j := f + 1) (by omega)
        rw [hcs, List.length_append, List.length_map] at hcl
        have hrl : ∀ x ∈ cut (rowU (bl rs k) (rs.getD f default).toNat k), x.length = k := fun x hx => rowU_len (bl rs k) hB _ _ x (mem_cut hx)
        have cR := fun (tk : Tk) (A M : Int) hA hM => l25Rows_fc (bl rs k) hB hB2 (rs.getD f default).toNat k A M tk hA hM (by omega) (by omega) (by omega)
        generalize cut (rowU (bl rs k) (rs.getD f default).toNat k) = rows at cR hrl hcs hcl
        repeat' first
          | ((exfalso; omega))
          | exact Bool.noConfusion h
          | refine sw_seq ?_
          | refine sw_block ?_
          | refine sw_skip ?_
          | refine sw_inBlock ?_
          | refine sw_go 0 kp6 fun K hK => ?_
          | refine fun (K : List Oper → LS → Prop) (hK : KOk S 0 _ _ _ K) => ?_
          | ((first | refine runL_go ?_ | refine runQ_go ?_); simp (disch := (refine Om.mk ?_; omega)) only [go_sem])
          | (refine hK.nil ?_; clear hK K; simp only [go_sem])
          | (refine runG_fork rfl rfl rfl rfl rfl (fun h => ?_) (fun h => ?_) <;> (try simp (disch := (refine Om.mk ?_; omega)) only [go_sem] at h))
          | (refine hK.skip rfl (by simp only [dstOk, Nat.reduceLT]) ?_)
          | (refine sw_cond rfl (fun h => ?_) (fun h => ?_) <;> (try simp (disch := (refine Om.mk ?_; omega)) only [go_sem] at h))
          | (refine sw_exit rfl ?_)
          | (refine sw_loopEnd ?_)
          | ((first | refine sw_ret (ret0 ?_) | refine sw_ret ?_); simp (disch := (refine Om.mk ?_; omega)) only [go_sem, Try.results6])
          | refine hK.call rfl rfl rfl (cR _ _ _ (by omega) (by omega)) ⟨(by intro p hp; cases hp), rfl, rfl, (by simp only [dstOk, Nat.reduceLT])⟩ ?_
          | (refine hK.fork rfl rfl rfl (fun h => ?_) (fun h => ?_) <;> (try simp (disch := (refine Om.mk ?_; omega)) only [go_sem] at h))
          | (with_reducible refine And.intro (by first | omega | (simp only [List.length_append, List.length_take, List.length_drop, List.length_cons, List.length_nil, List.length_map]; omega)) ?_)
          | ((with_reducible refine And.intro ?_ ?_); · first | (intro x hx; subst hx; rfl) | exact upR_mem fun _ _ => rfl | exact mapR_mem fun _ _ => rfl | (intro x; refine And.intro ?_ ?_ <;> (intros; subst_vars; rfl)))
          | fail
        refine sw_loopT (ι := Nat) (fun i => [(12, .int .i64 i), (9, .sl .any ((srtM (catJ cut rs (bl rs k) k f ++ (rows.take i).map ((f : Int) :: ·))).map IntsD))]) (fun _ => []) (fun _ => [69000, 66000]) (fun i => i ≤ rows.length) (fun i => rows.length - i) 0 (by (refine covers_mk0 rfl rfl ?_ ?_ ?_ ?_ <;> simp (disch := (refine Om.mk ?_; omega)) only [go_sem] <;> (try omega)); all_goals first | exact ⟨by simp, rfl⟩ | (simp; done) | trace_state) (by omega) (fun i hi => ?_)
        simp only [go_sem]
        have hcI : (srtM (catJ cut rs (bl rs k) k f ++ (rows.take i).map ((f : Int) :: ·))).length ≤ 3000 := by rw [srtM_len, List.length_append, List.length_map, List.length_take]; omega
        by_cases hil : i < rows.length
        · have hri := hrl _ (getD_memG hil)
          have hsn : srtM (catJ cut rs (bl rs k) k f ++ (rows.take (i + 1)).map ((f : Int) :: ·)) = insT (srtM (catJ cut rs (bl rs k) k f ++ (rows.take i).map ((f : Int) :: ·))) ((f : Int) :: rows.getD i default) := by
            rw [take_snocG hil, List.map_append, ← List.append_assoc, List.map_cons, List.map_nil, srtM_snoc]
          generalize srtM (catJ cut rs (bl rs k) k f ++ (rows.take i).map ((f : Int) :: ·)) = Q at hcI hsn
          repeat' first
            | ((exfalso; omega))
            | ((refine sw_goAt (id := 16) 0 kp6 7 rfl fun K hK => ?_))
            | exact Bool.noConfusion h
            | refine sw_seq ?_
            | refine sw_block ?_
            | refine sw_skip ?_
            | refine sw_inBlock ?_
            | refine sw_go 0 kp6 fun K hK => ?_
            | refine fun (K : List Oper → LS → Prop) (hK : KOk S 0 _ _ _ K) => ?_
            | ((first | refine runL_go ?_ | refine runQ_go ?_); simp (disch := (refine Om.mk ?_; omega)) only [go_sem])
            | (refine hK.nil ?_; clear hK K; simp only [go_sem])
            | (refine runG_fork rfl rfl rfl rfl rfl (fun h => ?_) (fun h => ?_) <;> (try simp (disch := (refine Om.mk ?_; omega)) only [go_sem] at h))
            | (refine hK.skip rfl (by simp only [dstOk, Nat.reduceLT]) ?_)
            | (refine sw_cond rfl (fun h => ?_) (fun h => ?_) <;> (try simp (disch := (refine Om.mk ?_; omega)) only [go_sem] at h))
            | (refine sw_exit rfl ?_)
            | (refine sw_loopEnd ?_)
            | ((first | refine sw_ret (ret0 ?_) | refine sw_ret ?_); simp (disch := (refine Om.mk ?_; omega)) only [go_sem, Try.results6])
            | (refine hK.fork rfl rfl rfl (fun h => ?_) (fun h => ?_) <;> (try simp (disch := (refine Om.mk ?_; omega)) only [go_sem] at h))
            | (with_reducible refine And.intro (by first | omega | (simp only [List.length_append, List.length_take, List.length_drop, List.length_cons, List.length_nil, List.length_map]; omega)) ?_)
            | ((with_reducible refine And.intro ?_ ?_); · first | (intro x hx; subst hx; rfl) | exact upR_mem fun _ _ => rfl | exact mapR_mem fun _ _ => rfl | (intro x; refine And.intro ?_ ?_ <;> (intros; subst_vars; rfl)))
            | fail
          refine LopsW.stepO rfl ?_
          unfold opY
          simp only [mapO]
          simp (disch := (refine Om.mk ?_; omega)) only [go_sem]
          refine ⟨by omega, by omega, LopsW.nil ?_⟩
          refine fun (K : List Oper → LS → Prop) (hK : KOk S 0 _ _ _ K) => ?_
          repeat' first
            | ((exfalso; omega))
            | exact Bool.noConfusion h
            | refine sw_seq ?_
            | refine sw_block ?_
            | refine sw_skip ?_
            | refine sw_inBlock ?_
            | refine sw_go 0 kp6 fun K hK => ?_
            | refine fun (K : List Oper → LS → Prop) (hK : KOk S 0 _ _ _ K) => ?_
            | ((first | refine runL_go ?_ | refine runQ_go ?_); simp (disch := (refine Om.mk ?_; omega)) only [go_sem])
            | (refine hK.nil ?_; clear hK K; simp only [go_sem])
            | (refine runG_fork rfl rfl rfl rfl rfl (fun h => ?_) (fun h => ?_) <;> (try simp (disch := (refine Om.mk ?_; omega)) only [go_sem] at h))
            | (refine hK.skip rfl (by simp only [dstOk, Nat.reduceLT]) ?_)
            | (refine sw_cond rfl (fun h => ?_) (fun h => ?_) <;> (try simp (disch := (refine Om.mk ?_; omega)) only [go_sem] at h))
            | (refine sw_exit rfl ?_)
            | (refine sw_loopEnd ?_)
            | ((first | refine sw_ret (ret0 ?_) | refine sw_ret ?_); simp (disch := (refine Om.mk ?_; omega)) only [go_sem, Try.results6])
            | refine hK.call rfl rfl rfl (l28Insert_fc _ _ ((f : Int) :: rows.getD i default) hcI) ⟨(by intro p hp; cases hp), rfl, rfl, (by simp only [dstOk, Nat.reduceLT])⟩ ?_
            | (refine hK.fork rfl rfl rfl (fun h => ?_) (fun h => ?_) <;> (try simp (disch := (refine Om.mk ?_; omega)) only [go_sem] at h))
            | (with_reducible refine And.intro (by first | omega | (simp only [List.length_append, List.length_take, List.length_drop, List.length_cons, List.length_nil, List.length_map]; omega)) ?_)
            | ((with_reducible refine And.intro ?_ ?_); · first | (intro x hx; subst hx; rfl) | exact upR_mem fun _ _ => rfl | exact mapR_mem fun _ _ => rfl | (intro x; refine And.intro ?_ ?_ <;> (intros; subst_vars; rfl)))
            | fail
          exact ⟨i + 1, (by (refine covers_mk0 rfl rfl ?_ ?_ ?_ ?_ <;> simp (disch := (refine Om.mk ?_; omega)) only [go_sem] <;> (try omega)); all_goals first | exact ⟨by rw [hsn], by omega⟩ | (rw [hsn]; trace_state)), by omega, by omega⟩
        · obtain rfl : i = rows.length := by omega
          rw [List.take_length, ← hcs]
          repeat' first
            | ((exfalso; omega))
            | exact Bool.noConfusion h
            | refine sw_seq ?_
            | refine sw_block ?_
            | refine sw_skip ?_
            | refine sw_inBlock ?_
            | refine sw_go 0 kp6 fun K hK => ?_
            | refine fun (K : List Oper → LS → Prop) (hK : KOk S 0 _ _ _ K) => ?_
            | ((first | refine runL_go ?_ | refine runQ_go ?_); simp (disch := (refine Om.mk ?_; omega)) only [go_sem])
            | (refine hK.nil ?_; clear hK K; simp only [go_sem])
            | (refine runG_fork rfl rfl rfl rfl rfl (fun h => ?_) (fun h => ?_) <;> (try simp (disch := (refine Om.mk ?_; omega)) only [go_sem] at h))
            | (refine hK.skip rfl (by simp only [dstOk, Nat.reduceLT]) ?_)
            | (refine sw_cond rfl (fun h => ?_) (fun h => ?_) <;> (try simp (disch := (refine Om.mk ?_; omega)) only [go_sem] at h))
            | (refine sw_exit rfl ?_)
            | (refine sw_loopEnd ?_)
            | ((first | refine sw_ret (ret0 ?_) | refine sw_ret ?_); simp (disch := (refine Om.mk ?_; omega)) only [go_sem, Try.results6])
            | (refine hK.fork rfl rfl rfl (fun h => ?_) (fun h => ?_) <;> (try simp (disch := (refine Om.mk ?_; omega)) only [go_sem] at h))
            | (with_reducible refine And.intro (by first | omega | (simp only [List.length_append, List.length_take, List.length_drop, List.length_cons, List.length_nil, List.length_map]; omega)) ?_)
            | ((with_reducible refine And.intro ?_ ?_); · first | (intro x hx; subst hx; rfl) | exact upR_mem fun _ _ => rfl | exact mapR_mem fun _ _ => rfl | (intro x; refine And.intro ?_ ?_ <;> (intros; subst_vars; rfl)))
            | fail
          exact ⟨f + 1, (by (refine covers_mk0 rfl rfl ?_ ?_ ?_ ?_ <;> simp (disch := (refine Om.mk ?_; omega)) only [go_sem] <;> (try omega))), by omega, by omega⟩
      · obtain rfl : f = rs.length := by omega
        have hst := @gr_step rs k
        have hov := @gr_over rs k m hkm
        have hb1 : bl rs (k + 1) = bl rs k ++ [srtM (catJ id rs (bl rs k) k rs.length)] := rfl
        have ha1 := allG_succ rs k
        have hcl := catC_len hs.1 (bl rs k) k (Nat.le_refl rs.length)
        rw [← srtM_len] at hcl
        generalize srtM (catJ cut rs (bl rs k) k rs.length) = Q at hst hov hcl
        have hla : (allG rs k ++ Q).length = (allG rs k).length + Q.length := List.length_append
        repeat' first
          | ((exfalso; omega))
          | ((refine ⟨(by simp), by omega, by omega, ?_⟩))
          | ((refine ⟨by simp; done, by omega, by omega, ?_⟩))
          | exact Bool.noConfusion h
          | refine sw_seq ?_
          | refine sw_block ?_
          | refine sw_skip ?_
          | refine sw_inBlock ?_
          | refine sw_go 0 kp6 fun K hK => ?_
          | refine fun (K : List Oper → LS → Prop) (hK : KOk S 0 _ _ _ K) => ?_
          | ((first | refine runL_go ?_ | refine runQ_go ?_); simp (disch := (refine Om.mk ?_; omega)) only [go_sem])
          | (refine hK.nil ?_; clear hK K; simp only [go_sem])
          | (refine runG_fork rfl rfl rfl rfl rfl (fun h => ?_) (fun h => ?_) <;> (try simp (disch := (refine Om.mk ?_; omega)) only [go_sem] at h))
          | (refine hK.skip rfl (by simp only [dstOk, Nat.reduceLT]) ?_)
          | (refine sw_cond rfl (fun h => ?_) (fun h => ?_) <;> (try simp (disch := (refine Om.mk ?_; omega)) only [go_sem] at h))
          | (refine sw_exit rfl ?_)
          | (refine sw_loopEnd ?_)
          | ((first | refine sw_ret (ret0 ?_) | refine sw_ret ?_); simp (disch := (refine Om.mk ?_; omega)) only [go_sem, Try.results6])
          | (refine hK.fork rfl rfl rfl (fun h => ?_) (fun h => ?_) <;> (try simp (disch := (refine Om.mk ?_; omega)) only [go_sem] at h))
          | (with_reducible refine And.intro (by first | omega | (simp only [List.length_append, List.length_take, List.length_drop, List.length_cons, List.length_nil, List.length_map]; omega)) ?_)
          | ((with_reducible refine And.intro ?_ ?_); · first | (intro x hx; subst hx; rfl) | exact upR_mem fun _ _ => rfl | exact mapR_mem fun _ _ => rfl | (intro x; refine And.intro ?_ ?_ <;> (intros; subst_vars; rfl)))
          | fail
        · have hn := hov (by omega)
          rw [grR_no hn]
          first | exact ⟨rfl, hn⟩ | trace_state
        · have e := hst (by omega)
          exact ⟨k + 1, (by (refine covers_mk0 rfl rfl ?_ ?_ ?_ ?_ <;> simp (disch := (refine Om.mk ?_; omega)) only [go_sem] <;> (try omega)); rw [hb1, ha1, ← e]; all_goals first | (simp [LevD]; done) | trace_state), ⟨by omega, by rw [ha1, ← e, List.length_append]; omega⟩, by omega⟩
    · obtain rfl : k = m := by omega
      repeat' first
        | ((exfalso; omega))
        | exact Bool.noConfusion h
        | refine sw_seq ?_
        | refine sw_block ?_
        | refine sw_skip ?_
        | refine sw_inBlock ?_
        | refine sw_go 0 kp6 fun K hK => ?_
        | refine fun (K : List Oper → LS → Prop) (hK : KOk S 0 _ _ _ K) => ?_
        | ((first | refine runL_go ?_ | refine runQ_go ?_); simp (disch := (refine Om.mk ?_; omega)) only [go_sem])
        | (refine hK.nil ?_; clear hK K; simp only [go_sem])
        | (refine runG_fork rfl rfl rfl rfl rfl (fun h => ?_) (fun h => ?_) <;> (try simp (disch := (refine Om.mk ?_; omega)) only [go_sem] at h))
        | (refine hK.skip rfl (by simp only [dstOk, Nat.reduceLT]) ?_)
        | (refine sw_cond rfl (fun h => ?_) (fun h => ?_) <;> (try simp (disch := (refine Om.mk ?_; omega)) only [go_sem] at h))
        | (refine sw_exit rfl ?_)
        | (refine sw_loopEnd ?_)
        | ((first | refine sw_ret (ret0 ?_) | refine sw_ret ?_); simp (disch := (refine Om.mk ?_; omega)) only [go_sem, Try.results6])
        | (refine hK.fork rfl rfl rfl (fun h => ?_) (fun h => ?_) <;> (try simp (disch := (refine Om.mk ?_; omega)) only [go_sem] at h))
        | (with_reducible refine And.intro (by first | omega | (simp only [List.length_append, List.length_take, List.length_drop, List.length_cons, List.length_nil, List.length_map]; omega)) ?_)
        | ((with_reducible refine And.intro ?_ ?_); · first | (intro x hx; subst hx; rfl) | exact upR_mem fun _ _ => rfl | exact mapR_mem fun _ _ => rfl | (intro x; refine And.intro ?_ ?_ <;> (intros; subst_vars; rfl)))
        | fail
      rw [grR_yes ⟨hs.1, hs.2, by rw [Int.toNat_natCast]; exact hal⟩, Int.toNat_natCast]
      exact ⟨rfl, hs.1, hs.2, by rw [Int.toNat_natCast]; exact hal⟩
  · rw [grR_no (fun h => hs ⟨h.1, h.2.1⟩), tst_false (fun h : GrP rs n => hs ⟨h.1, h.2.1⟩)]
    skip
    refine fc_body Try.func6 rfl (by kernel_rfl) (by simp [Try.f6]) fun B => ?_
    simp only [Try.ntmps6, enumD, List.map_nil, List.map_cons, List.length_map, Nat.zero_add, Nat.reduceAdd]
    repeat' first
      | exact Bool.noConfusion h
      | refine sw_seq ?_
      | refine sw_block ?_
      | refine sw_skip ?_
      | refine sw_inBlock ?_
      | refine sw_go 0 kp6 fun K hK => ?_
      | refine fun (K : List Oper → LS → Prop) (hK : KOk S 0 _ _ _ K) => ?_
      | ((first | refine runL_go ?_ | refine runQ_go ?_); simp (disch := (refine Om.mk ?_; omega)) only [go_sem])
      | (refine hK.nil ?_; clear hK K; simp only [go_sem])
      | (refine runG_fork rfl rfl rfl rfl rfl (fun h => ?_) (fun h => ?_) <;> (try simp (disch := (refine Om.mk ?_; omega)) only [go_sem] at h))
      | (refine hK.skip rfl (by simp only [dstOk, Nat.reduceLT]) ?_)
      | (refine sw_cond rfl (fun h => ?_) (fun h => ?_) <;> (try simp (disch := (refine Om.mk ?_; omega)) only [go_sem] at h))
      | (refine sw_exit rfl ?_)
      | (refine sw_loopEnd ?_)
      | ((first | refine sw_ret (ret0 ?_) | refine sw_ret ?_); simp (disch := (refine Om.mk ?_; omega)) only [go_sem, Try.results6])
      | refine hK.call rfl rfl rfl (specSigOk_fc _ _) ⟨(by intro p hp; cases hp), rfl, rfl, (by simp only [dstOk, Nat.reduceLT])⟩ ?_
      | refine hK.call rfl rfl rfl (l1In_fc _ _ _) ⟨(by intro p hp; cases hp), rfl, rfl, (by simp only [dstOk, Nat.reduceLT])⟩ ?_
      | (refine hK.fork rfl rfl rfl (fun h => ?_) (fun h => ?_) <;> (try simp (disch := (refine Om.mk ?_; omega)) only [go_sem] at h))
      | (with_reducible refine And.intro (by first | omega | (simp only [List.length_append, List.length_take, List.length_drop, List.length_cons, List.length_nil, List.length_map]; omega)) ?_)
      | ((with_reducible refine And.intro ?_ ?_); · first | (intro x hx; subst hx; rfl) | exact upR_mem fun _ _ => rfl | exact mapR_mem fun _ _ => rfl | (intro x; refine And.intro ?_ ?_ <;> (intros; subst_vars; rfl)))
      | fail
    all_goals first | exact absurd ⟨by assumption, by omega⟩ hs | trace_state
end Go.Proofs.Ytldlochhiiogbaa
