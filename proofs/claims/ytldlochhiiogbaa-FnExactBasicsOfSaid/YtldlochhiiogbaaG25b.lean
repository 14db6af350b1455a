/-
  Basic ground terms: both sides.
-/
import Derived.Test.YtldlochhiiogbaaG25j
import Derived.Test.YtldlochhiiogbaaA06s
import Derived.Test.YtldlochhiiogbaaA06f
namespace Go.Proofs.Ytldlochhiiogbaa
open Go Go.Lg
set_option linter.unusedSimpArgs false
set_option linter.unusedVariables false
set_option maxHeartbeats 4000000
attribute [local irreducible] SW runL runQ runG runQG FC Ret1 toF redoL
attribute [local irreducible] allG grR
def Df (x : SystemT) (f : Int) : Prop := ∃ r ∈ x.rules, r.l.getD 0 default = f
theorem df_mem {x : SystemT} {f : Int} : f ∈ defL x.rules x.rules.length ↔ Df x f := defL_all x.rules f
def BasP (x : SystemT) (t : List Int) : Prop := Df x (t.getD 0 default) ∧ ∀ j < t.length, 1 ≤ j → ¬ Df x (t.getD j default)
noncomputable def basJ (x : SystemT) (A : Tms) (i : Nat) : List Nat := (List.range i).filter fun j => tst (BasP x (A.getD j default))
noncomputable def basT (x : SystemT) (A : Tms) (i : Nat) : Tms := (basJ x A i).map fun j => A.getD j default
theorem basJ_yes {x : SystemT} {A : Tms} {i : Nat} (h : BasP x (A.getD i default)) : basJ x A (i + 1) = basJ x A i ++ [i] := by
  unfold basJ
  rw [List.range_succ, List.filter_append, List.filter_cons_of_pos (by rw [tst_true h])]; rfl
theorem basJ_no {x : SystemT} {A : Tms} {i : Nat} (h : ¬ BasP x (A.getD i default)) : basJ x A (i + 1) = basJ x A i := by
  unfold basJ
  rw [List.range_succ, List.filter_append, List.filter_cons_of_neg (by rw [tst_false h]; simp), List.filter_nil, List.append_nil]
theorem basT_yes {x : SystemT} {A : Tms} {i : Nat} (h : BasP x (A.getD i default)) : basT x A (i + 1) = basT x A i ++ [A.getD i default] := by
  unfold basT; rw [basJ_yes h, List.map_append]; rfl
theorem basT_no {x : SystemT} {A : Tms} {i : Nat} (h : ¬ BasP x (A.getD i default)) : basT x A (i + 1) = basT x A i := by
  unfold basT; rw [basJ_no h]
theorem basT_zero (x : SystemT) (A : Tms) : basT x A 0 = [] := rfl
theorem basT_len (x : SystemT) (A : Tms) (i : Nat) : (basT x A i).length ≤ i := by
  unfold basT basJ
  rw [List.length_map]
  exact Nat.le_trans (List.length_filter_le _ _) (by simp)
/-- .. under the labels that the program's list has -/
noncomputable def basQ (N : Nat) (x : SystemT) (A : Tms) (i : Nat) : List (Tk × List Int) := (basJ x A i).map fun j => (.lab [N, j, 0], A.getD j default)
theorem basQ_yes {N : Nat} {x : SystemT} {A : Tms} {i : Nat} (h : BasP x (A.getD i default)) : basQ N x A (i + 1) = basQ N x A i ++ [(.lab [N, i, 0], A.getD i default)] := by
  unfold basQ; rw [basJ_yes h, List.map_append]; rfl
theorem basQ_no {N : Nat} {x : SystemT} {A : Tms} {i : Nat} (h : ¬ BasP x (A.getD i default)) : basQ N x A (i + 1) = basQ N x A i := by
  unfold basQ; rw [basJ_no h]
theorem basQ_snd (N : Nat) (x : SystemT) (A : Tms) (i : Nat) : (basQ N x A i).map (·.2) = basT x A i := by
  unfold basQ basT; rw [List.map_map]; rfl
theorem basQ_nodup (N : Nat) (x : SystemT) (A : Tms) (i : Nat) : ((basQ N x A i).map fun q => labOf q.1).Nodup := by
  unfold basQ basJ
  rw [List.map_map]
  refine List.Pairwise.map _ (fun a b hab e => hab ?_) (List.nodup_range.filter _)
  have e : [N, a, 0] = [N, b, 0] := e
  simpa using e
theorem basQ_lab (N : Nat) (x : SystemT) (A : Tms) (i : Nat) : ∀ q ∈ basQ N x A i, ∃ l, q.1 = .lab l ∧ l.head? = some N := fun q hq => by
  unfold basQ at hq
  obtain ⟨j, _, rfl⟩ := List.mem_map.1 hq
  exact ⟨_, rfl, rfl⟩
theorem basQ_len (N : Nat) (x : SystemT) (A : Tms) (i : Nat) : (basQ N x A i).length ≤ i := by
  have h := basT_len x A i
  rw [← basQ_snd N, List.length_map] at h
  exact h
theorem relab_gen {N : Nat} {p : List Nat} {qs : List (Tk × List Int)} (hnd : (qs.map fun q => labOf q.1).Nodup) (hlab : ∀ q ∈ qs, ∃ l, q.1 = .lab l ∧ l.head? = some N) :
    D.rlL (relF N p (qs.map fun q => labOf q.1)) (qs.map intsT) = mapR (fun i y => Int64SL (p ++ [i] ++ [0]) y) (qs.map (·.2)) := by
  rw [rlL_map, List.map_map]
  refine List.ext_getElem (by rw [List.length_map, mapR_length, List.length_map]) fun j h1 h2 => ?_
  have hj : j < qs.length := by simpa using h1
  obtain ⟨l, hl, hN⟩ := hlab _ (List.getElem_mem hj)
  have hpos := posOf_at _ hnd j (by simpa using hj)
  simp only [List.getElem_map] at hpos
  have e1 : labOf qs[j].1 = l := by rw [hl]; rfl
  rw [e1] at hpos
  have e2 : intsT qs[j] = .sl (.lab l) (qs[j].2.map (.int .i64)) := by
    unfold intsT; rw [hl]
  have e3 : relF N p (qs.map fun q => labOf q.1) l = p ++ [j] ++ [0] := by
    unfold relF; rw [if_pos hN, hpos]
  rw [List.getElem_map]
  show D.rl _ (intsT qs[j]) = _
  rw [e2]
  show D.sl (.lab (relF N p (qs.map fun q => labOf q.1) l)) (D.rlL _ _) = _
  rw [rlL_ints, e3]
  simp [mapR, Int64SL, List.getElem?_eq_getElem hj]
attribute [local irreducible] basT basJ basQ
open Classical in
noncomputable def basR (x : SystemT) (n : Int) : Tms := if SystemOkP x ∧ GrP x.sig n then basT x (grR x.sig n) (grR x.sig n).length else []
theorem basR_yes {x : SystemT} {n : Int} (h : SystemOkP x ∧ GrP x.sig n) : basR x n = basT x (grR x.sig n) (grR x.sig n).length := if_pos h
theorem basR_no {x : SystemT} {n : Int} (h : ¬ (SystemOkP x ∧ GrP x.sig n)) : basR x n = [] := if_neg h
theorem allG_pos (rs : List Int) (n : Nat) : ∀ t ∈ allG rs n, 1 ≤ t.length := fun t h => by
  unfold allG at h
  simp only [List.mem_flatten] at h
  obtain ⟨l, hl, ht⟩ := h
  obtain ⟨k, hk, e⟩ := List.getElem_of_mem hl
  have h2 := bl_term rs n k t (by simp only [lv, List.getD_eq_getElem?_getD, List.getElem?_eq_getElem hk, Option.getD_some, e]; exact ht)
  cases k with
  | zero =>
    exfalso
    have h0 : lv (bl rs n) 0 = [] := by
      clear hk hl e ht h2
      induction n with
      | zero => rfl
      | succ n ih =>
        have : lv (bl rs (n + 1)) 0 = lv (bl rs n) 0 := by
          simp only [lv, bl, List.getD_eq_getElem?_getD]
          rw [List.getElem?_append_left (by rw [bl_len]; omega)]
        rw [this]; exact ih
    have : l = [] := by
      rw [← e]
      simpa [lv, List.getD_eq_getElem?_getD, hk] using h0
    rw [this] at ht; cases ht
  | succ k => omega
theorem grR_len {rs : List Int} {n : Int} : (grR rs n).length ≤ 200 ∧ ∀ t ∈ grR rs n, 1 ≤ t.length ∧ t.length ≤ 60 := by
  rcases Classical.em (GrP rs n) with h | h
  · rw [grR_yes h]
    exact ⟨h.2.2, fun t ht => ⟨allG_pos rs _ t ht, by have := allG_len rs _ t ht; have := h.2.1; omega⟩⟩
  · rw [grR_no h]; exact ⟨by simp, fun t ht => by cases ht⟩
def kp15 : List (Nat × List Nat) := [(0, [1, 2]), (1, [1, 2, 6]), (2, [2, 6, 7, 8]), (3, [2, 6, 7, 27]), (4, [4, 5]), (5, [6, 7, 9]), (6, [6, 7, 9, 10]), (7, [6, 7, 9, 10, 34]), (9, [6, 7, 9, 10, 11]), (10, [6, 7, 9, 10, 11, 12]), (11, [6, 7, 9, 10, 11, 12, 51]), (13, [6, 7, 9, 10, 11, 12]), (12, [6, 7, 9, 10, 11, 12]), (14, [6, 7, 9, 10, 67]), (15, [6, 7, 9, 10]), (8, [6, 7, 9, 10]), (16, [4, 5])]
attribute [go_sem] kp15
theorem specBasicsOf_fc (x : SystemT) (n : Int) : FC S 15 [] [] [] [SystemD x, .int .i64 n] (.tup [.sl .any ((basR x n).map IntsD), .bool (tst (SystemOkP x ∧ GrP x.sig n))]) [] [] := by
  have cG := specGroundsOf_fc x.sig n
  by_cases hs : SystemOkP x ∧ GrP x.sig n
  · have h0 : ∀ j < x.rules.length, 1 ≤ (x.rules.getD j default).l.length := fun j hj => (hs.1.2 j hj).1.1.2.1.1
    have h12 := hs.1.1.2
    have hgl := @grR_len x.sig n
    rw [basR_yes hs]
    generalize grR x.sig n = A at cG hgl
    skip
    refine fc_body Try.func15 rfl (by kernel_rfl) (by simp [Try.f15]) fun B => ?_
    simp only [Try.ntmps15, enumD, List.map_nil, List.map_cons, List.length_map, Nat.zero_add, Nat.reduceAdd]
    repeat' first
      | ((exfalso; exact absurd hs.1 (by assumption)))
      | ((exfalso; exact absurd hs.2 (by assumption)))
      | exact Bool.noConfusion h
      | refine sw_seq ?_
      | refine sw_block ?_
      | refine sw_skip ?_
      | refine sw_inBlock ?_
      | refine sw_go 0 kp15 fun K hK => ?_
      | refine fun (K : List Oper → LS → Prop) (hK : KOk S 0 _ _ _ K) => ?_
      | ((first | refine runL_go ?_ | refine runQ_go ?_); simp (disch := (refine Om.mk ?_; omega)) only [go_sem])
      | (refine hK.nil ?_; clear hK K; simp only [go_sem])
      | (refine runG_fork rfl rfl rfl rfl rfl (fun h => ?_) (fun h => ?_) <;> (try simp (disch := (refine Om.mk ?_; omega)) only [go_sem] at h))
      | (refine hK.skip rfl (by simp only [dstOk, Nat.reduceLT]) ?_)
      | (refine sw_cond rfl (fun h => ?_) (fun h => ?_) <;> (try simp (disch := (refine Om.mk ?_; omega)) only [go_sem] at h))
      | (refine sw_exit rfl ?_)
      | (refine sw_loopEnd ?_)
      | ((first | refine sw_ret (ret0 ?_) | refine sw_ret ?_); simp (disch := (refine Om.mk ?_; omega)) only [go_sem, Try.results15])
      | refine hK.call rfl rfl rfl (cG) ⟨(by intro p hp; cases hp), rfl, rfl, (by simp only [dstOk, Nat.reduceLT])⟩ ?_
      | refine hK.call rfl rfl rfl (specSystemOk_fc x) ⟨(by intro p hp; cases hp), rfl, rfl, (by simp only [dstOk, Nat.reduceLT])⟩ ?_
      | refine hK.call rfl rfl rfl (l6Defined_fc x (by omega) h0) ⟨(by intro p hp; cases hp), rfl, rfl, (by simp only [dstOk, Nat.reduceLT])⟩ ?_
      | (refine hK.fork rfl rfl rfl (fun h => ?_) (fun h => ?_) <;> (try simp (disch := (refine Om.mk ?_; omega)) only [go_sem] at h))
      | (with_reducible refine And.intro (by first | omega | (simp only [List.length_append, List.length_take, List.length_drop, List.length_cons, List.length_nil, List.length_map]; omega)) ?_)
      | ((with_reducible refine And.intro ?_ ?_); · first | (intro x hx; subst hx; rfl) | exact upR_mem fun _ _ => rfl | exact mapR_mem fun _ _ => rfl | (intro x; refine And.intro ?_ ?_ <;> (intros; subst_vars; rfl)))
      | fail
    all_goals try exact absurd hs.1 (by assumption)
    all_goals try exact absurd hs.2 (by assumption)
    refine sw_tok 6 75000 22 1 rfl (.inr rfl) rfl ?_
    simp only [go_sem]
    refine sw_loopT (ι := Nat) (fun i => [(10, .int .i64 i), (6, .sl (.own 75000 22 1) ((basT x A i).map IntsD))]) (fun _ => []) (fun _ => [75000]) (fun i => i ≤ A.length) (fun i => A.length - i) 0 (by (refine covers_mk0 rfl rfl ?_ ?_ ?_ ?_ <;> simp (disch := (refine Om.mk ?_; omega)) only [go_sem] <;> (try omega)); all_goals first | (simp [basT_zero]; done) | trace_state) (by omega) (fun i hi => ?_)
    simp only [go_sem]
    have hbl := basT_len x A i
    by_cases hil : i < A.length
    · have htl := hgl.2 _ (getD_memG hil)
      have hy := @basT_yes x A i
      have hno := @basT_no x A i
      repeat' first
        | ((exfalso; omega))
        | exact Bool.noConfusion h
        | refine sw_seq ?_
        | refine sw_block ?_
        | refine sw_skip ?_
        | refine sw_inBlock ?_
        | refine sw_go 0 kp15 fun K hK => ?_
        | refine fun (K : List Oper → LS → Prop) (hK : KOk S 0 _ _ _ K) => ?_
        | ((first | refine runL_go ?_ | refine runQ_go ?_); simp (disch := (refine Om.mk ?_; omega)) only [go_sem])
        | (refine hK.nil ?_; clear hK K; simp only [go_sem])
        | (refine runG_fork rfl rfl rfl rfl rfl (fun h => ?_) (fun h => ?_) <;> (try simp (disch := (refine Om.mk ?_; omega)) only [go_sem] at h))
        | (refine hK.skip rfl (by simp only [dstOk, Nat.reduceLT]) ?_)
        | (refine sw_cond rfl (fun h => ?_) (fun h => ?_) <;> (try simp (disch := (refine Om.mk ?_; omega)) only [go_sem] at h))
        | (refine sw_exit rfl ?_)
        | (refine sw_loopEnd ?_)
        | ((first | refine sw_ret (ret0 ?_) | refine sw_ret ?_); simp (disch := (refine Om.mk ?_; omega)) only [go_sem, Try.results15])
        | refine hK.call rfl rfl rfl (l1Has_fc _ _ _) ⟨(by intro p hp; cases hp), rfl, rfl, (by simp only [dstOk, Nat.reduceLT])⟩ ?_
        | (refine hK.fork rfl rfl rfl (fun h => ?_) (fun h => ?_) <;> (try simp (disch := (refine Om.mk ?_; omega)) only [go_sem] at h))
        | (with_reducible refine And.intro (by first | omega | (simp only [List.length_append, List.length_take, List.length_drop, List.length_cons, List.length_nil, List.length_map]; omega)) ?_)
        | ((with_reducible refine And.intro ?_ ?_); · first | (intro x hx; subst hx; rfl) | exact upR_mem fun _ _ => rfl | exact mapR_mem fun _ _ => rfl | (intro x; refine And.intro ?_ ?_ <;> (intros; subst_vars; rfl)))
        | fail
      refine sw_loopT (ι := Nat) (fun k => [(12, .int .i64 (k + 1)), (11, .bool (tst (Df x ((A.getD i default).getD 0 default) ∧ ∀ j < k + 1, 1 ≤ j → ¬ Df x ((A.getD i default).getD j default))))]) (fun _ => []) (fun _ => [75000]) (fun k => k + 1 ≤ (A.getD i default).length) (fun k => (A.getD i default).length - k) 0 (by (refine covers_mk0 rfl rfl ?_ ?_ ?_ ?_ <;> simp (disch := (refine Om.mk ?_; omega)) only [go_sem] <;> (try omega)); all_goals first | exact ⟨⟨fun h => ⟨df_mem.1 h, fun j h1 h2 => by omega⟩, fun h => df_mem.2 h.1⟩, rfl⟩ | trace_state) (by omega) (fun k hk => ?_)
      simp only [go_sem]
      by_cases hkl : k + 1 < (A.getD i default).length
      · by_cases hp : Df x ((A.getD i default).getD 0 default) ∧ ∀ j < k + 1, 1 ≤ j → ¬ Df x ((A.getD i default).getD j default)
        · have hval : (!tst ((A.getD i default).getD (k + 1) default ∈ defL x.rules x.rules.length)) = tst (Df x ((A.getD i default).getD 0 default) ∧ ∀ j < k + 1 + 1, 1 ≤ j → ¬ Df x ((A.getD i default).getD j default)) := by
            rcases Classical.em (Df x ((A.getD i default).getD (k + 1) default)) with h | h
            · rw [tst_true (df_mem.2 h), tst_false (fun h2 => h2.2 (k + 1) (by omega) (by omega) h)]; rfl
            · rw [tst_false (fun h2 => h (df_mem.1 h2)), tst_true ⟨hp.1, fun j h1 h2 => by
                by_cases e : j = k + 1
                · rw [e]; exact h
                · exact hp.2 j (by omega) h2⟩]
              rfl
          rw [tst_true hp]
          repeat' first
            | ((exfalso; omega))
            | exact Bool.noConfusion h
            | refine sw_seq ?_
            | refine sw_block ?_
            | refine sw_skip ?_
            | refine sw_inBlock ?_
            | refine sw_go 0 kp15 fun K hK => ?_
            | refine fun (K : List Oper → LS → Prop) (hK : KOk S 0 _ _ _ K) => ?_
            | ((first | refine runL_go ?_ | refine runQ_go ?_); simp (disch := (refine Om.mk ?_; omega)) only [go_sem])
            | (refine hK.nil ?_; clear hK K; simp only [go_sem])
            | (refine runG_fork rfl rfl rfl rfl rfl (fun h => ?_) (fun h => ?_) <;> (try simp (disch := (refine Om.mk ?_; omega)) only [go_sem] at h))
            | (refine hK.skip rfl (by simp only [dstOk, Nat.reduceLT]) ?_)
            | (refine sw_cond rfl (fun h => ?_) (fun h => ?_) <;> (try simp (disch := (refine Om.mk ?_; omega)) only [go_sem] at h))
            | (refine sw_exit rfl ?_)
            | (refine sw_loopEnd ?_)
            | ((first | refine sw_ret (ret0 ?_) | refine sw_ret ?_); simp (disch := (refine Om.mk ?_; omega)) only [go_sem, Try.results15])
            | refine hK.call rfl rfl rfl (l1Has_fc _ _ _) ⟨(by intro p hp; cases hp), rfl, rfl, (by simp only [dstOk, Nat.reduceLT])⟩ ?_
            | (refine hK.fork rfl rfl rfl (fun h => ?_) (fun h => ?_) <;> (try simp (disch := (refine Om.mk ?_; omega)) only [go_sem] at h))
            | (with_reducible refine And.intro (by first | omega | (simp only [List.length_append, List.length_take, List.length_drop, List.length_cons, List.length_nil, List.length_map]; omega)) ?_)
            | ((with_reducible refine And.intro ?_ ?_); · first | (intro x hx; subst hx; rfl) | exact upR_mem fun _ _ => rfl | exact mapR_mem fun _ _ => rfl | (intro x; refine And.intro ?_ ?_ <;> (intros; subst_vars; rfl)))
            | fail
          exact ⟨k + 1, (by rw [← hval]; (refine covers_mk0 rfl rfl ?_ ?_ ?_ ?_ <;> simp (disch := (refine Om.mk ?_; omega)) only [go_sem] <;> (try omega))), by omega, by omega⟩
        · rw [tst_false hp]
          repeat' first
            | ((exfalso; omega))
            | exact Bool.noConfusion h
            | refine sw_seq ?_
            | refine sw_block ?_
            | refine sw_skip ?_
            | refine sw_inBlock ?_
            | refine sw_go 0 kp15 fun K hK => ?_
            | refine fun (K : List Oper → LS → Prop) (hK : KOk S 0 _ _ _ K) => ?_
            | ((first | refine runL_go ?_ | refine runQ_go ?_); simp (disch := (refine Om.mk ?_; omega)) only [go_sem])
            | (refine hK.nil ?_; clear hK K; simp only [go_sem])
            | (refine runG_fork rfl rfl rfl rfl rfl (fun h => ?_) (fun h => ?_) <;> (try simp (disch := (refine Om.mk ?_; omega)) only [go_sem] at h))
            | (refine hK.skip rfl (by simp only [dstOk, Nat.reduceLT]) ?_)
            | (refine sw_cond rfl (fun h => ?_) (fun h => ?_) <;> (try simp (disch := (refine Om.mk ?_; omega)) only [go_sem] at h))
            | (refine sw_exit rfl ?_)
            | (refine sw_loopEnd ?_)
            | ((first | refine sw_ret (ret0 ?_) | refine sw_ret ?_); simp (disch := (refine Om.mk ?_; omega)) only [go_sem, Try.results15])
            | refine hK.call rfl rfl rfl (l1Has_fc _ _ _) ⟨(by intro p hp; cases hp), rfl, rfl, (by simp only [dstOk, Nat.reduceLT])⟩ ?_
            | (refine hK.fork rfl rfl rfl (fun h => ?_) (fun h => ?_) <;> (try simp (disch := (refine Om.mk ?_; omega)) only [go_sem] at h))
            | (with_reducible refine And.intro (by first | omega | (simp only [List.length_append, List.length_take, List.length_drop, List.length_cons, List.length_nil, List.length_map]; omega)) ?_)
            | ((with_reducible refine And.intro ?_ ?_); · first | (intro x hx; subst hx; rfl) | exact upR_mem fun _ _ => rfl | exact mapR_mem fun _ _ => rfl | (intro x; refine And.intro ?_ ?_ <;> (intros; subst_vars; rfl)))
            | fail
          exact ⟨k + 1, (by rw [tst_false (fun h => hp ⟨h.1, fun j h1 h2 => h.2 j (by omega) h2⟩)]; (refine covers_mk0 rfl rfl ?_ ?_ ?_ ?_ <;> simp (disch := (refine Om.mk ?_; omega)) only [go_sem] <;> (try omega))), by omega, by omega⟩
      · by_cases hp : Df x ((A.getD i default).getD 0 default) ∧ ∀ j < k + 1, 1 ≤ j → ¬ Df x ((A.getD i default).getD j default)
        · rw [tst_true hp]
          repeat' first
            | ((exfalso; omega))
            | exact Bool.noConfusion h
            | refine sw_seq ?_
            | refine sw_block ?_
            | refine sw_skip ?_
            | refine sw_inBlock ?_
            | refine sw_go 0 kp15 fun K hK => ?_
            | refine fun (K : List Oper → LS → Prop) (hK : KOk S 0 _ _ _ K) => ?_
            | ((first | refine runL_go ?_ | refine runQ_go ?_); simp (disch := (refine Om.mk ?_; omega)) only [go_sem])
            | (refine hK.nil ?_; clear hK K; simp only [go_sem])
            | (refine runG_fork rfl rfl rfl rfl rfl (fun h => ?_) (fun h => ?_) <;> (try simp (disch := (refine Om.mk ?_; omega)) only [go_sem] at h))
            | (refine hK.skip rfl (by simp only [dstOk, Nat.reduceLT]) ?_)
            | (refine sw_cond rfl (fun h => ?_) (fun h => ?_) <;> (try simp (disch := (refine Om.mk ?_; omega)) only [go_sem] at h))
            | (refine sw_exit rfl ?_)
            | (refine sw_loopEnd ?_)
            | ((first | refine sw_ret (ret0 ?_) | refine sw_ret ?_); simp (disch := (refine Om.mk ?_; omega)) only [go_sem, Try.results15])
            | (refine hK.fork rfl rfl rfl (fun h => ?_) (fun h => ?_) <;> (try simp (disch := (refine Om.mk ?_; omega)) only [go_sem] at h))
            | (with_reducible refine And.intro (by first | omega | (simp only [List.length_append, List.length_take, List.length_drop, List.length_cons, List.length_nil, List.length_map]; omega)) ?_)
            | ((with_reducible refine And.intro ?_ ?_); · first | (intro x hx; subst hx; rfl) | exact upR_mem fun _ _ => rfl | exact mapR_mem fun _ _ => rfl | (intro x; refine And.intro ?_ ?_ <;> (intros; subst_vars; rfl)))
            | fail
          exact ⟨i + 1, (by rw [hy ⟨hp.1, fun j h1 h2 => hp.2 j (by omega) h2⟩, List.map_append]; (refine covers_mk0 rfl rfl ?_ ?_ ?_ ?_ <;> simp (disch := (refine Om.mk ?_; omega)) only [go_sem] <;> (try omega)); all_goals first | exact rfl | (simp [IntsD]; done) | trace_state), by omega, by omega⟩
        · rw [tst_false hp]
          repeat' first
            | ((exfalso; omega))
            | exact Bool.noConfusion h
            | refine sw_seq ?_
            | refine sw_block ?_
            | refine sw_skip ?_
            | refine sw_inBlock ?_
            | refine sw_go 0 kp15 fun K hK => ?_
            | refine fun (K : List Oper → LS → Prop) (hK : KOk S 0 _ _ _ K) => ?_
            | ((first | refine runL_go ?_ | refine runQ_go ?_); simp (disch := (refine Om.mk ?_; omega)) only [go_sem])
            | (refine hK.nil ?_; clear hK K; simp only [go_sem])
            | (refine runG_fork rfl rfl rfl rfl rfl (fun h => ?_) (fun h => ?_) <;> (try simp (disch := (refine Om.mk ?_; omega)) only [go_sem] at h))
            | (refine hK.skip rfl (by simp only [dstOk, Nat.reduceLT]) ?_)
            | (refine sw_cond rfl (fun h => ?_) (fun h => ?_) <;> (try simp (disch := (refine Om.mk ?_; omega)) only [go_sem] at h))
            | (refine sw_exit rfl ?_)
            | (refine sw_loopEnd ?_)
            | ((first | refine sw_ret (ret0 ?_) | refine sw_ret ?_); simp (disch := (refine Om.mk ?_; omega)) only [go_sem, Try.results15])
            | (refine hK.fork rfl rfl rfl (fun h => ?_) (fun h => ?_) <;> (try simp (disch := (refine Om.mk ?_; omega)) only [go_sem] at h))
            | (with_reducible refine And.intro (by first | omega | (simp only [List.length_append, List.length_take, List.length_drop, List.length_cons, List.length_nil, List.length_map]; omega)) ?_)
            | ((with_reducible refine And.intro ?_ ?_); · first | (intro x hx; subst hx; rfl) | exact upR_mem fun _ _ => rfl | exact mapR_mem fun _ _ => rfl | (intro x; refine And.intro ?_ ?_ <;> (intros; subst_vars; rfl)))
            | fail
          exact ⟨i + 1, (by rw [hno (fun h => hp ⟨h.1, fun j h1 h2 => h.2 j (by omega) h2⟩)]; (refine covers_mk0 rfl rfl ?_ ?_ ?_ ?_ <;> simp (disch := (refine Om.mk ?_; omega)) only [go_sem] <;> (try omega))), by omega, by omega⟩
    · obtain rfl : i = A.length := by omega
      repeat' first
        | ((exfalso; omega))
        | exact Bool.noConfusion h
        | refine sw_seq ?_
        | refine sw_block ?_
        | refine sw_skip ?_
        | refine sw_inBlock ?_
        | refine sw_go 0 kp15 fun K hK => ?_
        | refine fun (K : List Oper → LS → Prop) (hK : KOk S 0 _ _ _ K) => ?_
        | ((first | refine runL_go ?_ | refine runQ_go ?_); simp (disch := (refine Om.mk ?_; omega)) only [go_sem])
        | (refine hK.nil ?_; clear hK K; simp only [go_sem])
        | (refine runG_fork rfl rfl rfl rfl rfl (fun h => ?_) (fun h => ?_) <;> (try simp (disch := (refine Om.mk ?_; omega)) only [go_sem] at h))
        | (refine hK.skip rfl (by simp only [dstOk, Nat.reduceLT]) ?_)
        | (refine sw_cond rfl (fun h => ?_) (fun h => ?_) <;> (try simp (disch := (refine Om.mk ?_; omega)) only [go_sem] at h))
        | (refine sw_exit rfl ?_)
        | (refine sw_loopEnd ?_)
        | ((first | refine sw_ret (ret0 ?_) | refine sw_ret ?_); simp (disch := (refine Om.mk ?_; omega)) only [go_sem, Try.results15])
        | (refine hK.fork rfl rfl rfl (fun h => ?_) (fun h => ?_) <;> (try simp (disch := (refine Om.mk ?_; omega)) only [go_sem] at h))
        | (with_reducible refine And.intro (by first | omega | (simp only [List.length_append, List.length_take, List.length_drop, List.length_cons, List.length_nil, List.length_map]; omega)) ?_)
        | ((with_reducible refine And.intro ?_ ?_); · first | (intro x hx; subst hx; rfl) | exact upR_mem fun _ _ => rfl | exact mapR_mem fun _ _ => rfl | (intro x; refine And.intro ?_ ?_ <;> (intros; subst_vars; rfl)))
        | fail
      all_goals first | exact hs | exact hs.2 | trace_state
  · rw [basR_no hs]
    skip
    refine fc_body Try.func15 rfl (by kernel_rfl) (by simp [Try.f15]) fun B => ?_
    simp only [Try.ntmps15, enumD, List.map_nil, List.map_cons, List.length_map, Nat.zero_add, Nat.reduceAdd]
    repeat' first
      | ((exfalso; exact hs ⟨by assumption, by assumption⟩))
      | exact Bool.noConfusion h
      | refine sw_seq ?_
      | refine sw_block ?_
      | refine sw_skip ?_
      | refine sw_inBlock ?_
      | refine sw_go 0 kp15 fun K hK => ?_
      | refine fun (K : List Oper → LS → Prop) (hK : KOk S 0 _ _ _ K) => ?_
      | ((first | refine runL_go ?_ | refine runQ_go ?_); simp (disch := (refine Om.mk ?_; omega)) only [go_sem])
      | (refine hK.nil ?_; clear hK K; simp only [go_sem])
      | (refine runG_fork rfl rfl rfl rfl rfl (fun h => ?_) (fun h => ?_) <;> (try simp (disch := (refine Om.mk ?_; omega)) only [go_sem] at h))
      | (refine hK.skip rfl (by simp only [dstOk, Nat.reduceLT]) ?_)
      | (refine sw_cond rfl (fun h => ?_) (fun h => ?_) <;> (try simp (disch := (refine Om.mk ?_; omega)) only [go_sem] at h))
      | (refine sw_exit rfl ?_)
      | (refine sw_loopEnd ?_)
      | ((first | refine sw_ret (ret0 ?_) | refine sw_ret ?_); simp (disch := (refine Om.mk ?_; omega)) only [go_sem, Try.results15])
      | refine hK.call rfl rfl rfl (cG) ⟨(by intro p hp; cases hp), rfl, rfl, (by simp only [dstOk, Nat.reduceLT])⟩ ?_
      | refine hK.call rfl rfl rfl (specSystemOk_fc x) ⟨(by intro p hp; cases hp), rfl, rfl, (by simp only [dstOk, Nat.reduceLT])⟩ ?_
      | (refine hK.fork rfl rfl rfl (fun h => ?_) (fun h => ?_) <;> (try simp (disch := (refine Om.mk ?_; omega)) only [go_sem] at h))
      | (with_reducible refine And.intro (by first | omega | (simp only [List.length_append, List.length_take, List.length_drop, List.length_cons, List.length_nil, List.length_map]; omega)) ?_)
      | ((with_reducible refine And.intro ?_ ?_); · first | (intro x hx; subst hx; rfl) | exact upR_mem fun _ _ => rfl | exact mapR_mem fun _ _ => rfl | (intro x; refine And.intro ?_ ?_ <;> (intros; subst_vars; rfl)))
      | fail
    all_goals first | exact hs | trace_state
def kp58 : List (Nat × List Nat) := [(0, [1, 2]), (1, [3])]
attribute [go_sem] kp58
theorem isDefinedB1_fc (f : Int) (r : RuleT) (h : 1 ≤ r.l.length) : FC S 58 [(3, [.int .i64 f])] [] [] ([RuleD r] ++ [.box 3 0]) (.bool (tst (r.l.getD 0 default = f))) [] [] := by
  refine fc_body Try.func58 rfl (by kernel_rfl) (by simp [Try.f58]) fun B => ?_
  simp only [Try.ntmps58, enumD, List.map_nil, List.map_cons, List.length_map, Nat.zero_add, Nat.reduceAdd]
  repeat' first
    | exact Bool.noConfusion h
    | refine sw_seq ?_
    | refine sw_block ?_
    | refine sw_skip ?_
    | refine sw_inBlock ?_
    | refine sw_go 100 kp58 fun K hK => ?_
    | refine fun (K : List Oper → LS → Prop) (hK : KOk S 100 _ _ _ K) => ?_
    | refine sw_goD kp58 (by kernel_rfl) fun K hK => ?_
    | ((first | refine runL_go ?_ | refine runQ_go ?_); simp (disch := (refine Om.mk ?_; omega)) only [go_sem])
    | (refine hK.nil ?_; clear hK K; simp only [go_sem])
    | (refine sw_cond rfl (fun h => ?_) (fun h => ?_) <;> (try simp (disch := (refine Om.mk ?_; omega)) only [go_sem] at h))
    | (refine sw_exit rfl ?_)
    | (refine sw_loopEnd ?_)
    | ((first | refine sw_ret (ret0 ?_) | refine sw_ret ?_); simp (disch := (refine Om.mk ?_; omega)) only [go_sem, Try.results58])
    | (with_reducible refine And.intro (by first | omega | (simp only [List.length_append, List.length_take, List.length_drop, List.length_cons, List.length_nil, List.length_map]; omega)) ?_)
    | ((with_reducible refine And.intro ?_ ?_); · first | (intro x hx; subst hx; rfl) | exact upR_mem fun _ _ => rfl | exact mapR_mem fun _ _ => rfl | (intro x; refine And.intro ?_ ?_ <;> (intros; subst_vars; rfl)))
    | fail
def kp41 : List (Nat × List Nat) := [(0, [2, 3]), (1, [4])]
attribute [go_sem] kp41
theorem isDefinedB_fc (x : SystemT) (f : Int) (h : ∀ r ∈ x.rules, 1 ≤ r.l.length) : FC S 41 [] [] [] [SystemD x, .int .i64 f] (.bool (tst (Df x f))) [] [] := by
  refine fc_body Try.func41 rfl (by kernel_rfl) (by simp [Try.f41]) fun B => ?_
  simp only [Try.ntmps41, enumD, List.map_nil, List.map_cons, List.length_map, Nat.zero_add, Nat.reduceAdd]
  repeat' first
    | exact Bool.noConfusion h
    | refine sw_seq ?_
    | refine sw_block ?_
    | refine sw_skip ?_
    | refine sw_inBlock ?_
    | refine sw_go 0 kp41 fun K hK => ?_
    | refine fun (K : List Oper → LS → Prop) (hK : KOk S 0 _ _ _ K) => ?_
    | ((first | refine runL_go ?_ | refine runQ_go ?_); simp (disch := (refine Om.mk ?_; omega)) only [go_sem])
    | (refine hK.nil ?_; clear hK K; simp only [go_sem])
    | (refine sw_cond rfl (fun h => ?_) (fun h => ?_) <;> (try simp (disch := (refine Om.mk ?_; omega)) only [go_sem] at h))
    | (refine sw_exit rfl ?_)
    | (refine sw_loopEnd ?_)
    | ((first | refine sw_ret (ret0 ?_) | refine sw_ret ?_); simp (disch := (refine Om.mk ?_; omega)) only [go_sem, Try.results41])
    | refine hK.call rfl rfl rfl (containsFuncRule_fc _ x.rules (fun r => r.l.getD 0 default = f) _ _ [(3, [.int .i64 f])] (by simp [Lg.look]) (fun r hr => isDefinedB1_fc f r (h r hr))) ⟨(by simp [LS.getBox, Lg.look]), rfl, rfl, (by simp only [dstOk, Nat.reduceLT])⟩ ?_
    | (with_reducible refine And.intro (by first | omega | (simp only [List.length_append, List.length_take, List.length_drop, List.length_cons, List.length_nil, List.length_map]; omega)) ?_)
    | ((with_reducible refine And.intro ?_ ?_); · first | (intro x hx; subst hx; rfl) | exact upR_mem fun _ _ => rfl | exact mapR_mem fun _ _ => rfl | (intro x; refine And.intro ?_ ?_ <;> (intros; subst_vars; rfl)))
    | fail
  exact Iff.rfl
def kp43 : List (Nat × List Nat) := [(0, [0, 1]), (1, [3])]
attribute [go_sem] kp43
theorem basics1_fc (x : SystemT) (f : Int) (h : ∀ r ∈ x.rules, 1 ≤ r.l.length) : FC S 43 [(2, [.sl .any (x.sig.map (.int .i64)), .sl .any (x.rules.map RuleD)])] [] [] ([.int .i64 f] ++ [.box 2 0]) (.bool (tst (Df x f))) [] [] := by
  refine fc_body Try.func43 rfl (by kernel_rfl) (by simp [Try.f43]) fun B => ?_
  simp only [Try.ntmps43, enumD, List.map_nil, List.map_cons, List.length_map, Nat.zero_add, Nat.reduceAdd]
  repeat' first
    | exact Bool.noConfusion h
    | refine sw_seq ?_
    | refine sw_block ?_
    | refine sw_skip ?_
    | refine sw_inBlock ?_
    | refine sw_go 100 kp43 fun K hK => ?_
    | refine fun (K : List Oper → LS → Prop) (hK : KOk S 100 _ _ _ K) => ?_
    | ((first | refine runL_go ?_ | refine runQ_go ?_); simp (disch := (refine Om.mk ?_; omega)) only [go_sem])
    | (refine hK.nil ?_; clear hK K; simp only [go_sem])
    | (refine sw_cond rfl (fun h => ?_) (fun h => ?_) <;> (try simp (disch := (refine Om.mk ?_; omega)) only [go_sem] at h))
    | (refine sw_exit rfl ?_)
    | (refine sw_loopEnd ?_)
    | ((first | refine sw_ret (ret0 ?_) | refine sw_ret ?_); simp (disch := (refine Om.mk ?_; omega)) only [go_sem, Try.results43])
    | refine hK.call rfl rfl rfl (isDefinedB_fc x f h) ⟨(by intro p hp; cases hp), rfl, rfl, (by simp only [dstOk, Nat.reduceLT])⟩ ?_
    | (with_reducible refine And.intro (by first | omega | (simp only [List.length_append, List.length_take, List.length_drop, List.length_cons, List.length_nil, List.length_map]; omega)) ?_)
    | ((with_reducible refine And.intro ?_ ?_); · first | (intro x hx; subst hx; rfl) | exact upR_mem fun _ _ => rfl | exact mapR_mem fun _ _ => rfl | (intro x; refine And.intro ?_ ?_ <;> (intros; subst_vars; rfl)))
    | fail
def kp17 : List (Nat × List Nat) := [(0, [1, 2]), (1, [1, 2, 13]), (2, [4, 5]), (3, [2, 6, 7]), (4, [2, 6, 22]), (5, [4, 5]), (6, [2, 6, 8]), (7, [2, 8, 23, 24, 25]), (8, [2, 8, 23, 24, 25, 26]), (9, [2, 8, 10, 23, 24, 25]), (10, [2, 8, 10, 23, 24, 25, 40]), (11, [2, 8, 23, 24, 25]), (12, [2, 8, 23, 24, 25]), (13, [4, 5])]
attribute [go_sem] kp17
theorem implBasicsOf_fc (hkit : SortKit S.P 30 31) (p : List Nat) (hp : p ≠ []) (x : SystemT) (n : Int) : FC S 17 [] [] [] [SystemD x, .int .i64 n] (.tup [Int64SSL p (basR x n), .bool (tst (SystemOkP x ∧ GrP x.sig n))]) [] [] := by
  by_cases hs : SystemOkP x ∧ GrP x.sig n
  · have h0 : ∀ r ∈ x.rules, 1 ≤ r.l.length := fun r hr => by
      obtain ⟨j, hj, rfl⟩ := List.getElem_of_mem hr
      have := (hs.1.2 j hj).1.1.2.1.1
      rwa [List.getD_eq_getElem?_getD, List.getElem?_eq_getElem hj] at this
    have hgl := @grR_len x.sig n
    rw [basR_yes hs]
    skip
    refine fc_bodyF Try.func17 rfl (by kernel_rfl) (by simp [Try.f17]) fun B N hOff => ?_
    simp only [Try.ntmps17, enumD, List.map_nil, List.map_cons, List.length_map, Nat.zero_add, Nat.reduceAdd]
    have cG := implGroundsOf_fc hkit [N] (by simp) x.sig n
    generalize grR x.sig n = A at cG hgl
    repeat' first
      | ((exfalso; exact absurd hs.1 (by assumption)))
      | ((exfalso; exact absurd hs.2 (by assumption)))
      | exact Bool.noConfusion h
      | refine sw_seq ?_
      | refine sw_block ?_
      | refine sw_skip ?_
      | refine sw_inBlock ?_
      | refine sw_go 0 kp17 fun K hK => ?_
      | refine fun (K : List Oper → LS → Prop) (hK : KOk S 0 _ _ _ K) => ?_
      | refine sw_goD kp17 (by kernel_rfl) fun K hK => ?_
      | ((first | refine runL_go ?_ | refine runQ_go ?_); simp (disch := (refine Om.mk ?_; omega)) only [go_sem])
      | (refine hK.nil ?_; clear hK K; simp only [go_sem])
      | (refine runG_fork rfl rfl rfl rfl rfl (fun h => ?_) (fun h => ?_) <;> (try simp (disch := (refine Om.mk ?_; omega)) only [go_sem] at h))
      | (refine runQG_fork rfl rfl rfl rfl rfl (fun h => ?_) (fun h => ?_) <;> (try simp (disch := (refine Om.mk ?_; omega)) only [go_sem] at h))
      | (refine hK.skip rfl (by simp only [dstOk, Nat.reduceLT]) ?_)
      | (refine sw_cond rfl (fun h => ?_) (fun h => ?_) <;> (try simp (disch := (refine Om.mk ?_; omega)) only [go_sem] at h))
      | (refine sw_exit rfl ?_)
      | (refine sw_loopEnd ?_)
      | ((first | refine sw_ret (ret0 ?_) | refine sw_ret ?_); simp (disch := (refine Om.mk ?_; omega)) only [go_sem, Try.results17])
      | refine hK.call rfl rfl rfl (implSystemOk_fc x) ⟨(by intro p hp; cases hp), rfl, rfl, (by simp only [dstOk, Nat.reduceLT])⟩ ?_
      | refine hK.call rfl rfl rfl (cG) ⟨(by intro p hp; cases hp), rfl, rfl, (by simp only [dstOk, Nat.reduceLT])⟩ ?_
      | (refine hK.fork rfl rfl rfl (fun h => ?_) (fun h => ?_) <;> (try simp (disch := (refine Om.mk ?_; omega)) only [go_sem] at h))
      | (with_reducible refine And.intro (by first | omega | (simp only [List.length_append, List.length_take, List.length_drop, List.length_cons, List.length_nil, List.length_map]; omega)) ?_)
      | ((with_reducible refine And.intro ?_ ?_); · first | (intro x hx; subst hx; rfl) | exact upR_mem fun _ _ => rfl | exact mapR_mem fun _ _ => rfl | (intro x; refine And.intro ?_ ?_ <;> (intros; subst_vars; rfl)))
      | fail
    all_goals try exact absurd hs.1 (by assumption)
    all_goals try exact absurd hs.2 (by assumption)
    refine sw_tok 8 45000 22 1 rfl (.inl rfl) rfl ?_
    simp only [go_sem]
    refine sw_loopT (ι := Nat) (fun i => [(25, .int .i64 i), (8, .sl (.own 45000 22 1) ((basQ N x A i).map intsT))]) (fun _ => []) (fun _ => [45000]) (fun i => i ≤ A.length) (fun i => A.length - i) 0 (by (refine covers_mk0 rfl rfl ?_ ?_ ?_ ?_ <;> simp (disch := (refine Om.mk ?_; omega)) only [go_sem] <;> (try omega)); all_goals first | exact ⟨by unfold basQ basJ; rfl, rfl⟩ | trace_state) (by omega) (fun i hi => ?_)
    simp only [go_sem]
    have hbl := basQ_len N x A i
    by_cases hil : i < A.length
    · have htl := hgl.2 _ (getD_memG hil)
      have hy := @basQ_yes N x A i
      have hno := @basQ_no N x A i
      have hex : BasP x (A.getD i default) ↔ Df x ((A.getD i default).getD 0 default) ∧ ¬ ∃ f ∈ (A.getD i default).drop 1, Df x f := by
        refine and_congr_right fun _ => ⟨fun h ⟨f, hf, hd⟩ => ?_, fun h j h1 h2 hd => h ⟨_, ?_, hd⟩⟩
        · obtain ⟨j, hj, rfl⟩ := List.getElem_of_mem hf
          rw [List.length_drop] at hj
          have := h (1 + j) (by omega) (by omega)
          rw [List.getD_eq_getElem?_getD, List.getElem?_eq_getElem (by omega), Option.getD_some] at this
          rw [List.getElem_drop] at hd
          exact this hd
        · have e : (A.getD i default).getD j default = ((A.getD i default).drop 1)[j - 1]'(by rw [List.length_drop]; omega) := by
            rw [List.getElem_drop, List.getD_eq_getElem?_getD, List.getElem?_eq_getElem h1, Option.getD_some]
            congr 1; omega
          rw [e]; exact List.getElem_mem _
      repeat' first
        | ((exfalso; omega))
        | exact Bool.noConfusion h
        | refine sw_seq ?_
        | refine sw_block ?_
        | refine sw_skip ?_
        | refine sw_inBlock ?_
        | refine sw_go 0 kp17 fun K hK => ?_
        | refine fun (K : List Oper → LS → Prop) (hK : KOk S 0 _ _ _ K) => ?_
        | refine sw_goD kp17 (by kernel_rfl) fun K hK => ?_
        | ((first | refine runL_go ?_ | refine runQ_go ?_); simp (disch := (refine Om.mk ?_; omega)) only [go_sem])
        | (refine hK.nil ?_; clear hK K; simp only [go_sem])
        | (refine runG_fork rfl rfl rfl rfl rfl (fun h => ?_) (fun h => ?_) <;> (try simp (disch := (refine Om.mk ?_; omega)) only [go_sem] at h))
        | (refine runQG_fork rfl rfl rfl rfl rfl (fun h => ?_) (fun h => ?_) <;> (try simp (disch := (refine Om.mk ?_; omega)) only [go_sem] at h))
        | (refine hK.skip rfl (by simp only [dstOk, Nat.reduceLT]) ?_)
        | (refine sw_cond rfl (fun h => ?_) (fun h => ?_) <;> (try simp (disch := (refine Om.mk ?_; omega)) only [go_sem] at h))
        | (refine sw_exit rfl ?_)
        | (refine sw_loopEnd ?_)
        | ((first | refine sw_ret (ret0 ?_) | refine sw_ret ?_); simp (disch := (refine Om.mk ?_; omega)) only [go_sem, Try.results17])
        | refine hK.call rfl rfl rfl (isDefinedB_fc x _ h0) ⟨(by intro p hp; cases hp), rfl, rfl, (by simp only [dstOk, Nat.reduceLT])⟩ ?_
        | refine hK.call rfl rfl rfl (containsFuncInt64_fc _ ((A.getD i default).drop 1) (fun f => Df x f) _ _ [(2, [.sl .any (x.sig.map (.int .i64)), .sl .any (x.rules.map RuleD)])] (by simp [Lg.look]) (fun f _ => basics1_fc x f h0)) ⟨(by simp [LS.getBox, Lg.look]), rfl, rfl, (by simp only [dstOk, Nat.reduceLT])⟩ ?_
        | (refine hK.fork rfl rfl rfl (fun h => ?_) (fun h => ?_) <;> (try simp (disch := (refine Om.mk ?_; omega)) only [go_sem] at h))
        | (with_reducible refine And.intro (by first | omega | (simp only [List.length_append, List.length_take, List.length_drop, List.length_cons, List.length_nil, List.length_map]; omega)) ?_)
        | ((with_reducible refine And.intro ?_ ?_); · first | (intro x hx; subst hx; rfl) | exact upR_mem fun _ _ => rfl | exact mapR_mem fun _ _ => rfl | (intro x; refine And.intro ?_ ?_ <;> (intros; subst_vars; rfl)))
        | fail
      all_goals first | exact ⟨i + 1, (by rw [hy (hex.2 ⟨by assumption, by assumption⟩), List.map_append]; (refine covers_mk0 rfl rfl ?_ ?_ ?_ ?_ <;> simp (disch := (refine Om.mk ?_; omega)) only [go_sem] <;> (try omega)); all_goals first | exact rfl | (simp; done) | trace_state), by omega, by omega⟩ | exact ⟨i + 1, (by rw [hno (fun hB => by have := hex.1 hB; first | exact this.2 (by assumption) | exact absurd this.1 (by assumption))]; (refine covers_mk0 rfl rfl ?_ ?_ ?_ ?_ <;> simp (disch := (refine Om.mk ?_; omega)) only [go_sem] <;> (try omega))), by omega, by omega⟩ | trace_state
    · obtain rfl : i = A.length := by omega
      refine sw_relab hOff (f := relF N p ((basQ N x A A.length).map fun q => labOf q.1)) relF_ne relF_off [(24, .int .i64 A.length), (25, .int .i64 A.length), (8, .sl (.own 45000 22 1) (mapR (fun i y => Int64SL (p ++ [i] ++ [0]) y) (basT x A A.length)))] [] (fun q hq => ?_) (fun q hq => by cases hq) ?_
      · simp only [List.mem_cons, List.not_mem_nil, or_false] at hq
        rcases hq with rfl | rfl | rfl
        · exact ⟨_, rfl, rfl, rfl⟩
        · exact ⟨_, rfl, rfl, rfl⟩
        · refine ⟨_, rfl, noPL_of fun d hd => ?_, ?_⟩
          · obtain ⟨x, _, rfl⟩ := List.mem_map.1 hd
            exact noPL_of fun d hd => by obtain ⟨y, _, rfl⟩ := List.mem_map.1 hd; rfl
          · show D.sl _ _ = D.sl _ (D.rlL _ ((basQ N x A A.length).map intsT))
            rw [relab_gen (basQ_nodup N x A A.length) (basQ_lab N x A A.length), basQ_snd]
      simp only [go_sem]
      refine sw_lab 8 p rfl (by simp) hp ?_
      simp only [go_sem]
      repeat' first
        | ((exfalso; omega))
        | exact Bool.noConfusion h
        | refine sw_seq ?_
        | refine sw_block ?_
        | refine sw_skip ?_
        | refine sw_inBlock ?_
        | refine sw_go 0 kp17 fun K hK => ?_
        | refine fun (K : List Oper → LS → Prop) (hK : KOk S 0 _ _ _ K) => ?_
        | refine sw_goD kp17 (by kernel_rfl) fun K hK => ?_
        | ((first | refine runL_go ?_ | refine runQ_go ?_); simp (disch := (refine Om.mk ?_; omega)) only [go_sem])
        | (refine hK.nil ?_; clear hK K; simp only [go_sem])
        | (refine runG_fork rfl rfl rfl rfl rfl (fun h => ?_) (fun h => ?_) <;> (try simp (disch := (refine Om.mk ?_; omega)) only [go_sem] at h))
        | (refine runQG_fork rfl rfl rfl rfl rfl (fun h => ?_) (fun h => ?_) <;> (try simp (disch := (refine Om.mk ?_; omega)) only [go_sem] at h))
        | (refine hK.skip rfl (by simp only [dstOk, Nat.reduceLT]) ?_)
        | (refine sw_cond rfl (fun h => ?_) (fun h => ?_) <;> (try simp (disch := (refine Om.mk ?_; omega)) only [go_sem] at h))
        | (refine sw_exit rfl ?_)
        | (refine sw_loopEnd ?_)
        | ((first | refine sw_ret (ret0 ?_) | refine sw_ret ?_); simp (disch := (refine Om.mk ?_; omega)) only [go_sem, Try.results17])
        | (refine hK.fork rfl rfl rfl (fun h => ?_) (fun h => ?_) <;> (try simp (disch := (refine Om.mk ?_; omega)) only [go_sem] at h))
        | (with_reducible refine And.intro (by first | omega | (simp only [List.length_append, List.length_take, List.length_drop, List.length_cons, List.length_nil, List.length_map]; omega)) ?_)
        | ((with_reducible refine And.intro ?_ ?_); · first | (intro x hx; subst hx; rfl) | exact upR_mem fun _ _ => rfl | exact mapR_mem fun _ _ => rfl | (intro x; refine And.intro ?_ ?_ <;> (intros; subst_vars; rfl)))
        | fail
      all_goals first | exact hs | exact hs.2 | trace_state
  · rw [basR_no hs]
    skip
    refine fc_bodyF Try.func17 rfl (by kernel_rfl) (by simp [Try.f17]) fun B N hOff => ?_
    simp only [Try.ntmps17, enumD, List.map_nil, List.map_cons, List.length_map, Nat.zero_add, Nat.reduceAdd]
    have cG := implGroundsOf_fc hkit [N] (by simp) x.sig n
    repeat' first
      | ((exfalso; exact hs ⟨by assumption, by assumption⟩))
      | exact Bool.noConfusion h
      | refine sw_seq ?_
      | refine sw_block ?_
      | refine sw_skip ?_
      | refine sw_inBlock ?_
      | refine sw_go 0 kp17 fun K hK => ?_
      | refine fun (K : List Oper → LS → Prop) (hK : KOk S 0 _ _ _ K) => ?_
      | refine sw_goD kp17 (by kernel_rfl) fun K hK => ?_
      | ((first | refine runL_go ?_ | refine runQ_go ?_); simp (disch := (refine Om.mk ?_; omega)) only [go_sem])
      | (refine hK.nil ?_; clear hK K; simp only [go_sem])
      | (refine runG_fork rfl rfl rfl rfl rfl (fun h => ?_) (fun h => ?_) <;> (try simp (disch := (refine Om.mk ?_; omega)) only [go_sem] at h))
      | (refine runQG_fork rfl rfl rfl rfl rfl (fun h => ?_) (fun h => ?_) <;> (try simp (disch := (refine Om.mk ?_; omega)) only [go_sem] at h))
      | (refine hK.skip rfl (by simp only [dstOk, Nat.reduceLT]) ?_)
      | (refine sw_cond rfl (fun h => ?_) (fun h => ?_) <;> (try simp (disch := (refine Om.mk ?_; omega)) only [go_sem] at h))
      | (refine sw_exit rfl ?_)
      | (refine sw_loopEnd ?_)
      | ((first | refine sw_ret (ret0 ?_) | refine sw_ret ?_); simp (disch := (refine Om.mk ?_; omega)) only [go_sem, Try.results17])
      | refine hK.call rfl rfl rfl (implSystemOk_fc x) ⟨(by intro p hp; cases hp), rfl, rfl, (by simp only [dstOk, Nat.reduceLT])⟩ ?_
      | refine hK.call rfl rfl rfl (cG) ⟨(by intro p hp; cases hp), rfl, rfl, (by simp only [dstOk, Nat.reduceLT])⟩ ?_
      | (refine hK.fork rfl rfl rfl (fun h => ?_) (fun h => ?_) <;> (try simp (disch := (refine Om.mk ?_; omega)) only [go_sem] at h))
      | (with_reducible refine And.intro (by first | omega | (simp only [List.length_append, List.length_take, List.length_drop, List.length_cons, List.length_nil, List.length_map]; omega)) ?_)
      | ((with_reducible refine And.intro ?_ ?_); · first | (intro x hx; subst hx; rfl) | exact upR_mem fun _ _ => rfl | exact mapR_mem fun _ _ => rfl | (intro x; refine And.intro ?_ ?_ <;> (intros; subst_vars; rfl)))
      | fail
    all_goals first | (simp [mapR, le0]; done) | exact ⟨by simp [mapR, le0], hs⟩ | trace_state
end Go.Proofs.Ytldlochhiiogbaa
