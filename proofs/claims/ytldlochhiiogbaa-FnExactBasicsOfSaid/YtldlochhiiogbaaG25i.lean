/-
  Ground terms by their lengths: the program's count and lists.
-/
import Derived.Test.YtldlochhiiogbaaG25p
import Derived.Test.YtldlochhiiogbaaA02c
import Derived.Test.YtldlochhiiogbaaLTy
import Derived.Test.YtldlochhiiogbaaLgK12
namespace Go.Proofs.Ytldlochhiiogbaa
open Go Go.Lg
set_option linter.unusedSimpArgs false
set_option linter.unusedVariables false
set_option maxHeartbeats 4000000
attribute [local irreducible] SW runL runQ runG runQG FC Ret1 toF redoL
def LevI (l : Tms) : D := .sl (.lab [1]) (l.map IntsD)
attribute [go_sem] LevI
/-- the cells of the program's array: the levels, and at 'k' what is under way -/
def cellG (Bs : List Tms) (cur : D) (k j : Nat) : D := if j = k then cur else if j < k then LevI (Bs.getD j default) else .sl .nil []
def cellsG (Bs : List Tms) (cur : D) (k : Nat) : List D := (List.range 61).map (cellG Bs cur k)
theorem cells_at {Bs : List Tms} {cur : D} {k n : Nat} (h : Om (n < 61 ∧ n < k)) : (List.drop n (cellsG Bs cur k)).head? = some (LevI (Bs.getD n default)) := by
  obtain ⟨h1, h2⟩ := h.1
  rw [List.head?_drop, cellsG, List.getElem?_map, List.getElem?_range h1]
  have h3 : n ≠ k := by omega
  simp [cellG, h2, h3]
theorem cells_cur {Bs : List Tms} {cur : D} {k : Nat} (h : Om (k < 61)) : (List.drop k (cellsG Bs cur k)).head? = some cur := by
  rw [List.head?_drop, cellsG, List.getElem?_map, List.getElem?_range h.1]
  simp [cellG]
theorem cells_set {Bs : List Tms} {cur : D} {k : Nat} (x : D) : (cellsG Bs cur k).set k x = cellsG Bs x k := by
  refine List.ext_getElem (by simp [cellsG]) fun j h1 h2 => ?_
  have hj : j < 61 := by simpa [cellsG] using h2
  simp only [cellsG, List.getElem_set, List.getElem_map, List.getElem_range, cellG]
  by_cases e : k = j
  · subst e; simp
  · have e' : ¬ j = k := fun h => e h.symm
    simp [e, e']
theorem cells_pu (Bs : List Tms) (cur : D) (k : Nat) (p : Nat → Bool) : (cellsG Bs cur k).map (D.pu1 p) = cellsG Bs (cur.pu1 p) k := by
  unfold cellsG
  rw [List.map_map]
  refine List.map_congr_left fun j _ => ?_
  simp only [Function.comp, cellG]
  split
  · rfl
  · split <;> rfl
theorem tks_part (Bs : List Tms) (cur : D) (k : Nat) : ∀ n, D.tksL ((List.range n).map (cellG Bs cur k)) = if k < n then cur.tks else []
  | 0 => rfl
  | n + 1 => by
    have happ : ∀ a b : List D, D.tksL (a ++ b) = D.tksL a ++ D.tksL b := fun a b => by
      induction a with
      | nil => rfl
      | cons x r ih => simp only [List.cons_append, D.tksL, ih, List.append_assoc]
    rw [List.range_succ, List.map_append, happ, tks_part Bs cur k n]
    by_cases e : n = k
    · subst e; simp [D.tksL, cellG]
    · have h0 : (cellG Bs cur k n).tks = [] := by
        unfold cellG; rw [if_neg e]; split <;> rfl
      simp only [List.map_cons, List.map_nil, D.tksL, h0, List.append_nil]
      by_cases h : k < n
      · rw [if_pos h, if_pos (by omega)]
      · rw [if_neg h, if_neg (by omega)]
theorem ids_part (Bs : List Tms) (cur : D) (k : Nat) : ∀ n, D.idsL ((List.range n).map (cellG Bs cur k)) = if k < n then cur.ids else []
  | 0 => rfl
  | n + 1 => by
    have happ : ∀ a b : List D, D.idsL (a ++ b) = D.idsL a ++ D.idsL b := fun a b => by
      induction a with
      | nil => rfl
      | cons x r ih => simp only [List.cons_append, D.idsL, ih, List.append_assoc]
    rw [List.range_succ, List.map_append, happ, ids_part Bs cur k n]
    by_cases e : n = k
    · subst e; simp [D.idsL, cellG]
    · have h0 : (cellG Bs cur k n).ids = [] := by
        unfold cellG; rw [if_neg e]; split <;> rfl
      simp only [List.map_cons, List.map_nil, D.idsL, h0, List.append_nil]
      by_cases h : k < n
      · rw [if_pos h, if_pos (by omega)]
      · rw [if_neg h, if_neg (by omega)]
theorem cells_tks {Bs : List Tms} {cur : D} {k : Nat} (h : Om (k < 61)) : D.tksL (cellsG Bs cur k) = cur.tks := by
  unfold cellsG; rw [tks_part, if_pos h.1]
theorem cells_ids {Bs : List Tms} {cur : D} {k : Nat} (h : Om (k < 61)) : D.idsL (cellsG Bs cur k) = cur.ids := by
  unfold cellsG; rw [ids_part, if_pos h.1]
attribute [local go_sem] cells_at cells_cur cells_set cells_pu cells_tks cells_ids
attribute [local irreducible] cellsG rowJ rowU uI uX
def kp27 : List (Nat × List Nat) := [(0, [0, 1, 2]), (1, [0, 1, 2, 11]), (2, [13]), (3, [6]), (4, [6]), (5, [0, 1, 2, 7]), (6, [0, 1, 2, 7, 8]), (7, [0, 1, 2, 7, 8, 19]), (9, [0, 1, 2, 7, 8, 9]), (10, [0, 1, 2, 7, 8, 9, 29]), (11, [0, 1, 2, 7, 8]), (8, [0, 1, 2, 7, 8]), (12, [6])]
attribute [go_sem] kp27
theorem count_fc (id : Nat) (Bs : List Tms) (cur : D) (k : Nat) (hk : k ≤ 60) (hB2 : ∀ j, (lv Bs j).length ≤ 200) : ∀ (a n : Nat) (A M : Int), A = a → M = n → a ≤ 3 → n < k → FC S 27 [(id, cellsG Bs cur k)] [] [] [.box id 0, .int .i64 A, .int .i64 M] (.int .i64 ((min (rowU Bs a n).length 201 : Nat) : Int)) [] [] := by
  intro a
  induction a with
  | zero =>
    intro n A M hA hM _ hn
    subst hA; subst hM
    skip
    refine fc_body Try.func27 rfl (by kernel_rfl) (by simp [Try.f27]) fun B => ?_
    simp only [Try.ntmps27, enumD, List.map_nil, List.map_cons, List.length_map, Nat.zero_add, Nat.reduceAdd]
    by_cases h0 : n = 0
    · subst h0
      rw [rowU_zero]
      repeat' first
        | ((exfalso; omega))
        | exact Bool.noConfusion h
        | refine sw_seq ?_
        | refine sw_block ?_
        | refine sw_skip ?_
        | refine sw_inBlock ?_
        | refine sw_go 0 kp27 fun K hK => ?_
        | refine fun (K : List Oper → LS → Prop) (hK : KOk S 0 _ _ _ K) => ?_
        | ((first | refine runL_go ?_ | refine runQ_go ?_); simp (disch := (refine Om.mk ?_; omega)) only [go_sem])
        | (refine hK.nil ?_; clear hK K; simp only [go_sem])
        | (refine sw_cond rfl (fun h => ?_) (fun h => ?_) <;> (try simp (disch := (refine Om.mk ?_; omega)) only [go_sem] at h))
        | (refine sw_exit rfl ?_)
        | (refine sw_loopEnd ?_)
        | ((first | refine sw_ret (ret0 ?_) | refine sw_ret ?_); simp (disch := (refine Om.mk ?_; omega)) only [go_sem, Try.results27])
        | (with_reducible refine And.intro (by first | omega | (simp only [List.length_append, List.length_take, List.length_drop, List.length_cons, List.length_nil, List.length_map]; omega)) ?_)
        | ((with_reducible refine And.intro ?_ ?_); · first | (intro x hx; subst hx; rfl) | exact upR_mem fun _ _ => rfl | exact mapR_mem fun _ _ => rfl | (intro x; refine And.intro ?_ ?_ <;> (intros; subst_vars; rfl)))
        | fail
      all_goals first | rfl | trace_state
    · rw [rowU_zero' Bs h0]
      repeat' first
        | ((exfalso; omega))
        | exact Bool.noConfusion h
        | refine sw_seq ?_
        | refine sw_block ?_
        | refine sw_skip ?_
        | refine sw_inBlock ?_
        | refine sw_go 0 kp27 fun K hK => ?_
        | refine fun (K : List Oper → LS → Prop) (hK : KOk S 0 _ _ _ K) => ?_
        | ((first | refine runL_go ?_ | refine runQ_go ?_); simp (disch := (refine Om.mk ?_; omega)) only [go_sem])
        | (refine hK.nil ?_; clear hK K; simp only [go_sem])
        | (refine sw_cond rfl (fun h => ?_) (fun h => ?_) <;> (try simp (disch := (refine Om.mk ?_; omega)) only [go_sem] at h))
        | (refine sw_exit rfl ?_)
        | (refine sw_loopEnd ?_)
        | ((first | refine sw_ret (ret0 ?_) | refine sw_ret ?_); simp (disch := (refine Om.mk ?_; omega)) only [go_sem, Try.results27])
        | (with_reducible refine And.intro (by first | omega | (simp only [List.length_append, List.length_take, List.length_drop, List.length_cons, List.length_nil, List.length_map]; omega)) ?_)
        | ((with_reducible refine And.intro ?_ ?_); · first | (intro x hx; subst hx; rfl) | exact upR_mem fun _ _ => rfl | exact mapR_mem fun _ _ => rfl | (intro x; refine And.intro ?_ ?_ <;> (intros; subst_vars; rfl)))
        | fail
      all_goals first | rfl | trace_state
  | succ a ih =>
    intro n A M hA hM ha hn
    subst hA; subst hM
    rw [rowU_cut]
    skip
    refine fc_body Try.func27 rfl (by kernel_rfl) (by simp [Try.f27]) fun B => ?_
    simp only [Try.ntmps27, enumD, List.map_nil, List.map_cons, List.length_map, Nat.zero_add, Nat.reduceAdd]
    repeat' first
      | ((exfalso; omega))
      | exact Bool.noConfusion h
      | refine sw_seq ?_
      | refine sw_block ?_
      | refine sw_skip ?_
      | refine sw_inBlock ?_
      | refine sw_go 0 kp27 fun K hK => ?_
      | refine fun (K : List Oper → LS → Prop) (hK : KOk S 0 _ _ _ K) => ?_
      | ((first | refine runL_go ?_ | refine runQ_go ?_); simp (disch := (refine Om.mk ?_; omega)) only [go_sem])
      | (refine hK.nil ?_; clear hK K; simp only [go_sem])
      | (refine sw_cond rfl (fun h => ?_) (fun h => ?_) <;> (try simp (disch := (refine Om.mk ?_; omega)) only [go_sem] at h))
      | (refine sw_exit rfl ?_)
      | (refine sw_loopEnd ?_)
      | ((first | refine sw_ret (ret0 ?_) | refine sw_ret ?_); simp (disch := (refine Om.mk ?_; omega)) only [go_sem, Try.results27])
      | (with_reducible refine And.intro (by first | omega | (simp only [List.length_append, List.length_take, List.length_drop, List.length_cons, List.length_nil, List.length_map]; omega)) ?_)
      | ((with_reducible refine And.intro ?_ ?_); · first | (intro x hx; subst hx; rfl) | exact upR_mem fun _ _ => rfl | exact mapR_mem fun _ _ => rfl | (intro x; refine And.intro ?_ ?_ <;> (intros; subst_vars; rfl)))
      | fail
    refine sw_loopT (ι := Nat) (fun j => [(8, .int .i64 (j + 1)), (7, .int .i64 ((min (rowJ (rowU Bs a) Bs n j).length 201 : Nat) : Int))]) (fun _ => []) (fun _ => []) (fun j => j ≤ n - a) (fun j => n - a - j) 0 (by (refine covers_mk0 rfl rfl ?_ ?_ ?_ ?_ <;> simp (disch := (refine Om.mk ?_; omega)) only [go_sem] <;> (try omega)); all_goals first | exact ⟨rfl, rfl⟩ | rfl | (rw [rowJ_zero]; simp; done) | trace_state) (by omega) (fun j hj => ?_)
    simp only [go_sem]
    by_cases hjn : j < n - a
    · have hms := min_step (rowJ (rowU Bs a) Bs n j).length (Bs.getD (j + 1) default).length (rowU Bs a (n - (j + 1))).length
      rw [← rowJ_len] at hms
      have hl2 : (Bs.getD (j + 1) default).length ≤ 200 := hB2 (j + 1)
      have cR := fun (A M : Int) hA hM => ih (n - (j + 1)) A M hA hM (by omega) (by omega)
      have hs0 : min (rowJ (rowU Bs a) Bs n j).length 201 ≤ 201 := Nat.min_le_right ..
      generalize min (rowJ (rowU Bs a) Bs n j).length 201 = s0 at hms hs0
      have hs1 : min (rowU Bs a (n - (j + 1))).length 201 ≤ 201 := Nat.min_le_right ..
      generalize min (rowU Bs a (n - (j + 1))).length 201 = c0 at hms hs1 cR
      have hmul : (Bs.getD (j + 1) default).length * c0 ≤ 200 * 201 := Nat.mul_le_mul hl2 hs1
      have hmi : ((Bs.getD (j + 1) default).length : Int) * (c0 : Int) ≤ 40200 ∧ 0 ≤ ((Bs.getD (j + 1) default).length : Int) * (c0 : Int) := by rw [← Int.natCast_mul]; omega
      by_cases hz : (Bs.getD (j + 1) default).length = 0
      · rw [hz, Nat.zero_mul, Nat.add_zero] at hms
        repeat' first
          | ((exfalso; omega))
          | exact Bool.noConfusion h
          | refine sw_seq ?_
          | refine sw_block ?_
          | refine sw_skip ?_
          | refine sw_inBlock ?_
          | refine sw_go 0 kp27 fun K hK => ?_
          | refine fun (K : List Oper → LS → Prop) (hK : KOk S 0 _ _ _ K) => ?_
          | ((first | refine runL_go ?_ | refine runQ_go ?_); simp (disch := (refine Om.mk ?_; omega)) only [go_sem])
          | (refine hK.nil ?_; clear hK K; simp only [go_sem])
          | (refine sw_cond rfl (fun h => ?_) (fun h => ?_) <;> (try simp (disch := (refine Om.mk ?_; omega)) only [go_sem] at h))
          | (refine sw_exit rfl ?_)
          | (refine sw_loopEnd ?_)
          | ((first | refine sw_ret (ret0 ?_) | refine sw_ret ?_); simp (disch := (refine Om.mk ?_; omega)) only [go_sem, Try.results27])
          | refine hK.call rfl rfl rfl (cR _ _ (by omega) (by omega)) ⟨(by simp [LS.getBox, Lg.look]), rfl, rfl, (by simp only [dstOk, Nat.reduceLT])⟩ ?_
          | (with_reducible refine And.intro (by first | omega | (simp only [List.length_append, List.length_take, List.length_drop, List.length_cons, List.length_nil, List.length_map]; omega)) ?_)
          | ((with_reducible refine And.intro ?_ ?_); · first | (intro x hx; subst hx; rfl) | exact upR_mem fun _ _ => rfl | exact mapR_mem fun _ _ => rfl | (intro x; refine And.intro ?_ ?_ <;> (intros; subst_vars; rfl)))
          | fail
        exact ⟨j + 1, (by (refine covers_mk0 rfl rfl ?_ ?_ ?_ ?_ <;> simp (disch := (refine Om.mk ?_; omega)) only [go_sem] <;> (try omega)); all_goals first | omega | trace_state), by omega, by omega⟩
      · repeat' first
          | ((exfalso; omega))
          | exact Bool.noConfusion h
          | refine sw_seq ?_
          | refine sw_block ?_
          | refine sw_skip ?_
          | refine sw_inBlock ?_
          | refine sw_go 0 kp27 fun K hK => ?_
          | refine fun (K : List Oper → LS → Prop) (hK : KOk S 0 _ _ _ K) => ?_
          | ((first | refine runL_go ?_ | refine runQ_go ?_); simp (disch := (refine Om.mk ?_; omega)) only [go_sem])
          | (refine hK.nil ?_; clear hK K; simp only [go_sem])
          | (refine sw_cond rfl (fun h => ?_) (fun h => ?_) <;> (try simp (disch := (refine Om.mk ?_; omega)) only [go_sem] at h))
          | (refine sw_exit rfl ?_)
          | (refine sw_loopEnd ?_)
          | ((first | refine sw_ret (ret0 ?_) | refine sw_ret ?_); simp (disch := (refine Om.mk ?_; omega)) only [go_sem, Try.results27])
          | refine hK.call rfl rfl rfl (cR _ _ (by omega) (by omega)) ⟨(by simp [LS.getBox, Lg.look]), rfl, rfl, (by simp only [dstOk, Nat.reduceLT])⟩ ?_
          | (with_reducible refine And.intro (by first | omega | (simp only [List.length_append, List.length_take, List.length_drop, List.length_cons, List.length_nil, List.length_map]; omega)) ?_)
          | ((with_reducible refine And.intro ?_ ?_); · first | (intro x hx; subst hx; rfl) | exact upR_mem fun _ _ => rfl | exact mapR_mem fun _ _ => rfl | (intro x; refine And.intro ?_ ?_ <;> (intros; subst_vars; rfl)))
          | fail
        have he : (if 201 < (s0 : Int) + ((Bs.getD (j + 1) default).length : Int) * (c0 : Int) then (201 : Int) else (s0 : Int) + ((Bs.getD (j + 1) default).length : Int) * (c0 : Int)) = ((min (rowJ (rowU Bs a) Bs n (j + 1)).length 201 : Nat) : Int) := by
          rw [← hms, ← Int.natCast_mul]
          split <;> omega
        exact ⟨j + 1, (by (refine covers_mk0 rfl rfl ?_ ?_ ?_ ?_ <;> simp (disch := (refine Om.mk ?_; omega)) only [go_sem] <;> (try omega)); all_goals first | exact ⟨he, by omega⟩ | exact he | (rw [he]; done) | trace_state), by omega, by omega⟩
    · obtain rfl : j = n - a := by omega
      repeat' first
        | ((exfalso; omega))
        | exact Bool.noConfusion h
        | refine sw_seq ?_
        | refine sw_block ?_
        | refine sw_skip ?_
        | refine sw_inBlock ?_
        | refine sw_go 0 kp27 fun K hK => ?_
        | refine fun (K : List Oper → LS → Prop) (hK : KOk S 0 _ _ _ K) => ?_
        | ((first | refine runL_go ?_ | refine runQ_go ?_); simp (disch := (refine Om.mk ?_; omega)) only [go_sem])
        | (refine hK.nil ?_; clear hK K; simp only [go_sem])
        | (refine sw_cond rfl (fun h => ?_) (fun h => ?_) <;> (try simp (disch := (refine Om.mk ?_; omega)) only [go_sem] at h))
        | (refine sw_exit rfl ?_)
        | (refine sw_loopEnd ?_)
        | ((first | refine sw_ret (ret0 ?_) | refine sw_ret ?_); simp (disch := (refine Om.mk ?_; omega)) only [go_sem, Try.results27])
        | (with_reducible refine And.intro (by first | omega | (simp only [List.length_append, List.length_take, List.length_drop, List.length_cons, List.length_nil, List.length_map]; omega)) ?_)
        | ((with_reducible refine And.intro ?_ ?_); · first | (intro x hx; subst hx; rfl) | exact upR_mem fun _ _ => rfl | exact mapR_mem fun _ _ => rfl | (intro x; refine And.intro ?_ ?_ <;> (intros; subst_vars; rfl)))
        | fail
      all_goals first | rfl | trace_state
def kp28 : List (Nat × List Nat) := [(0, [0, 1, 2]), (1, [0, 1, 2, 15]), (2, [17]), (3, [6]), (4, [6]), (5, [0, 1, 2, 7]), (6, [0, 1, 2, 7, 8]), (7, [0, 1, 2, 7, 8, 25]), (9, [0, 1, 2, 7, 8, 34]), (10, [0, 1, 2, 7, 8, 9]), (11, [0, 1, 2, 7, 8, 9, 46, 47, 48]), (12, [0, 1, 2, 7, 8, 9, 46, 47, 48, 49]), (13, [0, 1, 2, 7, 8, 9, 11, 46, 47, 48]), (14, [0, 1, 2, 7, 8, 9, 11, 46, 47, 48, 52, 53, 54]), (15, [0, 1, 2, 7, 8, 9, 11, 46, 47, 48, 52, 53, 54, 55]), (16, [0, 1, 2, 7, 8, 9, 11, 13, 46, 47, 48, 52, 53, 54]), (17, [0, 1, 2, 7, 8, 9, 11, 46, 47, 48, 52, 53, 54]), (18, [0, 1, 2, 7, 8, 9, 11, 46, 47, 48, 52, 53, 54]), (19, [0, 1, 2, 7, 8, 9, 46, 47, 48]), (8, [0, 1, 2, 7, 8]), (20, [6])]
attribute [go_sem] kp28
theorem lists_fc (id : Nat) (Bs : List Tms) (ys : List D) (k : Nat) (hk : k ≤ 60) (hB : ∀ k, ∀ t ∈ lv Bs k, t.length = k) (hB2 : ∀ j, (lv Bs j).length ≤ 200) : ∀ (a n : Nat) (A M : Int), A = a → M = n → a ≤ 3 → n < k → FC S 28 [(id, cellsG Bs (.sl (.own 78000 22 1) ys) k)] [] [] [.box id 0, .int .i64 A, .int .i64 M] (.sl .any ((rowU Bs a n).map IntsD)) [] [] := by
  intro a
  induction a with
  | zero =>
    intro n A M hA hM _ hn
    subst hA; subst hM
    skip
    refine fc_body Try.func28 rfl (by kernel_rfl) (by simp [Try.f28]) fun B => ?_
    simp only [Try.ntmps28, enumD, List.map_nil, List.map_cons, List.length_map, Nat.zero_add, Nat.reduceAdd]
    by_cases h0 : n = 0
    · subst h0
      rw [rowU_zero]
      repeat' first
        | ((exfalso; omega))
        | exact Bool.noConfusion h
        | refine sw_seq ?_
        | refine sw_block ?_
        | refine sw_skip ?_
        | refine sw_inBlock ?_
        | refine sw_go 0 kp28 fun K hK => ?_
        | refine fun (K : List Oper → LS → Prop) (hK : KOk S 0 _ _ _ K) => ?_
        | ((first | refine runL_go ?_ | refine runQ_go ?_); simp (disch := (refine Om.mk ?_; omega)) only [go_sem])
        | (refine hK.nil ?_; clear hK K; simp only [go_sem])
        | (refine sw_cond rfl (fun h => ?_) (fun h => ?_) <;> (try simp (disch := (refine Om.mk ?_; omega)) only [go_sem] at h))
        | (refine sw_exit rfl ?_)
        | (refine sw_loopEnd ?_)
        | ((first | refine sw_ret (ret0 ?_) | refine sw_ret ?_); simp (disch := (refine Om.mk ?_; omega)) only [go_sem, Try.results28])
        | (with_reducible refine And.intro (by first | omega | (simp only [List.length_append, List.length_take, List.length_drop, List.length_cons, List.length_nil, List.length_map]; omega)) ?_)
        | ((with_reducible refine And.intro ?_ ?_); · first | (intro x hx; subst hx; rfl) | exact upR_mem fun _ _ => rfl | exact mapR_mem fun _ _ => rfl | (intro x; refine And.intro ?_ ?_ <;> (intros; subst_vars; rfl)))
        | fail
      all_goals first | rfl | trace_state
    · rw [rowU_zero' Bs h0]
      repeat' first
        | ((exfalso; omega))
        | exact Bool.noConfusion h
        | refine sw_seq ?_
        | refine sw_block ?_
        | refine sw_skip ?_
        | refine sw_inBlock ?_
        | refine sw_go 0 kp28 fun K hK => ?_
        | refine fun (K : List Oper → LS → Prop) (hK : KOk S 0 _ _ _ K) => ?_
        | ((first | refine runL_go ?_ | refine runQ_go ?_); simp (disch := (refine Om.mk ?_; omega)) only [go_sem])
        | (refine hK.nil ?_; clear hK K; simp only [go_sem])
        | (refine sw_cond rfl (fun h => ?_) (fun h => ?_) <;> (try simp (disch := (refine Om.mk ?_; omega)) only [go_sem] at h))
        | (refine sw_exit rfl ?_)
        | (refine sw_loopEnd ?_)
        | ((first | refine sw_ret (ret0 ?_) | refine sw_ret ?_); simp (disch := (refine Om.mk ?_; omega)) only [go_sem, Try.results28])
        | (with_reducible refine And.intro (by first | omega | (simp only [List.length_append, List.length_take, List.length_drop, List.length_cons, List.length_nil, List.length_map]; omega)) ?_)
        | ((with_reducible refine And.intro ?_ ?_); · first | (intro x hx; subst hx; rfl) | exact upR_mem fun _ _ => rfl | exact mapR_mem fun _ _ => rfl | (intro x; refine And.intro ?_ ?_ <;> (intros; subst_vars; rfl)))
        | fail
      all_goals first | rfl | trace_state
  | succ a ih =>
    intro n A M hA hM ha hn
    subst hA; subst hM
    rw [rowU_cut]
    skip
    refine fc_body Try.func28 rfl (by kernel_rfl) (by simp [Try.f28]) fun B => ?_
    simp only [Try.ntmps28, enumD, List.map_nil, List.map_cons, List.length_map, Nat.zero_add, Nat.reduceAdd]
    repeat' first
      | ((exfalso; omega))
      | exact Bool.noConfusion h
      | refine sw_seq ?_
      | refine sw_block ?_
      | refine sw_skip ?_
      | refine sw_inBlock ?_
      | refine sw_go 0 kp28 fun K hK => ?_
      | refine fun (K : List Oper → LS → Prop) (hK : KOk S 0 _ _ _ K) => ?_
      | ((first | refine runL_go ?_ | refine runQ_go ?_); simp (disch := (refine Om.mk ?_; omega)) only [go_sem])
      | (refine hK.nil ?_; clear hK K; simp only [go_sem])
      | (refine sw_cond rfl (fun h => ?_) (fun h => ?_) <;> (try simp (disch := (refine Om.mk ?_; omega)) only [go_sem] at h))
      | (refine sw_exit rfl ?_)
      | (refine sw_loopEnd ?_)
      | ((first | refine sw_ret (ret0 ?_) | refine sw_ret ?_); simp (disch := (refine Om.mk ?_; omega)) only [go_sem, Try.results28])
      | (with_reducible refine And.intro (by first | omega | (simp only [List.length_append, List.length_take, List.length_drop, List.length_cons, List.length_nil, List.length_map]; omega)) ?_)
      | ((with_reducible refine And.intro ?_ ?_); · first | (intro x hx; subst hx; rfl) | exact upR_mem fun _ _ => rfl | exact mapR_mem fun _ _ => rfl | (intro x; refine And.intro ?_ ?_ <;> (intros; subst_vars; rfl)))
      | fail
    refine sw_tok 7 65000 22 1 rfl (.inl rfl) (by simp (disch := (refine Om.mk ?_; omega)) [LS.purge, LS.clean, mapA, D.pu, D.pu1, D.tks, D.tksL, cells_pu, cells_tks]) ?_
    simp (disch := (refine Om.mk ?_; omega)) only [go_sem]
    refine sw_loopT (ι := Nat) (fun j => [(8, .int .i64 (j + 1)), (7, .sl (.own 65000 22 1) ((rowJ (rowU Bs a) Bs n j).map IntsD))]) (fun _ => []) (fun _ => [65000]) (fun j => j ≤ n - a) (fun j => n - a - j) 0 (by (refine covers_mk0 rfl rfl ?_ ?_ ?_ ?_ <;> simp (disch := (refine Om.mk ?_; omega)) only [go_sem] <;> (try omega)); rw [rowJ_zero]; all_goals first | exact ⟨rfl, rfl⟩ | rfl | trace_state) (by omega) (fun j hj => ?_)
    simp only [go_sem]
    by_cases hjn : j < n - a
    · have hrs := rowJ_succ (rowU Bs a) Bs n j
      have hl2 : (Bs.getD (j + 1) default).length ≤ 200 := hB2 (j + 1)
      have hbd : (rowJ (rowU Bs a) Bs n j).length + (Bs.getD (j + 1) default).length * (rowU Bs a (n - (j + 1))).length ≤ 1728000000000 := by
        have h := rowJ_bd Bs hB2 (j := j + 1) ha (show n ≤ 60 by omega) (by omega)
        rw [rowJ_len] at h
        exact h
      have cR := fun (A M : Int) hA hM => ih (n - (j + 1)) A M hA hM (by omega) (by omega)
      have hrl : ∀ x ∈ rowU Bs a (n - (j + 1)), x.length = n - (j + 1) := fun x hx => rowU_len Bs hB a _ x hx
      have hue := uI_end (rowJ (rowU Bs a) Bs n j) (Bs.getD (j + 1) default) (rowU Bs a (n - (j + 1)))
      rw [← hrs] at hue
      by_cases hz : (Bs.getD (j + 1) default).length = 0
      · have hz2 : Bs.getD (j + 1) default = [] := List.length_eq_zero_iff.1 hz
        rw [hz2, List.length_nil, uI_zero] at hue
        repeat' first
          | ((exfalso; omega))
          | exact Bool.noConfusion h
          | refine sw_seq ?_
          | refine sw_block ?_
          | refine sw_skip ?_
          | refine sw_inBlock ?_
          | refine sw_go 0 kp28 fun K hK => ?_
          | refine fun (K : List Oper → LS → Prop) (hK : KOk S 0 _ _ _ K) => ?_
          | ((first | refine runL_go ?_ | refine runQ_go ?_); simp (disch := (refine Om.mk ?_; omega)) only [go_sem])
          | (refine hK.nil ?_; clear hK K; simp only [go_sem])
          | (refine sw_cond rfl (fun h => ?_) (fun h => ?_) <;> (try simp (disch := (refine Om.mk ?_; omega)) only [go_sem] at h))
          | (refine sw_exit rfl ?_)
          | (refine sw_loopEnd ?_)
          | ((first | refine sw_ret (ret0 ?_) | refine sw_ret ?_); simp (disch := (refine Om.mk ?_; omega)) only [go_sem, Try.results28])
          | (with_reducible refine And.intro (by first | omega | (simp only [List.length_append, List.length_take, List.length_drop, List.length_cons, List.length_nil, List.length_map]; omega)) ?_)
          | ((with_reducible refine And.intro ?_ ?_); · first | (intro x hx; subst hx; rfl) | exact upR_mem fun _ _ => rfl | exact mapR_mem fun _ _ => rfl | (intro x; refine And.intro ?_ ?_ <;> (intros; subst_vars; rfl)))
          | fail
        exact ⟨j + 1, (by (refine covers_mk0 rfl rfl ?_ ?_ ?_ ?_ <;> simp (disch := (refine Om.mk ?_; omega)) only [go_sem] <;> (try omega)); rw [← hue]; all_goals first | exact ⟨rfl, by omega⟩ | trace_state), by omega, by omega⟩
      · have hrl1 := Nat.le_trans (rowU_bound Bs hB2 a (n - (j + 1)) (by omega)) (Nat.pow_le_pow_right (by omega) (show a ≤ 2 by omega))
        rw [show (12000 : Nat) ^ 2 = 144000000 by decide] at hrl1
        generalize rowU Bs a (n - (j + 1)) = rest at cR hrl hue hbd hrl1
        repeat' first
          | ((exfalso; omega))
          | exact Bool.noConfusion h
          | refine sw_seq ?_
          | refine sw_block ?_
          | refine sw_skip ?_
          | refine sw_inBlock ?_
          | refine sw_go 0 kp28 fun K hK => ?_
          | refine fun (K : List Oper → LS → Prop) (hK : KOk S 0 _ _ _ K) => ?_
          | ((first | refine runL_go ?_ | refine runQ_go ?_); simp (disch := (refine Om.mk ?_; omega)) only [go_sem])
          | (refine hK.nil ?_; clear hK K; simp only [go_sem])
          | (refine sw_cond rfl (fun h => ?_) (fun h => ?_) <;> (try simp (disch := (refine Om.mk ?_; omega)) only [go_sem] at h))
          | (refine sw_exit rfl ?_)
          | (refine sw_loopEnd ?_)
          | ((first | refine sw_ret (ret0 ?_) | refine sw_ret ?_); simp (disch := (refine Om.mk ?_; omega)) only [go_sem, Try.results28])
          | refine hK.call rfl rfl rfl (cR _ _ (by omega) (by omega)) ⟨(by simp [LS.getBox, Lg.look]), rfl, rfl, (by simp only [dstOk, Nat.reduceLT])⟩ ?_
          | (with_reducible refine And.intro (by first | omega | (simp only [List.length_append, List.length_take, List.length_drop, List.length_cons, List.length_nil, List.length_map]; omega)) ?_)
          | ((with_reducible refine And.intro ?_ ?_); · first | (intro x hx; subst hx; rfl) | exact upR_mem fun _ _ => rfl | exact mapR_mem fun _ _ => rfl | (intro x; refine And.intro ?_ ?_ <;> (intros; subst_vars; rfl)))
          | fail
        generalize rowJ (rowU Bs a) Bs n j = P at hue hbd
        have hI := fun i h => uI_len' P (Bs.getD (j + 1) default) rest (i := i) h
        have hX := fun i x h1 h2 => uX_len P (Bs.getD (j + 1) default) rest (i := i) (x := x) h1 h2
        generalize (Bs.getD (j + 1) default).length * rest.length = z at hI hX hbd
        have hP : P = uI P (Bs.getD (j + 1) default) rest 0 := (uI_zero _ _ _).symm
        refine sw_loopT (ι := Nat) (fun i => [(48, .int .i64 i), (7, .sl (.own 65000 22 1) ((uI P (Bs.getD (j + 1) default) rest i).map IntsD))]) (fun _ => []) (fun _ => [65000]) (fun i => i ≤ (Bs.getD (j + 1) default).length) (fun i => (Bs.getD (j + 1) default).length - i) 0 (by (refine covers_mk0 rfl rfl ?_ ?_ ?_ ?_ <;> simp (disch := (refine Om.mk ?_; omega)) only [go_sem] <;> (try omega)); rw [← hP]; all_goals first | rfl | exact ⟨rfl, rfl⟩ | trace_state) (by omega) (fun i hi => ?_)
        simp (disch := (refine Om.mk ?_; omega)) only [go_sem]
        by_cases hil : i < (Bs.getD (j + 1) default).length
        · have hti := hB (j + 1) _ (getD_memG (xs := Bs.getD (j + 1) default) (i := i) hil)
          repeat' first
            | ((exfalso; omega))
            | exact Bool.noConfusion h
            | refine sw_seq ?_
            | refine sw_block ?_
            | refine sw_skip ?_
            | refine sw_inBlock ?_
            | refine sw_go 0 kp28 fun K hK => ?_
            | refine fun (K : List Oper → LS → Prop) (hK : KOk S 0 _ _ _ K) => ?_
            | ((first | refine runL_go ?_ | refine runQ_go ?_); simp (disch := (refine Om.mk ?_; omega)) only [go_sem])
            | (refine hK.nil ?_; clear hK K; simp only [go_sem])
            | (refine sw_cond rfl (fun h => ?_) (fun h => ?_) <;> (try simp (disch := (refine Om.mk ?_; omega)) only [go_sem] at h))
            | (refine sw_exit rfl ?_)
            | (refine sw_loopEnd ?_)
            | ((first | refine sw_ret (ret0 ?_) | refine sw_ret ?_); simp (disch := (refine Om.mk ?_; omega)) only [go_sem, Try.results28])
            | (with_reducible refine And.intro (by first | omega | (simp only [List.length_append, List.length_take, List.length_drop, List.length_cons, List.length_nil, List.length_map]; omega)) ?_)
            | ((with_reducible refine And.intro ?_ ?_); · first | (intro x hx; subst hx; rfl) | exact upR_mem fun _ _ => rfl | exact mapR_mem fun _ _ => rfl | (intro x; refine And.intro ?_ ?_ <;> (intros; subst_vars; rfl)))
            | fail
          rw [← uX_zero P (Bs.getD (j + 1) default) rest i]
          refine sw_loopT (ι := Nat) (fun x => [(54, .int .i64 x), (7, .sl (.own 65000 22 1) ((uX P (Bs.getD (j + 1) default) rest i x).map IntsD))]) (fun _ => []) (fun _ => [65000]) (fun x => x ≤ rest.length) (fun x => rest.length - x) 0 (by (refine covers_mk0 rfl rfl ?_ ?_ ?_ ?_ <;> simp (disch := (refine Om.mk ?_; omega)) only [go_sem] <;> (try omega)); all_goals first | rfl | exact ⟨rfl, rfl⟩ | trace_state) (by omega) (fun x hx => ?_)
          simp (disch := (refine Om.mk ?_; omega)) only [go_sem]
          have hXl := hX i x hil hx
          by_cases hxl : x < rest.length
          · have hrx := hrl _ (getD_memG hxl)
            have hst := uX_step (P := P) (ts := Bs.getD (j + 1) default) (rest := rest) (i := i) hxl
            have cC := concatQ_fc .full [List.getD (Bs.getD (j + 1) default) i default, rest.getD x default] (by simp) (by simp only [List.flatten_cons, List.flatten_nil, List.length_append, List.length_nil]; omega)
            simp only [List.flatten_cons, List.flatten_nil, List.append_nil] at cC
            repeat' first
              | ((exfalso; omega))
              | ((refine ⟨by omega, by omega, ?_⟩))
              | exact Bool.noConfusion h
              | refine sw_seq ?_
              | refine sw_block ?_
              | refine sw_skip ?_
              | refine sw_inBlock ?_
              | refine sw_go 0 kp28 fun K hK => ?_
              | refine fun (K : List Oper → LS → Prop) (hK : KOk S 0 _ _ _ K) => ?_
              | ((first | refine runL_go ?_ | refine runQ_go ?_); simp (disch := (refine Om.mk ?_; omega)) only [go_sem])
              | (refine hK.nil ?_; clear hK K; simp only [go_sem])
              | (refine sw_cond rfl (fun h => ?_) (fun h => ?_) <;> (try simp (disch := (refine Om.mk ?_; omega)) only [go_sem] at h))
              | (refine sw_exit rfl ?_)
              | (refine sw_loopEnd ?_)
              | ((first | refine sw_ret (ret0 ?_) | refine sw_ret ?_); simp (disch := (refine Om.mk ?_; omega)) only [go_sem, Try.results28])
              | refine hK.call rfl rfl rfl (cC) ⟨(by intro p hp; cases hp), rfl, rfl, (by simp only [dstOk, Nat.reduceLT])⟩ ?_
              | (with_reducible refine And.intro (by first | omega | (simp only [List.length_append, List.length_take, List.length_drop, List.length_cons, List.length_nil, List.length_map]; omega)) ?_)
              | ((with_reducible refine And.intro ?_ ?_); · first | (intro x hx; subst hx; rfl) | exact upR_mem fun _ _ => rfl | exact mapR_mem fun _ _ => rfl | (intro x; refine And.intro ?_ ?_ <;> (intros; subst_vars; rfl)))
              | fail
            exact ⟨x + 1, (by (refine covers_mk0 rfl rfl ?_ ?_ ?_ ?_ <;> simp (disch := (refine Om.mk ?_; omega)) only [go_sem] <;> (try omega)); rw [hst]; all_goals first | (simp [IntsD]; done) | (simp [IntsD]; omega) | trace_state), by omega, by omega⟩
          · obtain rfl : x = rest.length := by omega
            rw [uX_end hil]
            repeat' first
              | ((exfalso; omega))
              | exact Bool.noConfusion h
              | refine sw_seq ?_
              | refine sw_block ?_
              | refine sw_skip ?_
              | refine sw_inBlock ?_
              | refine sw_go 0 kp28 fun K hK => ?_
              | refine fun (K : List Oper → LS → Prop) (hK : KOk S 0 _ _ _ K) => ?_
              | ((first | refine runL_go ?_ | refine runQ_go ?_); simp (disch := (refine Om.mk ?_; omega)) only [go_sem])
              | (refine hK.nil ?_; clear hK K; simp only [go_sem])
              | (refine sw_cond rfl (fun h => ?_) (fun h => ?_) <;> (try simp (disch := (refine Om.mk ?_; omega)) only [go_sem] at h))
              | (refine sw_exit rfl ?_)
              | (refine sw_loopEnd ?_)
              | ((first | refine sw_ret (ret0 ?_) | refine sw_ret ?_); simp (disch := (refine Om.mk ?_; omega)) only [go_sem, Try.results28])
              | (with_reducible refine And.intro (by first | omega | (simp only [List.length_append, List.length_take, List.length_drop, List.length_cons, List.length_nil, List.length_map]; omega)) ?_)
              | ((with_reducible refine And.intro ?_ ?_); · first | (intro x hx; subst hx; rfl) | exact upR_mem fun _ _ => rfl | exact mapR_mem fun _ _ => rfl | (intro x; refine And.intro ?_ ?_ <;> (intros; subst_vars; rfl)))
              | fail
            exact ⟨i + 1, (by (refine covers_mk0 rfl rfl ?_ ?_ ?_ ?_ <;> simp (disch := (refine Om.mk ?_; omega)) only [go_sem] <;> (try omega))), by omega, by omega⟩
        · obtain rfl : i = (Bs.getD (j + 1) default).length := by omega
          rw [hue]
          repeat' first
            | ((exfalso; omega))
            | exact Bool.noConfusion h
            | refine sw_seq ?_
            | refine sw_block ?_
            | refine sw_skip ?_
            | refine sw_inBlock ?_
            | refine sw_go 0 kp28 fun K hK => ?_
            | refine fun (K : List Oper → LS → Prop) (hK : KOk S 0 _ _ _ K) => ?_
            | ((first | refine runL_go ?_ | refine runQ_go ?_); simp (disch := (refine Om.mk ?_; omega)) only [go_sem])
            | (refine hK.nil ?_; clear hK K; simp only [go_sem])
            | (refine sw_cond rfl (fun h => ?_) (fun h => ?_) <;> (try simp (disch := (refine Om.mk ?_; omega)) only [go_sem] at h))
            | (refine sw_exit rfl ?_)
            | (refine sw_loopEnd ?_)
            | ((first | refine sw_ret (ret0 ?_) | refine sw_ret ?_); simp (disch := (refine Om.mk ?_; omega)) only [go_sem, Try.results28])
            | (with_reducible refine And.intro (by first | omega | (simp only [List.length_append, List.length_take, List.length_drop, List.length_cons, List.length_nil, List.length_map]; omega)) ?_)
            | ((with_reducible refine And.intro ?_ ?_); · first | (intro x hx; subst hx; rfl) | exact upR_mem fun _ _ => rfl | exact mapR_mem fun _ _ => rfl | (intro x; refine And.intro ?_ ?_ <;> (intros; subst_vars; rfl)))
            | fail
          exact ⟨j + 1, (by (refine covers_mk0 rfl rfl ?_ ?_ ?_ ?_ <;> simp (disch := (refine Om.mk ?_; omega)) only [go_sem] <;> (try omega))), by omega, by omega⟩
    · obtain rfl : j = n - a := by omega
      repeat' first
        | ((exfalso; omega))
        | exact Bool.noConfusion h
        | refine sw_seq ?_
        | refine sw_block ?_
        | refine sw_skip ?_
        | refine sw_inBlock ?_
        | refine sw_go 0 kp28 fun K hK => ?_
        | refine fun (K : List Oper → LS → Prop) (hK : KOk S 0 _ _ _ K) => ?_
        | ((first | refine runL_go ?_ | refine runQ_go ?_); simp (disch := (refine Om.mk ?_; omega)) only [go_sem])
        | (refine hK.nil ?_; clear hK K; simp only [go_sem])
        | (refine sw_cond rfl (fun h => ?_) (fun h => ?_) <;> (try simp (disch := (refine Om.mk ?_; omega)) only [go_sem] at h))
        | (refine sw_exit rfl ?_)
        | (refine sw_loopEnd ?_)
        | ((first | refine sw_ret (ret0 ?_) | refine sw_ret ?_); simp (disch := (refine Om.mk ?_; omega)) only [go_sem, Try.results28])
        | (with_reducible refine And.intro (by first | omega | (simp only [List.length_append, List.length_take, List.length_drop, List.length_cons, List.length_nil, List.length_map]; omega)) ?_)
        | ((with_reducible refine And.intro ?_ ?_); · first | (intro x hx; subst hx; rfl) | exact upR_mem fun _ _ => rfl | exact mapR_mem fun _ _ => rfl | (intro x; refine And.intro ?_ ?_ <;> (intros; subst_vars; rfl)))
        | fail
      all_goals first | rfl | trace_state
end Go.Proofs.Ytldlochhiiogbaa
