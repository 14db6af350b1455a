/-
  Ground terms by their lengths: the program's GroundsOf.
-/
import Derived.Test.YtldlochhiiogbaaG25i
import Derived.Test.YtldlochhiiogbaaG25t
import Derived.Test.YtldlochhiiogbaaA28c
import Derived.Test.YtldlochhiiogbaaA28m
import Derived.Test.YtldlochhiiogbaaLgK13
import Derived.Test.YtldlochhiiogbaaLgK7
namespace Go.Lg
open Go
/-- cells of a box that are known to be something weaker -/
theorem sw_boxRel {S : Setup} {B : Base} {R : LS → Prop} {k : List VItem} {L : LS} (id : Nat) {cs : List D} (cs' : List D) (hb : look L.boxes id = some cs) (hl : cs'.length = cs.length) (hle : ∀ (j : Nat) c d, cs[j]? = some c → cs'[j]? = some d → ∀ G w v, Rel G w c v → Rel G w d v) (hh : SW S B R k { L with boxes := setA L.boxes id cs' }) : SW S B R k L := fun G a w hs => by
  refine hh G a w ⟨hs.defers, hs.size, hs.env, { hs.W with boxes := fun i c hi => ?_ }, hs.fixed⟩
  simp only [look_setA] at hi
  by_cases e : id = i
  · subst e
    simp only [if_true, Option.some.injEq] at hi
    subst hi
    obtain ⟨g, h1, ⟨vs, e, h2, h3, h4⟩, h5⟩ := hs.W.boxes _ _ hb
    refine ⟨g, h1, ⟨vs, e, h2, by omega, fun j d v hd hv => ?_⟩, h5⟩
    have hj : j < cs.length := by have := (List.getElem?_eq_some_iff.1 hd).1; omega
    exact hle j _ d (List.getElem?_eq_getElem hj) hd _ _ _ (h4 j _ v (List.getElem?_eq_getElem hj) hv)
  · rw [if_neg e] at hi
    exact hs.W.boxes _ _ hi
theorem rel_labDeep {G : Ghost} {w : World} {l : List Nat} {xs ys : List D} {v : Value} (hle : D.le (.sl .any xs) (.sl .any ys)) (hl : xs.length = ys.length) (h : Rel G w (.sl (.lab l) xs) v) : Rel G w (.sl (.lab l) ys) v := by
  have h2 := Rel.le hle (Rel.le .any h)
  cases h with
  | sl hn hc hm ht hA hu hk hst hr =>
    cases h2 with
    | sl hn' hc' hm' ht' hA' hu' hk' hst' hr' =>
      refine .sl hn' hc' hm' ?_ hA' hu' hk' hst' hr'
      rcases ht with ht | ht
      · subst ht
        exact .inl (List.length_eq_zero_iff.1 hl.symm)
      · exact .inr ht
def Stp (p : Prop) : Prop := p
theorem stop_at {S : Setup} {B : Base} {R : LS → Prop} {k : List VItem} {L : LS} (id : Nat) {ops : Array Oper} {dr : Bool} (h : Stp (SW S B R (.code (.region id ops dr) :: k) L)) : SW S B R (.code (.region id ops dr) :: k) L := h
end Go.Lg
namespace Go.Proofs.Ytldlochhiiogbaa
open Go Go.Lg
set_option linter.unusedSimpArgs false
set_option linter.unusedVariables false
set_option maxHeartbeats 4000000
attribute [local irreducible] SW runL runQ runG runQG FC Ret1 toF redoL Stp
attribute [local irreducible] cut rowJ rowU uI uX cellsG
attribute [local go_sem] cells_at cells_cur cells_set cells_pu cells_tks cells_ids
theorem cellsG_len (Bs : List Tms) (cur : D) (k : Nat) : (cellsG Bs cur k).length = 61 := by unfold cellsG; simp
theorem cellsG_get {Bs : List Tms} {cur : D} {k j : Nat} {d : D} (h : (cellsG Bs cur k)[j]? = some d) : j < 61 ∧ d = cellG Bs cur k j := by
  have hj : j < 61 := by have := (List.getElem?_eq_some_iff.1 h).1; rwa [cellsG_len] at this
  refine ⟨hj, ?_⟩
  unfold cellsG at h
  rw [List.getElem?_map, List.getElem?_range hj] at h
  exact (Option.some.inj h).symm
theorem cellsG_at {Bs : List Tms} {cur : D} {k : Nat} (h : k < 61) : (cellsG Bs cur k)[k]? = some cur := by
  unfold cellsG
  rw [List.getElem?_map, List.getElem?_range h]
  simp [cellG]
theorem catI_mono (rs : List Int) (Bs : List Tms) (m j : Nat) : ∀ d, (catJ id rs Bs m j).length ≤ (catJ id rs Bs m (j + d)).length
  | 0 => Nat.le_refl _
  | d + 1 => by
    have := catI_mono rs Bs m j d
    rw [← Nat.add_assoc, catJ_succ, List.length_append]
    omega
theorem count_cut {rs : List Int} {Bs : List Tms} {k f : Nat} : ((catJ cut rs Bs k f).length : Int) + ((min (rowU Bs (rs.getD f default).toNat k).length 201 : Nat) : Int) = ((catJ cut rs Bs k (f + 1)).length : Int) := by
  rw [catJ_succ, List.length_append, List.length_map, cut_len]
  omega
theorem cells_tksA (Bs : List Tms) (ys : List D) (k : Nat) : D.tksL (cellsG Bs (.sl .any ys) k) = [] := by
  unfold cellsG
  rw [tks_part]
  split <;> rfl
attribute [local go_sem] cellsG_len
theorem safe_ints {k : Nat} {tk : List Nat} {q : Tk × List Int} (h : ∃ l, q.1 = .lab l) : (intsT q).safe k tk = true := by
  obtain ⟨l, e⟩ := h
  show (D.sl q.1 (q.2.map (.int .i64))).safe k tk = true
  rw [e]
  exact safeL_of fun d hd => by obtain ⟨x, _, rfl⟩ := List.mem_map.1 hd; rfl
theorem safe_lev {k : Nat} {tk : List Nat} (l : Tms) : (LevI l).safe k tk = true :=
  safeL_of fun d hd => by obtain ⟨x, _, rfl⟩ := List.mem_map.1 hd; exact scaL_ints x .i64
theorem safe_cell {k : Nat} {tk : List Nat} {Bs : List Tms} {cur : D} {c j : Nat} (h : j ≠ c) : (cellG Bs cur c j).safe k tk = true := by
  unfold cellG
  rw [if_neg h]
  split
  · exact safe_lev _
  · rfl
theorem lev_weak {G : Ghost} {w : World} {v : Value} {qs : List (Tk × List Int)} {l : Tms} (he : qs.map (·.2) = l) (h : Rel G w (.sl (.lab [1]) (qs.map intsT)) v) : Rel G w (LevI l) v := by
  subst he
  refine rel_labDeep (.deep ?_ ?_ ?_) (by simp) h
  · simp only [List.map_map]; rfl
  · have e1 : ∀ xs : List D, (∀ x ∈ xs, x.cells = [x]) → flat xs = xs := fun xs hx => by
      induction xs with
      | nil => rfl
      | cons x r ih => simp only [flat, List.flatMap_cons, hx x List.mem_cons_self]; exact congrArg (x :: ·) (ih fun y hy => hx y (List.mem_cons_of_mem _ hy))
    rw [e1 _ (fun x hx => by obtain ⟨q, _, rfl⟩ := List.mem_map.1 hx; rfl), e1 _ (fun x hx => by obtain ⟨q, _, rfl⟩ := List.mem_map.1 hx; rfl)]
    simp
  · intro j c d hc hd
    have e1 : ∀ xs : List D, (∀ x ∈ xs, x.cells = [x]) → flat xs = xs := fun xs hx => by
      induction xs with
      | nil => rfl
      | cons x r ih => simp only [flat, List.flatMap_cons, hx x List.mem_cons_self]; exact congrArg (x :: ·) (ih fun y hy => hx y (List.mem_cons_of_mem _ hy))
    rw [e1 _ (fun x hx => by obtain ⟨q, _, rfl⟩ := List.mem_map.1 hx; rfl)] at hc
    rw [e1 _ (fun x hx => by obtain ⟨q, _, rfl⟩ := List.mem_map.1 hx; rfl)] at hd
    rw [List.getElem?_map, Option.map_eq_some_iff] at hc
    obtain ⟨q, hq, rfl⟩ := hc
    rw [List.getElem?_map, List.getElem?_map, hq] at hd
    obtain rfl := Option.some.inj hd
    exact .any
theorem lbc_lbs (N : Nat) (xs : Tms) : lbc N 0 xs = lbs N id xs xs.length := by
  have : ∀ i ≤ xs.length, lbc N 0 (xs.take i) = lbs N id xs i := by
    intro i
    induction i with
    | zero => intro _; rw [List.take_zero]; rfl
    | succ i ih =>
      intro hi
      rw [take_snocG (by omega), lbc_one, ih (by omega), lbs_succ, List.length_take, Nat.min_eq_left (by omega), Nat.zero_add]
      rfl
  have h := this xs.length (Nat.le_refl _)
  rwa [List.take_length] at h
def kp8 : List (Nat × List Nat) := [(0, [1, 2]), (1, [1, 2, 26]), (2, [4, 5]), (3, [1, 2, 6]), (4, [1, 2, 6, 7]), (5, [1, 2, 6, 7, 8]), (6, [1, 2, 6, 7, 8, 29]), (8, [1, 2, 6, 7, 8, 9]), (9, [1, 2, 6, 7, 8, 9, 35, 36, 37]), (10, [1, 2, 6, 7, 8, 9, 35, 36, 37, 38]), (11, [1, 2, 6, 7, 8, 9, 11, 35, 36, 37]), (12, [1, 2, 6, 7, 8, 9, 35, 36, 37]), (13, [1, 2, 6, 7, 8, 9, 35, 36, 37]), (14, [1, 2, 6, 7, 8, 49]), (15, [4, 5]), (16, [1, 2, 6, 7, 8, 51, 52, 53]), (17, [1, 2, 6, 7, 8, 51, 52, 53, 54]), (18, [1, 2, 6, 7, 8, 12, 13, 51, 52, 53]), (19, [1, 2, 6, 7, 8, 12, 51, 52, 53, 61, 62, 63]), (20, [1, 2, 6, 7, 8, 12, 51, 52, 53, 61, 62, 63, 64]), (21, [1, 2, 6, 7, 8, 12, 15, 51, 52, 53, 61, 62, 63]), (22, [1, 2, 6, 7, 8, 12, 51, 52, 53, 61, 62, 63]), (23, [1, 2, 6, 7, 8, 12, 51, 52, 53, 61, 62, 63]), (24, [1, 2, 6, 7, 8, 51, 52, 53]), (25, [1, 2, 6, 7, 8]), (26, [1, 2, 6, 7, 8]), (7, [1, 2, 6, 7, 8]), (27, [4, 5])]
attribute [go_sem] kp8
theorem implGroundsOf_fc (hkit : SortKit S.P 30 31) (p : List Nat) (hp : p ≠ []) (rs : List Int) (n : Int) : FC S 8 [] [] [] [.agg [.sl .any (rs.map (.int .i64))], .int .i64 n] (.tup [Int64SSL p (grR rs n), .bool (tst (GrP rs n))]) [] [] := by
  by_cases hs : SigOkP rs ∧ (1 ≤ n ∧ n ≤ 60)
  · obtain ⟨m, rfl⟩ : ∃ m : Nat, n = m := ⟨n.toNat, by omega⟩
    have hr8 := hs.1.1.2
    skip
    refine fc_bodyF Try.func8 rfl (by kernel_rfl) (by simp [Try.f8]) fun B N hOff => ?_
    simp only [Try.ntmps8, enumD, List.map_nil, List.map_cons, List.length_map, Nat.zero_add, Nat.reduceAdd]
    repeat' first
      | ((exfalso; omega))
      | ((exfalso; exact absurd hs.1 (by assumption)))
      | ((refine stop_at 4 ?_))
      | exact Bool.noConfusion h
      | refine sw_seq ?_
      | refine sw_block ?_
      | refine sw_skip ?_
      | refine sw_inBlock ?_
      | refine sw_go 0 kp8 fun K hK => ?_
      | refine sw_goT 0 kp8 10 (id := 22) (by kernel_rfl) fun K hK => ?_
      | refine fun (K : List Oper → LS → Prop) (hK : KOk S 0 _ _ _ K) => ?_
      | refine sw_goD kp8 (by kernel_rfl) fun K hK => ?_
      | ((first | refine runL_go ?_ | refine runQ_go ?_); simp (disch := (refine Om.mk ?_; omega)) only [go_sem])
      | (refine hK.nil ?_; clear hK K; simp only [go_sem])
      | (refine runG_fork rfl rfl rfl rfl rfl (fun h => ?_) (fun h => ?_) <;> (try simp (disch := (refine Om.mk ?_; omega)) only [go_sem] at h))
      | (refine runQG_fork rfl rfl rfl rfl rfl (fun h => ?_) (fun h => ?_) <;> (try simp (disch := (refine Om.mk ?_; omega)) only [go_sem] at h))
      | (refine hK.skip rfl (by simp only [dstOk, Nat.reduceLT]) ?_)
      | (refine sw_cond rfl (fun h => ?_) (fun h => ?_) <;> (try simp (disch := (refine Om.mk ?_; omega)) only [go_sem] at h))
      | (refine sw_exit rfl ?_)
      | (refine sw_loopEnd ?_)
      | ((first | refine sw_ret (ret0 ?_) | refine sw_ret ?_); simp (disch := (refine Om.mk ?_; omega)) only [go_sem, Try.results8])
      | refine hK.call rfl rfl rfl (implSigOk_fc _ _) ⟨(by intro p hp; cases hp), rfl, rfl, (by simp only [dstOk, Nat.reduceLT])⟩ ?_
      | (refine hK.fork rfl rfl rfl (fun h => ?_) (fun h => ?_) <;> (try simp (disch := (refine Om.mk ?_; omega)) only [go_sem] at h))
      | (with_reducible refine And.intro (by first | omega | (simp only [List.length_append, List.length_take, List.length_drop, List.length_cons, List.length_nil, List.length_map]; omega)) ?_)
      | ((with_reducible refine And.intro ?_ ?_); · first | (intro x hx; subst hx; rfl) | exact upR_mem fun _ _ => rfl | exact mapR_mem fun _ _ => rfl | (intro x; refine And.intro ?_ ?_ <;> (intros; subst_vars; rfl)))
      | fail
    all_goals try exact absurd hs.1 (by assumption)
    unfold Stp
    refine sw_boxRel 6 (cellsG [[]] (.sl .nil []) 1) rfl (by rw [cellsG_len]; rfl) (fun j c d hc hd G w v hv => ?_) ?_
    · obtain ⟨hj, rfl⟩ := cellsG_get hd
      have hc : c = .sl .nil [] := by
        have hm := List.mem_of_getElem? hc
        simp only [List.mem_cons, List.not_mem_nil, or_false, or_self] at hm
        exact hm
      subst hc
      unfold cellG
      split
      · exact hv
      · split
        · have e : j = 0 := by omega
          subst e
          exact Rel.le .emp hv
        · exact hv
    simp (disch := (refine Om.mk ?_; omega)) only [go_sem]
    repeat' first
      | ((exfalso; omega))
      | exact Bool.noConfusion h
      | refine sw_seq ?_
      | refine sw_block ?_
      | refine sw_skip ?_
      | refine sw_inBlock ?_
      | refine sw_go 0 kp8 fun K hK => ?_
      | refine sw_goT 0 kp8 10 (id := 22) (by kernel_rfl) fun K hK => ?_
      | refine fun (K : List Oper → LS → Prop) (hK : KOk S 0 _ _ _ K) => ?_
      | refine sw_goD kp8 (by kernel_rfl) fun K hK => ?_
      | ((first | refine runL_go ?_ | refine runQ_go ?_); simp (disch := (refine Om.mk ?_; omega)) only [go_sem])
      | (refine hK.nil ?_; clear hK K; simp only [go_sem])
      | (refine runG_fork rfl rfl rfl rfl rfl (fun h => ?_) (fun h => ?_) <;> (try simp (disch := (refine Om.mk ?_; omega)) only [go_sem] at h))
      | (refine runQG_fork rfl rfl rfl rfl rfl (fun h => ?_) (fun h => ?_) <;> (try simp (disch := (refine Om.mk ?_; omega)) only [go_sem] at h))
      | (refine hK.skip rfl (by simp only [dstOk, Nat.reduceLT]) ?_)
      | (refine sw_cond rfl (fun h => ?_) (fun h => ?_) <;> (try simp (disch := (refine Om.mk ?_; omega)) only [go_sem] at h))
      | (refine sw_exit rfl ?_)
      | (refine sw_loopEnd ?_)
      | ((first | refine sw_ret (ret0 ?_) | refine sw_ret ?_); simp (disch := (refine Om.mk ?_; omega)) only [go_sem, Try.results8])
      | (refine hK.fork rfl rfl rfl (fun h => ?_) (fun h => ?_) <;> (try simp (disch := (refine Om.mk ?_; omega)) only [go_sem] at h))
      | (with_reducible refine And.intro (by first | omega | (simp only [List.length_append, List.length_take, List.length_drop, List.length_cons, List.length_nil, List.length_map]; omega)) ?_)
      | ((with_reducible refine And.intro ?_ ?_); · first | (intro x hx; subst hx; rfl) | exact upR_mem fun _ _ => rfl | exact mapR_mem fun _ _ => rfl | (intro x; refine And.intro ?_ ?_ <;> (intros; subst_vars; rfl)))
      | fail
    refine sw_tok 7 90000 22 1 rfl (.inl rfl) (by simp (disch := (refine Om.mk ?_; omega)) [LS.purge, LS.clean, mapA, D.pu, D.pu1, D.tks, D.tksL, cells_pu, cells_tks]) ?_
    simp (disch := (refine Om.mk ?_; omega)) only [go_sem]
    refine sw_loopT (ι := Nat × List (Tk × List Int)) (fun x => [(8, .int .i64 (x.1 + 1)), (7, .sl (.own 90000 22 1) (x.2.map intsT))]) (fun x => [(6, cellsG (bl rs x.1) (.sl .nil []) (x.1 + 1))]) (fun _ => [90000]) (fun x => (x.1 ≤ m ∧ (allG rs x.1).length ≤ 200) ∧ x.2.Perm (lbc N 0 (catA rs x.1)) ∧ x.2.map (·.2) = allG rs x.1) (fun x => m - x.1) (0, []) (by (refine covers_mk0 rfl rfl ?_ ?_ ?_ ?_ <;> simp (disch := (refine Om.mk ?_; omega)) only [go_sem] <;> (try omega)); all_goals first | exact rfl | exact ⟨rfl, rfl⟩ | exact ⟨rfl, rfl, rfl⟩ | trace_state) ⟨⟨by omega, by rw [allG_zero]; simp⟩, .nil, rfl⟩ (fun x hx => ?_)
    obtain ⟨k, qa⟩ := x
    obtain ⟨⟨hk, hal⟩, hq1, hq2⟩ := hx
    dsimp only at hk hal hq1 hq2
    simp (disch := (refine Om.mk ?_; omega)) only [go_sem]
    have hqn : qa.length = (allG rs k).length := by rw [← hq2, List.length_map]
    by_cases hkm : k < m
    · have hB := bl_term rs k
      have hB2 : ∀ j, (lv (bl rs k) j).length ≤ 200 := fun j => level_le hal j
      have hbl := bl_len rs k
      repeat' first
        | ((exfalso; omega))
        | exact Bool.noConfusion h
        | refine sw_seq ?_
        | refine sw_block ?_
        | refine sw_skip ?_
        | refine sw_inBlock ?_
        | refine sw_go 0 kp8 fun K hK => ?_
        | refine sw_goT 0 kp8 10 (id := 22) (by kernel_rfl) fun K hK => ?_
        | refine fun (K : List Oper → LS → Prop) (hK : KOk S 0 _ _ _ K) => ?_
        | refine sw_goD kp8 (by kernel_rfl) fun K hK => ?_
        | ((first | refine runL_go ?_ | refine runQ_go ?_); simp (disch := (refine Om.mk ?_; omega)) only [go_sem])
        | (refine hK.nil ?_; clear hK K; simp only [go_sem])
        | (refine runG_fork rfl rfl rfl rfl rfl (fun h => ?_) (fun h => ?_) <;> (try simp (disch := (refine Om.mk ?_; omega)) only [go_sem] at h))
        | (refine runQG_fork rfl rfl rfl rfl rfl (fun h => ?_) (fun h => ?_) <;> (try simp (disch := (refine Om.mk ?_; omega)) only [go_sem] at h))
        | (refine hK.skip rfl (by simp only [dstOk, Nat.reduceLT]) ?_)
        | (refine sw_cond rfl (fun h => ?_) (fun h => ?_) <;> (try simp (disch := (refine Om.mk ?_; omega)) only [go_sem] at h))
        | (refine sw_exit rfl ?_)
        | (refine sw_loopEnd ?_)
        | ((first | refine sw_ret (ret0 ?_) | refine sw_ret ?_); simp (disch := (refine Om.mk ?_; omega)) only [go_sem, Try.results8])
        | (refine hK.fork rfl rfl rfl (fun h => ?_) (fun h => ?_) <;> (try simp (disch := (refine Om.mk ?_; omega)) only [go_sem] at h))
        | (with_reducible refine And.intro (by first | omega | (simp only [List.length_append, List.length_take, List.length_drop, List.length_cons, List.length_nil, List.length_map]; omega)) ?_)
        | ((with_reducible refine And.intro ?_ ?_); · first | (intro x hx; subst hx; rfl) | exact upR_mem fun _ _ => rfl | exact mapR_mem fun _ _ => rfl | (intro x; refine And.intro ?_ ?_ <;> (intros; subst_vars; rfl)))
        | fail
      refine sw_loopT (ι := Nat) (fun f => [(37, .int .i64 f), (9, .int .i64 (((allG rs k).length : Int) + (catJ cut rs (bl rs k) k f).length))]) (fun _ => []) (fun _ => [90000]) (fun f => f ≤ rs.length) (fun f => rs.length - f) 0 (by (refine covers_mk0 rfl rfl ?_ ?_ ?_ ?_ <;> simp (disch := (refine Om.mk ?_; omega)) only [go_sem] <;> (try omega)); all_goals first | (rw [catJ_zero]; simp; omega) | trace_state) (by omega) (fun f hf => ?_)
      simp (disch := (refine Om.mk ?_; omega)) only [go_sem]
      by_cases hfl : f < rs.length
      · have har := hs.1.2 f hfl
        have hcs := @count_cut rs (bl rs k) k f
        have hcl := catC_len hs.1 (bl rs k) k (j := f + 1) (by omega)
        have cC := fun (A M : Int) hA hM => count_fc 6 (bl rs k) (.sl .nil []) (k + 1) (by omega) hB2 (rs.getD f default).toNat k A M hA hM (by omega) (by omega)
        generalize ((min (rowU (bl rs k) (rs.getD f default).toNat k).length 201 : Nat) : Int) = c0 at cC hcs
        repeat' first
          | ((exfalso; omega))
          | exact Bool.noConfusion h
          | refine sw_seq ?_
          | refine sw_block ?_
          | refine sw_skip ?_
          | refine sw_inBlock ?_
          | refine sw_go 0 kp8 fun K hK => ?_
          | refine sw_goT 0 kp8 10 (id := 22) (by kernel_rfl) fun K hK => ?_
          | refine fun (K : List Oper → LS → Prop) (hK : KOk S 0 _ _ _ K) => ?_
          | refine sw_goD kp8 (by kernel_rfl) fun K hK => ?_
          | ((first | refine runL_go ?_ | refine runQ_go ?_); simp (disch := (refine Om.mk ?_; omega)) only [go_sem])
          | (refine hK.nil ?_; clear hK K; simp only [go_sem])
          | (refine runG_fork rfl rfl rfl rfl rfl (fun h => ?_) (fun h => ?_) <;> (try simp (disch := (refine Om.mk ?_; omega)) only [go_sem] at h))
          | (refine runQG_fork rfl rfl rfl rfl rfl (fun h => ?_) (fun h => ?_) <;> (try simp (disch := (refine Om.mk ?_; omega)) only [go_sem] at h))
          | (refine hK.skip rfl (by simp only [dstOk, Nat.reduceLT]) ?_)
          | (refine sw_cond rfl (fun h => ?_) (fun h => ?_) <;> (try simp (disch := (refine Om.mk ?_; omega)) only [go_sem] at h))
          | (refine sw_exit rfl ?_)
          | (refine sw_loopEnd ?_)
          | ((first | refine sw_ret (ret0 ?_) | refine sw_ret ?_); simp (disch := (refine Om.mk ?_; omega)) only [go_sem, Try.results8])
          | refine hK.call rfl rfl rfl (cC _ _ (by omega) (by omega)) ⟨(by simp [LS.getBox, Lg.look]), rfl, rfl, (by simp only [dstOk, Nat.reduceLT])⟩ ?_
          | (refine hK.fork rfl rfl rfl (fun h => ?_) (fun h => ?_) <;> (try simp (disch := (refine Om.mk ?_; omega)) only [go_sem] at h))
          | (with_reducible refine And.intro (by first | omega | (simp only [List.length_append, List.length_take, List.length_drop, List.length_cons, List.length_nil, List.length_map]; omega)) ?_)
          | ((with_reducible refine And.intro ?_ ?_); · first | (intro x hx; subst hx; rfl) | exact upR_mem fun _ _ => rfl | exact mapR_mem fun _ _ => rfl | (intro x; refine And.intro ?_ ?_ <;> (intros; subst_vars; rfl)))
          | fail
        exact ⟨f + 1, (by rw [← hcs]; (refine covers_mk0 rfl rfl ?_ ?_ ?_ ?_ <;> simp (disch := (refine Om.mk ?_; omega)) only [go_sem] <;> (try omega))), by omega, by omega⟩
      · obtain rfl : f = rs.length := by omega
        repeat' first
          | ((exfalso; omega))
          | ((refine stop_at 16 ?_))
          | exact Bool.noConfusion h
          | refine sw_seq ?_
          | refine sw_block ?_
          | refine sw_skip ?_
          | refine sw_inBlock ?_
          | refine sw_go 0 kp8 fun K hK => ?_
          | refine sw_goT 0 kp8 10 (id := 22) (by kernel_rfl) fun K hK => ?_
          | refine fun (K : List Oper → LS → Prop) (hK : KOk S 0 _ _ _ K) => ?_
          | refine sw_goD kp8 (by kernel_rfl) fun K hK => ?_
          | ((first | refine runL_go ?_ | refine runQ_go ?_); simp (disch := (refine Om.mk ?_; omega)) only [go_sem])
          | (refine hK.nil ?_; clear hK K; simp only [go_sem])
          | (refine runG_fork rfl rfl rfl rfl rfl (fun h => ?_) (fun h => ?_) <;> (try simp (disch := (refine Om.mk ?_; omega)) only [go_sem] at h))
          | (refine runQG_fork rfl rfl rfl rfl rfl (fun h => ?_) (fun h => ?_) <;> (try simp (disch := (refine Om.mk ?_; omega)) only [go_sem] at h))
          | (refine hK.skip rfl (by simp only [dstOk, Nat.reduceLT]) ?_)
          | (refine sw_cond rfl (fun h => ?_) (fun h => ?_) <;> (try simp (disch := (refine Om.mk ?_; omega)) only [go_sem] at h))
          | (refine sw_exit rfl ?_)
          | (refine sw_loopEnd ?_)
          | ((first | refine sw_ret (ret0 ?_) | refine sw_ret ?_); simp (disch := (refine Om.mk ?_; omega)) only [go_sem, Try.results8])
          | (refine hK.fork rfl rfl rfl (fun h => ?_) (fun h => ?_) <;> (try simp (disch := (refine Om.mk ?_; omega)) only [go_sem] at h))
          | (with_reducible refine And.intro (by first | omega | (simp only [List.length_append, List.length_take, List.length_drop, List.length_cons, List.length_nil, List.length_map]; omega)) ?_)
          | ((with_reducible refine And.intro ?_ ?_); · first | (intro x hx; subst hx; rfl) | exact upR_mem fun _ _ => rfl | exact mapR_mem fun _ _ => rfl | (intro x; refine And.intro ?_ ?_ <;> (intros; subst_vars; rfl)))
          | fail
        · have hn := @gr_over rs k m hkm (by rw [srtM_len]; omega)
          rw [grR_no hn]
          exact ⟨by simp [mapR, le0], hn⟩
        have hca : catJ cut rs (bl rs k) k rs.length = catJ id rs (bl rs k) k rs.length := cat_cut _ (by omega)
        have hcl : (allG rs k).length + (catJ id rs (bl rs k) k rs.length).length ≤ 200 := by rw [← hca]; omega
        have hbp : bl rs (k + 1) = bl rs k ++ [srtM (catJ id rs (bl rs k) k rs.length)] := rfl
        generalize hc : (allG rs k).length = c at hcl hqn
        unfold Stp
        refine sw_tokBox 6 (k + 1) 78000 22 1 (cs := cellsG (bl rs k) (.sl .nil []) (k + 1)) (by simp [LS.purge, mapA, Lg.look, cells_pu, D.pu1]) (cellsG_at (by omega)) (by simp (disch := (refine Om.mk ?_; omega)) [LS.purge, LS.clean, mapA, D.pu, D.pu1, D.tks, D.tksL, cells_pu, cells_tks]) ?_
        simp (disch := (refine Om.mk ?_; omega)) only [go_sem]
        repeat' first
          | ((exfalso; omega))
          | exact Bool.noConfusion h
          | refine sw_seq ?_
          | refine sw_block ?_
          | refine sw_skip ?_
          | refine sw_inBlock ?_
          | refine sw_go 0 kp8 fun K hK => ?_
          | refine sw_goT 0 kp8 10 (id := 22) (by kernel_rfl) fun K hK => ?_
          | refine fun (K : List Oper → LS → Prop) (hK : KOk S 0 _ _ _ K) => ?_
          | refine sw_goD kp8 (by kernel_rfl) fun K hK => ?_
          | ((first | refine runL_go ?_ | refine runQ_go ?_); simp (disch := (refine Om.mk ?_; omega)) only [go_sem])
          | (refine hK.nil ?_; clear hK K; simp only [go_sem])
          | (refine runG_fork rfl rfl rfl rfl rfl (fun h => ?_) (fun h => ?_) <;> (try simp (disch := (refine Om.mk ?_; omega)) only [go_sem] at h))
          | (refine runQG_fork rfl rfl rfl rfl rfl (fun h => ?_) (fun h => ?_) <;> (try simp (disch := (refine Om.mk ?_; omega)) only [go_sem] at h))
          | (refine hK.skip rfl (by simp only [dstOk, Nat.reduceLT]) ?_)
          | (refine sw_cond rfl (fun h => ?_) (fun h => ?_) <;> (try simp (disch := (refine Om.mk ?_; omega)) only [go_sem] at h))
          | (refine sw_exit rfl ?_)
          | (refine sw_loopEnd ?_)
          | ((first | refine sw_ret (ret0 ?_) | refine sw_ret ?_); simp (disch := (refine Om.mk ?_; omega)) only [go_sem, Try.results8])
          | (refine hK.fork rfl rfl rfl (fun h => ?_) (fun h => ?_) <;> (try simp (disch := (refine Om.mk ?_; omega)) only [go_sem] at h))
          | (with_reducible refine And.intro (by first | omega | (simp only [List.length_append, List.length_take, List.length_drop, List.length_cons, List.length_nil, List.length_map]; omega)) ?_)
          | ((with_reducible refine And.intro ?_ ?_); · first | (intro x hx; subst hx; rfl) | exact upR_mem fun _ _ => rfl | exact mapR_mem fun _ _ => rfl | (intro x; refine And.intro ?_ ?_ <;> (intros; subst_vars; rfl)))
          | fail
        refine sw_loopT (ι := Nat) (fun f => [(53, .int .i64 f)]) (fun f => [(6, cellsG (bl rs k) (.sl (.own 78000 22 1) ((lbc N c (catJ id rs (bl rs k) k f)).map intsT)) (k + 1))]) (fun _ => [78000, 90000]) (fun f => f ≤ rs.length) (fun f => rs.length - f) 0 (by (refine covers_mk0 rfl rfl ?_ ?_ ?_ ?_ <;> simp (disch := (refine Om.mk ?_; omega)) only [go_sem] <;> (try omega)); all_goals first | exact rfl | exact ⟨rfl, rfl⟩ | trace_state) (by omega) (fun f hf => ?_)
        simp (disch := (refine Om.mk ?_; omega)) only [go_sem]
        by_cases hfl : f < rs.length
        · have har := hs.1.2 f hfl
          have hcs := catJ_succ id rs (bl rs k) k f
          rw [id] at hcs
          have hcl2 := catI_mono rs (bl rs k) k (f + 1) (rs.length - (f + 1))
          rw [show f + 1 + (rs.length - (f + 1)) = rs.length by omega, hcs, List.length_append, List.length_map] at hcl2
          have hrl : ∀ x ∈ rowU (bl rs k) (rs.getD f default).toNat k, x.length = k := fun x hx => rowU_len (bl rs k) hB _ _ x hx
          have cL := fun (ys : List D) (A M : Int) hA hM => lists_fc 6 (bl rs k) ys (k + 1) (by omega) hB hB2 (rs.getD f default).toNat k A M hA hM (by omega) (by omega)
          generalize rowU (bl rs k) (rs.getD f default).toNat k = rows at cL hcs hrl hcl2
          have cL1 := cL ((lbc N c (catJ id rs (bl rs k) k f)).map intsT)
          repeat' first
            | ((exfalso; omega))
            | exact Bool.noConfusion h
            | refine sw_seq ?_
            | refine sw_block ?_
            | refine sw_skip ?_
            | refine sw_inBlock ?_
            | refine sw_go 0 kp8 fun K hK => ?_
            | refine sw_goT 0 kp8 10 (id := 22) (by kernel_rfl) fun K hK => ?_
            | refine fun (K : List Oper → LS → Prop) (hK : KOk S 0 _ _ _ K) => ?_
            | refine sw_goD kp8 (by kernel_rfl) fun K hK => ?_
            | ((first | refine runL_go ?_ | refine runQ_go ?_); simp (disch := (refine Om.mk ?_; omega)) only [go_sem])
            | (refine hK.nil ?_; clear hK K; simp only [go_sem])
            | (refine runG_fork rfl rfl rfl rfl rfl (fun h => ?_) (fun h => ?_) <;> (try simp (disch := (refine Om.mk ?_; omega)) only [go_sem] at h))
            | (refine runQG_fork rfl rfl rfl rfl rfl (fun h => ?_) (fun h => ?_) <;> (try simp (disch := (refine Om.mk ?_; omega)) only [go_sem] at h))
            | (refine hK.skip rfl (by simp only [dstOk, Nat.reduceLT]) ?_)
            | (refine sw_cond rfl (fun h => ?_) (fun h => ?_) <;> (try simp (disch := (refine Om.mk ?_; omega)) only [go_sem] at h))
            | (refine sw_exit rfl ?_)
            | (refine sw_loopEnd ?_)
            | ((first | refine sw_ret (ret0 ?_) | refine sw_ret ?_); simp (disch := (refine Om.mk ?_; omega)) only [go_sem, Try.results8])
            | refine hK.call rfl rfl rfl (cL1 _ _ (by omega) (by omega)) ⟨(by simp [LS.getBox, Lg.look]), rfl, rfl, (by simp only [dstOk, Nat.reduceLT])⟩ ?_
            | (refine hK.fork rfl rfl rfl (fun h => ?_) (fun h => ?_) <;> (try simp (disch := (refine Om.mk ?_; omega)) only [go_sem] at h))
            | (with_reducible refine And.intro (by first | omega | (simp only [List.length_append, List.length_take, List.length_drop, List.length_cons, List.length_nil, List.length_map]; omega)) ?_)
            | ((with_reducible refine And.intro ?_ ?_); · first | (intro x hx; subst hx; rfl) | exact upR_mem fun _ _ => rfl | exact mapR_mem fun _ _ => rfl | (intro x; refine And.intro ?_ ?_ <;> (intros; subst_vars; rfl)))
            | fail
          refine sw_loopT (ι := Nat) (fun i => [(63, .int .i64 i)]) (fun i => [(6, cellsG (bl rs k) (.sl (.own 78000 22 1) ((lbc N c (catJ id rs (bl rs k) k f ++ (rows.take i).map ((f : Int) :: ·))).map intsT)) (k + 1))]) (fun _ => [78000, 90000]) (fun i => i ≤ rows.length) (fun i => rows.length - i) 0 (by (refine covers_mk0 rfl rfl ?_ ?_ ?_ ?_ <;> simp (disch := (refine Om.mk ?_; omega)) only [go_sem] <;> (try omega)); all_goals first | exact rfl | exact ⟨rfl, rfl⟩ | (simp; done) | trace_state) (by omega) (fun i hi => ?_)
          simp (disch := (refine Om.mk ?_; omega)) only [go_sem]
          have hxl : (catJ id rs (bl rs k) k f ++ (rows.take i).map ((f : Int) :: ·)).length = (catJ id rs (bl rs k) k f).length + i := by
            rw [List.length_append, List.length_map, List.length_take, Nat.min_eq_left hi]
          by_cases hil : i < rows.length
          · have hri := hrl _ (getD_memG hil)
            have hsn : catJ id rs (bl rs k) k f ++ (rows.take (i + 1)).map ((f : Int) :: ·) = (catJ id rs (bl rs k) k f ++ (rows.take i).map ((f : Int) :: ·)) ++ [(f : Int) :: rows.getD i default] := by
              rw [take_snocG hil, List.map_append, ← List.append_assoc, List.map_cons, List.map_nil]
            generalize catJ id rs (bl rs k) k f ++ (rows.take i).map ((f : Int) :: ·) = X at hxl hsn
            have hone := lbc_one N c X ((f : Int) :: rows.getD i default)
            have hll := lbc_len N c X
            have cC := concat_fc [N, c + X.length] (by simp) .full [[(f : Int)], rows.getD i default] (by simp) (by simp only [List.flatten_cons, List.flatten_nil, List.length_append, List.length_nil, List.length_cons]; omega)
            simp only [List.flatten_cons, List.flatten_nil, List.append_nil, List.cons_append, List.nil_append] at cC
            repeat' first
              | ((exfalso; omega))
              | ((refine ⟨by simp [cells_tksA]; done, by omega, by omega, ?_⟩))
              | ((refine ⟨by omega, by omega, ?_⟩))
              | exact Bool.noConfusion h
              | refine sw_seq ?_
              | refine sw_block ?_
              | refine sw_skip ?_
              | refine sw_inBlock ?_
              | refine sw_go 0 kp8 fun K hK => ?_
              | (refine sw_goH 0 kp8 10 (id := 22) (by kernel_rfl) (by kernel_rfl) rfl rfl rfl rfl (by simp only [Nat.reduceLT]) rfl fun K hK => ?_; simp only [List.take, List.drop, Lg.LS.put])
              | refine fun (K : List Oper → LS → Prop) (hK : KOk S 0 _ _ _ K) => ?_
              | refine sw_goD kp8 (by kernel_rfl) fun K hK => ?_
              | ((first | refine runL_go ?_ | refine runQ_go ?_); simp (disch := (refine Om.mk ?_; omega)) only [go_sem])
              | (refine hK.nil ?_; clear hK K; simp only [go_sem])
              | (refine runG_fork rfl rfl rfl rfl rfl (fun h => ?_) (fun h => ?_) <;> (try simp (disch := (refine Om.mk ?_; omega)) only [go_sem] at h))
              | (refine runQG_fork rfl rfl rfl rfl rfl (fun h => ?_) (fun h => ?_) <;> (try simp (disch := (refine Om.mk ?_; omega)) only [go_sem] at h))
              | (refine hK.skip rfl (by simp only [dstOk, Nat.reduceLT]) ?_)
              | (refine sw_cond rfl (fun h => ?_) (fun h => ?_) <;> (try simp (disch := (refine Om.mk ?_; omega)) only [go_sem] at h))
              | (refine sw_exit rfl ?_)
              | (refine sw_loopEnd ?_)
              | ((first | refine sw_ret (ret0 ?_) | refine sw_ret ?_); simp (disch := (refine Om.mk ?_; omega)) only [go_sem, Try.results8])
              | (refine sw_nil ?_; simp (disch := (refine Om.mk ?_; omega)) only [go_sem, Try.results8])
              | refine hK.call rfl rfl rfl (cC) ⟨(by intro p hp; cases hp), rfl, rfl, (by simp only [dstOk, Nat.reduceLT])⟩ ?_
              | (refine hK.fork rfl rfl rfl (fun h => ?_) (fun h => ?_) <;> (try simp (disch := (refine Om.mk ?_; omega)) only [go_sem] at h))
              | (with_reducible refine And.intro (by first | omega | (simp only [List.length_append, List.length_take, List.length_drop, List.length_cons, List.length_nil, List.length_map]; omega)) ?_)
              | ((with_reducible refine And.intro ?_ ?_); · first | (intro x hx; subst hx; rfl) | exact upR_mem fun _ _ => rfl | exact mapR_mem fun _ _ => rfl | (intro x; refine And.intro ?_ ?_ <;> (intros; subst_vars; rfl)))
              | fail
            all_goals first | exact ⟨i + 1, (by rw [hsn, hone]; (refine covers_mk0 rfl rfl ?_ ?_ ?_ ?_ <;> simp (disch := (refine Om.mk ?_; omega)) only [go_sem] <;> (try omega)); all_goals first | (rw [List.map_append]; rfl) | (simp; done) | trace_state), by omega, by omega⟩ | trace_state
          · obtain rfl : i = rows.length := by omega
            rw [List.take_length, ← hcs]
            repeat' first
              | ((exfalso; omega))
              | exact Bool.noConfusion h
              | refine sw_seq ?_
              | refine sw_block ?_
              | refine sw_skip ?_
              | refine sw_inBlock ?_
              | refine sw_go 0 kp8 fun K hK => ?_
              | refine sw_goT 0 kp8 10 (id := 22) (by kernel_rfl) fun K hK => ?_
              | refine fun (K : List Oper → LS → Prop) (hK : KOk S 0 _ _ _ K) => ?_
              | refine sw_goD kp8 (by kernel_rfl) fun K hK => ?_
              | ((first | refine runL_go ?_ | refine runQ_go ?_); simp (disch := (refine Om.mk ?_; omega)) only [go_sem])
              | (refine hK.nil ?_; clear hK K; simp only [go_sem])
              | (refine runG_fork rfl rfl rfl rfl rfl (fun h => ?_) (fun h => ?_) <;> (try simp (disch := (refine Om.mk ?_; omega)) only [go_sem] at h))
              | (refine runQG_fork rfl rfl rfl rfl rfl (fun h => ?_) (fun h => ?_) <;> (try simp (disch := (refine Om.mk ?_; omega)) only [go_sem] at h))
              | (refine hK.skip rfl (by simp only [dstOk, Nat.reduceLT]) ?_)
              | (refine sw_cond rfl (fun h => ?_) (fun h => ?_) <;> (try simp (disch := (refine Om.mk ?_; omega)) only [go_sem] at h))
              | (refine sw_exit rfl ?_)
              | (refine sw_loopEnd ?_)
              | ((first | refine sw_ret (ret0 ?_) | refine sw_ret ?_); simp (disch := (refine Om.mk ?_; omega)) only [go_sem, Try.results8])
              | (refine hK.fork rfl rfl rfl (fun h => ?_) (fun h => ?_) <;> (try simp (disch := (refine Om.mk ?_; omega)) only [go_sem] at h))
              | (with_reducible refine And.intro (by first | omega | (simp only [List.length_append, List.length_take, List.length_drop, List.length_cons, List.length_nil, List.length_map]; omega)) ?_)
              | ((with_reducible refine And.intro ?_ ?_); · first | (intro x hx; subst hx; rfl) | exact upR_mem fun _ _ => rfl | exact mapR_mem fun _ _ => rfl | (intro x; refine And.intro ?_ ?_ <;> (intros; subst_vars; rfl)))
              | fail
            exact ⟨f + 1, (by (refine covers_mk0 rfl rfl ?_ ?_ ?_ ?_ <;> simp (disch := (refine Om.mk ?_; omega)) only [go_sem] <;> (try omega))), by omega, by omega⟩
        · obtain rfl : f = rs.length := by omega
          generalize hX : catJ id rs (bl rs k) k rs.length = X at hcl hbp
          have hql : ∀ q ∈ qa, ∃ l, q.1 = .lab l := fun q hq => lbc_mem N 0 _ q (hq1.mem_iff.1 hq)
          repeat' first
            | ((exfalso; omega))
            | exact Bool.noConfusion h
            | refine sw_seq ?_
            | refine sw_block ?_
            | refine sw_skip ?_
            | refine sw_inBlock ?_
            | refine sw_go 0 kp8 fun K hK => ?_
            | refine sw_goT 0 kp8 10 (id := 22) (by kernel_rfl) fun K hK => ?_
            | refine fun (K : List Oper → LS → Prop) (hK : KOk S 0 _ _ _ K) => ?_
            | refine sw_goD kp8 (by kernel_rfl) fun K hK => ?_
            | ((first | refine runL_go ?_ | refine runQ_go ?_); simp (disch := (refine Om.mk ?_; omega)) only [go_sem])
            | (refine hK.nil ?_; clear hK K; simp only [go_sem])
            | (refine runG_fork rfl rfl rfl rfl rfl (fun h => ?_) (fun h => ?_) <;> (try simp (disch := (refine Om.mk ?_; omega)) only [go_sem] at h))
            | (refine runQG_fork rfl rfl rfl rfl rfl (fun h => ?_) (fun h => ?_) <;> (try simp (disch := (refine Om.mk ?_; omega)) only [go_sem] at h))
            | (refine hK.skip rfl (by simp only [dstOk, Nat.reduceLT]) ?_)
            | (refine sw_cond rfl (fun h => ?_) (fun h => ?_) <;> (try simp (disch := (refine Om.mk ?_; omega)) only [go_sem] at h))
            | (refine sw_exit rfl ?_)
            | (refine sw_loopEnd ?_)
            | ((first | refine sw_ret (ret0 ?_) | refine sw_ret ?_); simp (disch := (refine Om.mk ?_; omega)) only [go_sem, Try.results8])
            | (refine hK.fork rfl rfl rfl (fun h => ?_) (fun h => ?_) <;> (try simp (disch := (refine Om.mk ?_; omega)) only [go_sem] at h))
            | (with_reducible refine And.intro (by first | omega | (simp only [List.length_append, List.length_take, List.length_drop, List.length_cons, List.length_nil, List.length_map]; omega)) ?_)
            | ((with_reducible refine And.intro ?_ ?_); · first | (intro x hx; subst hx; rfl) | exact upR_mem fun _ _ => rfl | exact mapR_mem fun _ _ => rfl | (intro x; refine And.intro ?_ ?_ <;> (intros; subst_vars; rfl)))
            | fail
          refine hK.raw (LopsW.sortOwn (k := 78000) rfl ⟨_, Try.func30, by kernel_rfl, rfl⟩ hkit cmpTm (fun _ => True) (fun x y _ _ => compareTerms_fc .any .any x y) cmpT_ord hOff.1 (by simp) rfl rfl ?_ ?_ (fun qs => [(1, .int .i64 m), (2, .box 2 0), (6, .box 6 0), (7, .sl (.own 90000 22 1) (qa.map intsT)), (8, .int .i64 (k + 1))]) (fun qs => [(2, [.sl .any (rs.map (.int .i64))]), (6, cellsG (bl rs k) (.sl (.own 78000 22 1) (qs.map intsT)) (k + 1))]) ?_ ?_ (by simp only [Nat.reduceLT]) ?_)
          · exact fun q hq => ⟨trivial, by obtain ⟨l, e⟩ := lbc_mem N c X q hq; show (D.sl q.1 _).memOk = true; rw [e]; rfl⟩
          · rw [lbc_len]; omega
          · intro qs q hq
            simp only [List.mem_cons, List.not_mem_nil, or_false] at hq
            rcases hq with rfl | rfl | rfl | rfl | rfl
            · exact ⟨_, rfl, .inl ⟨rfl, rfl⟩⟩
            · exact ⟨_, rfl, .inl ⟨rfl, rfl⟩⟩
            · exact ⟨_, rfl, .inl ⟨rfl, rfl⟩⟩
            · refine ⟨_, rfl, .inl ⟨?_, rfl⟩⟩
              have hsl : D.safeL 78000 [78000, 90000] (qa.map intsT) = true := safeL_of fun d hd => by obtain ⟨q, hq, rfl⟩ := List.mem_map.1 hd; exact safe_ints (hql q hq)
              simp [D.safe, hsl]
            · exact ⟨_, rfl, .inl ⟨rfl, rfl⟩⟩
          · intro qs q hq
            simp only [List.mem_cons, List.not_mem_nil, or_false] at hq
            rcases hq with rfl | rfl
            · refine ⟨_, rfl, Nat.le_refl _, fun j d' hd => ⟨d', hd, .inl ⟨?_, rfl⟩⟩⟩
              have := List.mem_of_getElem? hd
              rw [List.mem_singleton] at this
              subst this
              exact scaL_ints rs .i64
            · refine ⟨_, rfl, by rw [cellsG_len, cellsG_len]; exact Nat.le_refl _, fun j d' hd => ?_⟩
              obtain ⟨hj, rfl⟩ := cellsG_get hd
              refine ⟨cellG (bl rs k) (.sl (.own 78000 22 1) ((lbc N c X).map intsT)) (k + 1) j, by unfold cellsG; rw [List.getElem?_map, List.getElem?_range hj]; rfl, ?_⟩
              by_cases e : j = k + 1
              · subst e
                refine .inr ⟨?_, ?_⟩ <;> simp [cellG]
              · have e2 : ∀ cur cur' : D, cellG (bl rs k) cur (k + 1) j = cellG (bl rs k) cur' (k + 1) j := fun cur cur' => by unfold cellG; rw [if_neg e, if_neg e]
                exact .inl ⟨safe_cell e, e2 _ _⟩
          intro qs hq3 hq4
          have hq5 : qs.map (·.2) = srtM X := by
            refine srtM_of ?_ (List.pairwise_map.2 hq4)
            have := hq3.map (fun q : Tk × List Int => q.2)
            rwa [lbc_snd] at this
          have hqsl : qs.length = X.length := by rw [hq3.length_eq, lbc_len]
          refine LopsW.nil ?_
          simp (disch := (refine Om.mk ?_; omega)) only [go_sem]
          have hbl1 := bl_len rs (k + 1)
          have hal1 : (allG rs (k + 1)).length ≤ 200 := by rw [allG_succ, List.length_append, srtM_len, hX, hc]; omega
          repeat' first
            | ((exfalso; omega))
            | ((refine ⟨List.mem_filter.2 ⟨by simp, by simp⟩, by omega, by omega, ?_⟩))
            | ((refine stop_at 7 ?_))
            | exact Bool.noConfusion h
            | refine sw_seq ?_
            | refine sw_block ?_
            | refine sw_skip ?_
            | refine sw_inBlock ?_
            | refine sw_go 0 kp8 fun K hK => ?_
            | refine sw_goT 0 kp8 10 (id := 22) (by kernel_rfl) fun K hK => ?_
            | refine fun (K : List Oper → LS → Prop) (hK : KOk S 0 _ _ _ K) => ?_
            | refine sw_goD kp8 (by kernel_rfl) fun K hK => ?_
            | ((first | refine runL_go ?_ | refine runQ_go ?_); simp (disch := (refine Om.mk ?_; omega)) only [go_sem])
            | (refine hK.nil ?_; clear hK K; simp only [go_sem])
            | (refine runG_fork rfl rfl rfl rfl rfl (fun h => ?_) (fun h => ?_) <;> (try simp (disch := (refine Om.mk ?_; omega)) only [go_sem] at h))
            | (refine runQG_fork rfl rfl rfl rfl rfl (fun h => ?_) (fun h => ?_) <;> (try simp (disch := (refine Om.mk ?_; omega)) only [go_sem] at h))
            | (refine hK.skip rfl (by simp only [dstOk, Nat.reduceLT]) ?_)
            | (refine sw_cond rfl (fun h => ?_) (fun h => ?_) <;> (try simp (disch := (refine Om.mk ?_; omega)) only [go_sem] at h))
            | (refine sw_exit rfl ?_)
            | (refine sw_loopEnd ?_)
            | ((first | refine sw_ret (ret0 ?_) | refine sw_ret ?_); simp (disch := (refine Om.mk ?_; omega)) only [go_sem, Try.results8])
            | (refine hK.fork rfl rfl rfl (fun h => ?_) (fun h => ?_) <;> (try simp (disch := (refine Om.mk ?_; omega)) only [go_sem] at h))
            | (with_reducible refine And.intro (by first | omega | (simp only [List.length_append, List.length_take, List.length_drop, List.length_cons, List.length_nil, List.length_map]; omega)) ?_)
            | ((with_reducible refine And.intro ?_ ?_); · first | (intro x hx; subst hx; rfl) | exact upR_mem fun _ _ => rfl | exact mapR_mem fun _ _ => rfl | (intro x; refine And.intro ?_ ?_ <;> (intros; subst_vars; rfl)))
            | fail
          unfold Stp
          refine sw_labBox 6 (k + 1) [1] (cs := cellsG (bl rs k) (.sl (.own 78000 22 1) (qs.map intsT)) (k + 1)) (by simp [Lg.look]) (cellsG_at (by omega)) (by simp) (by simp) ?_
          simp (disch := (refine Om.mk ?_; omega)) only [go_sem]
          refine sw_boxRel 6 (cellsG (bl rs (k + 1)) (.sl .nil []) (k + 2)) (cs := cellsG (bl rs k) (.sl (.lab [1]) (qs.map intsT)) (k + 1)) (by simp [Lg.look]) (by rw [cellsG_len, cellsG_len]) (fun j c d hc hd G w v hv => ?_) ?_
          · obtain ⟨hj, rfl⟩ := cellsG_get hd
            obtain ⟨_, rfl⟩ := cellsG_get hc
            by_cases e : j = k + 1
            · subst e
              have e1 : cellG (bl rs k) (.sl (.lab [1]) (qs.map intsT)) (k + 1) (k + 1) = .sl (.lab [1]) (qs.map intsT) := by simp [cellG]
              have e2 : cellG (bl rs (k + 1)) (.sl .nil []) (k + 2) (k + 1) = LevI ((bl rs (k + 1)).getD (k + 1) default) := by simp [cellG]
              have e3 : (bl rs (k + 1)).getD (k + 1) default = srtM X := by
                rw [hbp, List.getD_eq_getElem?_getD, List.getElem?_append_right (by omega), hbl]
                simp
              rw [e1] at hv
              rw [e2, e3]
              exact lev_weak hq5 hv
            · by_cases h2 : j < k + 1
              · have e1 : cellG (bl rs k) (.sl (.lab [1]) (qs.map intsT)) (k + 1) j = LevI ((bl rs k).getD j default) := by unfold cellG; rw [if_neg e, if_pos h2]
                have e2 : cellG (bl rs (k + 1)) (.sl .nil []) (k + 2) j = LevI ((bl rs (k + 1)).getD j default) := by unfold cellG; rw [if_neg (by omega), if_pos (by omega)]
                have e3 : (bl rs (k + 1)).getD j default = (bl rs k).getD j default := by
                  rw [hbp, List.getD_eq_getElem?_getD, List.getElem?_append_left (by omega), ← List.getD_eq_getElem?_getD]
                rw [e1] at hv
                rw [e2, e3]
                exact hv
              · have e1 : cellG (bl rs k) (.sl (.lab [1]) (qs.map intsT)) (k + 1) j = .sl .nil [] := by unfold cellG; rw [if_neg e, if_neg h2]
                have e2 : cellG (bl rs (k + 1)) (.sl .nil []) (k + 2) j = .sl .nil [] := by
                  unfold cellG
                  split
                  · rfl
                  · rw [if_neg (by omega)]
                rw [e1] at hv
                rw [e2]
                exact hv
          simp (disch := (refine Om.mk ?_; omega)) only [go_sem]
          repeat' first
            | ((exfalso; omega))
            | exact Bool.noConfusion h
            | refine sw_seq ?_
            | refine sw_block ?_
            | refine sw_skip ?_
            | refine sw_inBlock ?_
            | refine sw_go 0 kp8 fun K hK => ?_
            | refine sw_goT 0 kp8 10 (id := 22) (by kernel_rfl) fun K hK => ?_
            | refine fun (K : List Oper → LS → Prop) (hK : KOk S 0 _ _ _ K) => ?_
            | refine sw_goD kp8 (by kernel_rfl) fun K hK => ?_
            | ((first | refine runL_go ?_ | refine runQ_go ?_); simp (disch := (refine Om.mk ?_; omega)) only [go_sem])
            | (refine hK.nil ?_; clear hK K; simp only [go_sem])
            | (refine runG_fork rfl rfl rfl rfl rfl (fun h => ?_) (fun h => ?_) <;> (try simp (disch := (refine Om.mk ?_; omega)) only [go_sem] at h))
            | (refine runQG_fork rfl rfl rfl rfl rfl (fun h => ?_) (fun h => ?_) <;> (try simp (disch := (refine Om.mk ?_; omega)) only [go_sem] at h))
            | (refine hK.skip rfl (by simp only [dstOk, Nat.reduceLT]) ?_)
            | (refine sw_cond rfl (fun h => ?_) (fun h => ?_) <;> (try simp (disch := (refine Om.mk ?_; omega)) only [go_sem] at h))
            | (refine sw_exit rfl ?_)
            | (refine sw_loopEnd ?_)
            | ((first | refine sw_ret (ret0 ?_) | refine sw_ret ?_); simp (disch := (refine Om.mk ?_; omega)) only [go_sem, Try.results8])
            | (refine hK.fork rfl rfl rfl (fun h => ?_) (fun h => ?_) <;> (try simp (disch := (refine Om.mk ?_; omega)) only [go_sem] at h))
            | (with_reducible refine And.intro (by first | omega | (simp only [List.length_append, List.length_take, List.length_drop, List.length_cons, List.length_nil, List.length_map]; omega)) ?_)
            | ((with_reducible refine And.intro ?_ ?_); · first | (intro x hx; subst hx; rfl) | exact upR_mem fun _ _ => rfl | exact mapR_mem fun _ _ => rfl | (intro x; refine And.intro ?_ ?_ <;> (intros; subst_vars; rfl)))
            | fail
          refine ⟨(k + 1, qa ++ qs), (by (refine covers_mk0 rfl rfl ?_ ?_ ?_ ?_ <;> simp (disch := (refine Om.mk ?_; omega)) only [go_sem] <;> (try omega)); all_goals first | (simp; done) | trace_state), ⟨⟨hkm, hal1⟩, ?_, ?_⟩, by omega⟩
          · show (qa ++ qs).Perm (lbc N 0 (catA rs k ++ catJ id rs (bl rs k) k rs.length))
            rw [hX, lbc_app, catA_len, hc, Nat.zero_add]
            exact hq1.append hq3
          · show (qa ++ qs).map (·.2) = _
            rw [allG_succ, hX, List.map_append, hq2, hq5]
    · obtain rfl : k = m := by omega
      have hg : GrP rs (k : Int) := ⟨hs.1, hs.2, by rw [Int.toNat_natCast]; exact hal⟩
      rw [grR_yes hg, Int.toNat_natCast]
      rw [lbc_lbs] at hq1
      refine sw_relab hOff (f := relF N p (qa.map fun q => labOf q.1)) relF_ne relF_off [(1, .int .i64 k), (8, .int .i64 (k + 1)), (7, .sl (.own 90000 22 1) (mapR (fun i y => Int64SL (p ++ [i] ++ [0]) y) (allG rs k)))] [] (fun q hq => ?_) (fun q hq => by cases hq) ?_
      · simp only [List.mem_cons, List.not_mem_nil, or_false] at hq
        rcases hq with rfl | rfl | rfl
        · exact ⟨_, rfl, rfl, rfl⟩
        · exact ⟨_, rfl, rfl, rfl⟩
        · refine ⟨_, rfl, noPL_of fun d hd => ?_, ?_⟩
          · obtain ⟨x, _, rfl⟩ := List.mem_map.1 hd
            exact noPL_of fun d hd => by obtain ⟨y, _, rfl⟩ := List.mem_map.1 hd; rfl
          · show D.sl _ _ = D.sl _ (D.rlL _ (qa.map intsT))
            rw [relab_srt hq1, hq2]
      simp (disch := (refine Om.mk ?_; omega)) only [go_sem]
      refine sw_lab 7 p rfl (by simp) hp ?_
      simp (disch := (refine Om.mk ?_; omega)) only [go_sem]
      repeat' first
        | ((exfalso; omega))
        | exact Bool.noConfusion h
        | refine sw_seq ?_
        | refine sw_block ?_
        | refine sw_skip ?_
        | refine sw_inBlock ?_
        | refine sw_go 0 kp8 fun K hK => ?_
        | refine sw_goT 0 kp8 10 (id := 22) (by kernel_rfl) fun K hK => ?_
        | refine fun (K : List Oper → LS → Prop) (hK : KOk S 0 _ _ _ K) => ?_
        | refine sw_goD kp8 (by kernel_rfl) fun K hK => ?_
        | ((first | refine runL_go ?_ | refine runQ_go ?_); simp (disch := (refine Om.mk ?_; omega)) only [go_sem])
        | (refine hK.nil ?_; clear hK K; simp only [go_sem])
        | (refine runG_fork rfl rfl rfl rfl rfl (fun h => ?_) (fun h => ?_) <;> (try simp (disch := (refine Om.mk ?_; omega)) only [go_sem] at h))
        | (refine runQG_fork rfl rfl rfl rfl rfl (fun h => ?_) (fun h => ?_) <;> (try simp (disch := (refine Om.mk ?_; omega)) only [go_sem] at h))
        | (refine hK.skip rfl (by simp only [dstOk, Nat.reduceLT]) ?_)
        | (refine sw_cond rfl (fun h => ?_) (fun h => ?_) <;> (try simp (disch := (refine Om.mk ?_; omega)) only [go_sem] at h))
        | (refine sw_exit rfl ?_)
        | (refine sw_loopEnd ?_)
        | ((first | refine sw_ret (ret0 ?_) | refine sw_ret ?_); simp (disch := (refine Om.mk ?_; omega)) only [go_sem, Try.results8])
        | (refine hK.fork rfl rfl rfl (fun h => ?_) (fun h => ?_) <;> (try simp (disch := (refine Om.mk ?_; omega)) only [go_sem] at h))
        | (with_reducible refine And.intro (by first | omega | (simp only [List.length_append, List.length_take, List.length_drop, List.length_cons, List.length_nil, List.length_map]; omega)) ?_)
        | ((with_reducible refine And.intro ?_ ?_); · first | (intro x hx; subst hx; rfl) | exact upR_mem fun _ _ => rfl | exact mapR_mem fun _ _ => rfl | (intro x; refine And.intro ?_ ?_ <;> (intros; subst_vars; rfl)))
        | fail
      exact hg
  · rw [grR_no (fun h => hs ⟨h.1, h.2.1⟩), tst_false (fun h : GrP rs n => hs ⟨h.1, h.2.1⟩)]
    skip
    refine fc_bodyF Try.func8 rfl (by kernel_rfl) (by simp [Try.f8]) fun B N hOff => ?_
    simp only [Try.ntmps8, enumD, List.map_nil, List.map_cons, List.length_map, Nat.zero_add, Nat.reduceAdd]
    repeat' first
      | exact Bool.noConfusion h
      | refine sw_seq ?_
      | refine sw_block ?_
      | refine sw_skip ?_
      | refine sw_inBlock ?_
      | refine sw_go 0 kp8 fun K hK => ?_
      | refine sw_goT 0 kp8 10 (id := 22) (by kernel_rfl) fun K hK => ?_
      | refine fun (K : List Oper → LS → Prop) (hK : KOk S 0 _ _ _ K) => ?_
      | refine sw_goD kp8 (by kernel_rfl) fun K hK => ?_
      | ((first | refine runL_go ?_ | refine runQ_go ?_); simp (disch := (refine Om.mk ?_; omega)) only [go_sem])
      | (refine hK.nil ?_; clear hK K; simp only [go_sem])
      | (refine runG_fork rfl rfl rfl rfl rfl (fun h => ?_) (fun h => ?_) <;> (try simp (disch := (refine Om.mk ?_; omega)) only [go_sem] at h))
      | (refine runQG_fork rfl rfl rfl rfl rfl (fun h => ?_) (fun h => ?_) <;> (try simp (disch := (refine Om.mk ?_; omega)) only [go_sem] at h))
      | (refine hK.skip rfl (by simp only [dstOk, Nat.reduceLT]) ?_)
      | (refine sw_cond rfl (fun h => ?_) (fun h => ?_) <;> (try simp (disch := (refine Om.mk ?_; omega)) only [go_sem] at h))
      | (refine sw_exit rfl ?_)
      | (refine sw_loopEnd ?_)
      | ((first | refine sw_ret (ret0 ?_) | refine sw_ret ?_); simp (disch := (refine Om.mk ?_; omega)) only [go_sem, Try.results8])
      | refine hK.call rfl rfl rfl (implSigOk_fc _ _) ⟨(by intro p hp; cases hp), rfl, rfl, (by simp only [dstOk, Nat.reduceLT])⟩ ?_
      | (refine hK.fork rfl rfl rfl (fun h => ?_) (fun h => ?_) <;> (try simp (disch := (refine Om.mk ?_; omega)) only [go_sem] at h))
      | (with_reducible refine And.intro (by first | omega | (simp only [List.length_append, List.length_take, List.length_drop, List.length_cons, List.length_nil, List.length_map]; omega)) ?_)
      | ((with_reducible refine And.intro ?_ ?_); · first | (intro x hx; subst hx; rfl) | exact upR_mem fun _ _ => rfl | exact mapR_mem fun _ _ => rfl | (intro x; refine And.intro ?_ ?_ <;> (intros; subst_vars; rfl)))
      | fail
    all_goals first | exact absurd ⟨by assumption, by omega⟩ hs | (simp [mapR, le0]; done) | trace_state
end Go.Proofs.Ytldlochhiiogbaa
