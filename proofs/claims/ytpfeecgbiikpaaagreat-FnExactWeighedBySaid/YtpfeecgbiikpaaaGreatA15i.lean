/-
  Linear forms of terms: the program's side.
-/
import Derived.Test.YtpfeecgbiikpaaaGreatA15t
import Derived.Test.YtpfeecgbiikpaaaGreatA06s
import Derived.Test.YtpfeecgbiikpaaaGreatSl
namespace Go.Proofs.YtpfeecgbiikpaaaGreat
open Go Go.Lg
set_option linter.unusedSimpArgs false
set_option linter.unusedVariables false
set_option maxHeartbeats 4000000
attribute [local irreducible] SW runL runQ runG runQG FC Ret1 toF redoL anyB
def maxAt (xs : List Int) : Nat → Int
  | 0 => xs.getD 0 default
  | p + 1 => if xs.getD (p + 1) default > maxAt xs p then xs.getD (p + 1) default else maxAt xs p
theorem maxAt_le (xs : List Int) (c : Int) : ∀ n, maxAt xs n ≤ c ↔ ∀ j ≤ n, xs.getD j default ≤ c
  | 0 => ⟨fun h j hj => by rwa [show j = 0 by omega], fun h => h 0 (Nat.le_refl _)⟩
  | n + 1 => by
    have ih := maxAt_le xs c n
    simp only [maxAt]
    constructor
    · intro h j hj
      rcases Nat.lt_or_ge j (n + 1) with h1 | h1
      · exact ih.1 (by split at h <;> omega) j (by omega)
      · rw [show j = n + 1 by omega]; split at h <;> omega
    · intro h
      have h1 := ih.2 fun j hj => h j (by omega)
      have h2 := h (n + 1) (Nat.le_refl _)
      split <;> omega
theorem maxAt_all {xs : List Int} {c : Int} (h : 0 < xs.length) : maxAt xs (xs.length - 1) ≤ c ↔ ∀ x ∈ xs, x ≤ c := by
  rw [maxAt_le]
  exact ⟨fun h1 => all_getD (P := fun x => x ≤ c) fun j hj => h1 j (by omega), fun h1 j hj => h1 _ (getD_mem xs j (by omega))⟩
def kp181 : List (Nat × List Nat) := [(0, [0]), (1, [0, 7]), (2, [0]), (3, [0, 3]), (4, [0, 3, 4]), (5, [0, 3, 4, 15]), (7, [0, 3, 4]), (6, [0, 3, 4]), (8, [2])]
attribute [go_sem] kp181
theorem max_fc (tk : Tk) (xs : List Int) (h0 : 0 < xs.length) : FC S 181 [] [] [] [.sl tk (xs.map (.int .i64))] (.int .i64 (maxAt xs (xs.length - 1))) [] [] := by
  refine fc_body Tryz.func181 rfl (by kernel_rfl) (by simp [Tryz.f181]) fun B => ?_
  simp only [Tryz.ntmps181, enumD, List.map_nil, List.map_cons, List.length_map, Nat.zero_add, Nat.reduceAdd]
  refine sw_bnd 0 rfl fun hb0 => ?_
  simp only [D.bnd, List.length_map] at hb0
  repeat' first
    | exact Bool.noConfusion h
    | refine sw_seq ?_
    | refine sw_block ?_
    | refine sw_skip ?_
    | refine sw_inBlock ?_
    | refine sw_go 0 kp181 fun K hK => ?_
    | refine fun (K : List Oper → LS → Prop) (hK : KOk S 0 _ _ _ K) => ?_
    | ((first | refine runL_go ?_ | refine runQ_go ?_); simp (disch := (refine Om.mk ?_; omega)) only [go_sem])
    | (refine hK.nil ?_; clear hK K; simp only [go_sem])
    | (refine sw_cond rfl (fun h => ?_) (fun h => ?_) <;> (try simp (disch := (refine Om.mk ?_; omega)) only [go_sem] at h))
    | (refine sw_exit rfl ?_)
    | (refine sw_loopEnd ?_)
    | ((first | refine sw_ret (ret0 ?_) | refine sw_ret ?_); simp (disch := (refine Om.mk ?_; omega)) only [go_sem, Tryz.results181])
    | (with_reducible refine And.intro (by first | omega | (simp only [List.length_append, List.length_take, List.length_drop, List.length_cons, List.length_nil, List.length_map]; omega)) ?_)
    | ((with_reducible refine And.intro ?_ ?_); · first | (intro x hx; subst hx; rfl) | exact upR_mem fun _ _ => rfl | exact mapR_mem fun _ _ => rfl | (intro x; refine And.intro ?_ ?_ <;> (intros; subst_vars; rfl)))
    | fail
  · omega
  refine sw_loopU (ι := Nat) (fun p => [(4, .int .i64 (p + 1)), (3, .int .i64 (maxAt xs p))]) (fun p => []) (fun p => p < xs.length) (fun p => xs.length - p) 0 (by (refine covers_mk0 rfl rfl ?_ ?_ ?_ ?_ <;> simp (disch := (refine Om.mk ?_; omega)) only [go_sem] <;> (try omega)); exact ⟨rfl, rfl⟩) ?_ (fun p hp => ?_)
  rotate_left
  simp only [go_sem]
  repeat' first
    | exact Bool.noConfusion h
    | refine sw_seq ?_
    | refine sw_block ?_
    | refine sw_skip ?_
    | refine sw_inBlock ?_
    | refine sw_go 0 kp181 fun K hK => ?_
    | refine fun (K : List Oper → LS → Prop) (hK : KOk S 0 _ _ _ K) => ?_
    | ((first | refine runL_go ?_ | refine runQ_go ?_); simp (disch := (refine Om.mk ?_; omega)) only [go_sem])
    | (refine hK.nil ?_; clear hK K; simp only [go_sem])
    | (refine sw_cond rfl (fun h => ?_) (fun h => ?_) <;> (try simp (disch := (refine Om.mk ?_; omega)) only [go_sem] at h))
    | (refine sw_exit rfl ?_)
    | (refine sw_loopEnd ?_)
    | ((first | refine sw_ret (ret0 ?_) | refine sw_ret ?_); simp (disch := (refine Om.mk ?_; omega)) only [go_sem, Tryz.results181])
    | (with_reducible refine And.intro (by first | omega | (simp only [List.length_append, List.length_take, List.length_drop, List.length_cons, List.length_nil, List.length_map]; omega)) ?_)
    | ((with_reducible refine And.intro ?_ ?_); · first | (intro x hx; subst hx; rfl) | exact upR_mem fun _ _ => rfl | exact mapR_mem fun _ _ => rfl | (intro x; refine And.intro ?_ ?_ <;> (intros; subst_vars; rfl)))
    | fail
  · exact ⟨p + 1, (by (refine covers_mk0 rfl rfl ?_ ?_ ?_ ?_ <;> simp (disch := (refine Om.mk ?_; omega)) only [go_sem] <;> (try omega)); exact ⟨rfl, by omega⟩), by omega, by omega⟩
  · rw [show p = xs.length - 1 by omega]
  · exact h0
def kp92 : List (Nat × List Nat) := [(0, [1, 2]), (1, [1, 2, 19]), (2, [4]), (3, [2, 20, 21, 22]), (4, [2, 20, 21, 22, 23]), (5, [2, 5, 6, 20, 21, 22]), (6, [2, 6, 20, 21, 22, 45]), (7, [4]), (8, [2, 20, 21, 22, 47, 48, 49]), (9, [2, 20, 21, 22, 47, 48, 49, 50]), (10, [2, 8, 20, 21, 22, 47, 48, 49]), (11, [2, 20, 21, 22, 47, 48, 49, 58]), (12, [4]), (13, [2, 20, 21, 22, 47, 48, 49]), (14, [2, 20, 21, 22]), (15, [4])]
attribute [go_sem] kp92
theorem implPolysOk_fc (rs : List Int) (ps : List PolyT) : FC S 92 [] [] [] [.agg [.sl .any (rs.map (.int .i64))], .sl .any (ps.map PolyD)] (.bool (tst (PolysOkP rs ps))) [] [] := by
  refine fc_body Tryz.func92 rfl (by kernel_rfl) (by simp [Tryz.f92]) fun B => ?_
  simp only [Tryz.ntmps92, enumD, List.map_nil, List.map_cons, List.length_map, Nat.zero_add, Nat.reduceAdd]
  refine sw_bnd 1 rfl fun hb1 => ?_
  simp only [D.bnd, List.length_map] at hb1
  repeat' first
    | exact Bool.noConfusion h
    | refine sw_seq ?_
    | refine sw_block ?_
    | refine sw_skip ?_
    | refine sw_inBlock ?_
    | refine sw_go 0 kp92 fun K hK => ?_
    | refine fun (K : List Oper → LS → Prop) (hK : KOk S 0 _ _ _ K) => ?_
    | refine sw_goD kp92 (by kernel_rfl) fun K hK => ?_
    | ((first | refine runL_go ?_ | refine runQ_go ?_); simp (disch := (refine Om.mk ?_; omega)) only [go_sem])
    | (refine hK.nil ?_; clear hK K; simp only [go_sem])
    | (refine runG_fork rfl rfl rfl rfl rfl (fun h => ?_) (fun h => ?_) <;> (try simp (disch := (refine Om.mk ?_; omega)) only [go_sem] at h))
    | (refine runQG_fork rfl rfl rfl rfl rfl (fun h => ?_) (fun h => ?_) <;> (try simp (disch := (refine Om.mk ?_; omega)) only [go_sem] at h))
    | (refine hK.skip rfl (by simp only [dstOk, Nat.reduceLT]) ?_)
    | (refine sw_cond rfl (fun h => ?_) (fun h => ?_) <;> (try simp (disch := (refine Om.mk ?_; omega)) only [go_sem] at h))
    | (refine sw_exit rfl ?_)
    | (refine sw_loopEnd ?_)
    | ((first | refine sw_ret (ret0 ?_) | refine sw_ret ?_); simp (disch := (refine Om.mk ?_; omega)) only [go_sem, Tryz.results92])
    | refine hK.call rfl rfl rfl (implSigOk_fc _ _) ⟨(by intro p hp; cases hp), rfl, rfl, (by simp only [dstOk, Nat.reduceLT])⟩ ?_
    | (refine hK.fork rfl rfl rfl (fun h => ?_) (fun h => ?_) <;> (try simp (disch := (refine Om.mk ?_; omega)) only [go_sem] at h))
    | (with_reducible refine And.intro (by first | omega | (simp only [List.length_append, List.length_take, List.length_drop, List.length_cons, List.length_nil, List.length_map]; omega)) ?_)
    | ((with_reducible refine And.intro ?_ ?_); · first | (intro x hx; subst hx; rfl) | exact upR_mem fun _ _ => rfl | exact mapR_mem fun _ _ => rfl | (intro x; refine And.intro ?_ ?_ <;> (intros; subst_vars; rfl)))
    | fail
  · exact fun h => absurd h.1.1 (by assumption)
  · exact fun h => absurd h.1.2 (by omega)
  refine sw_loopU (ι := Nat) (fun i => [(22, .int .i64 i)]) (fun _ => []) (fun i => i ≤ ps.length ∧ (∀ j < i, PolyOkP (rs.getD j default) (ps.getD j default))) (fun i => ps.length - i) 0 (by (refine covers_mk0 rfl rfl ?_ ?_ ?_ ?_ <;> simp (disch := (refine Om.mk ?_; omega)) only [go_sem] <;> (try omega))) ⟨by omega, ?_⟩ (fun i ⟨hi, hj⟩ => ?_)
  rotate_left
  simp only [go_sem]
  have hsg := (by assumption : SigOkP rs)
  have hla : i < ps.length → rs.getD i default ≤ 3 := fun h => (hsg.2 i (by omega)).2
  repeat' first
    | exact Bool.noConfusion h
    | refine sw_seq ?_
    | refine sw_block ?_
    | refine sw_skip ?_
    | refine sw_inBlock ?_
    | refine sw_go 0 kp92 fun K hK => ?_
    | refine fun (K : List Oper → LS → Prop) (hK : KOk S 0 _ _ _ K) => ?_
    | refine sw_goD kp92 (by kernel_rfl) fun K hK => ?_
    | ((first | refine runL_go ?_ | refine runQ_go ?_); simp (disch := (refine Om.mk ?_; omega)) only [go_sem])
    | (refine hK.nil ?_; clear hK K; simp only [go_sem])
    | (refine runG_fork rfl rfl rfl rfl rfl (fun h => ?_) (fun h => ?_) <;> (try simp (disch := (refine Om.mk ?_; omega)) only [go_sem] at h))
    | (refine runQG_fork rfl rfl rfl rfl rfl (fun h => ?_) (fun h => ?_) <;> (try simp (disch := (refine Om.mk ?_; omega)) only [go_sem] at h))
    | (refine hK.skip rfl (by simp only [dstOk, Nat.reduceLT]) ?_)
    | (refine sw_cond rfl (fun h => ?_) (fun h => ?_) <;> (try simp (disch := (refine Om.mk ?_; omega)) only [go_sem] at h))
    | (refine sw_exit rfl ?_)
    | (refine sw_loopEnd ?_)
    | ((first | refine sw_ret (ret0 ?_) | refine sw_ret ?_); simp (disch := (refine Om.mk ?_; omega)) only [go_sem, Tryz.results92])
    | (refine hK.fork rfl rfl rfl (fun h => ?_) (fun h => ?_) <;> (try simp (disch := (refine Om.mk ?_; omega)) only [go_sem] at h))
    | (with_reducible refine And.intro (by first | omega | (simp only [List.length_append, List.length_take, List.length_drop, List.length_cons, List.length_nil, List.length_map]; omega)) ?_)
    | ((with_reducible refine And.intro ?_ ?_); · first | (intro x hx; subst hx; rfl) | exact upR_mem fun _ _ => rfl | exact mapR_mem fun _ _ => rfl | (intro x; refine And.intro ?_ ?_ <;> (intros; subst_vars; rfl)))
    | fail
  · exact fun hp => absurd (hp.2 i (by omega)).1 (by omega)
  · exact fun hp => absurd (hp.2 i (by omega)).1 (by omega)
  · exact fun hp => absurd (hp.2 i (by omega)).1 (by omega)
  · have hla := hla (by omega)
    refine sw_loopT (ι := Nat) (fun k => [(49, .int .i64 k)]) (fun _ => []) (fun _ => []) (fun k => k ≤ (ps.getD i default).coef.length ∧ ∀ j < k, 0 ≤ (ps.getD i default).coef.getD j default ∧ (ps.getD i default).coef.getD j default ≤ 9) (fun k => (ps.getD i default).coef.length - k) 0 (by (refine covers_mk0 rfl rfl ?_ ?_ ?_ ?_ <;> simp (disch := (refine Om.mk ?_; omega)) only [go_sem] <;> (try omega))) ⟨by omega, fun j hj => absurd hj (by omega)⟩ (fun k hk => ?_)
    obtain ⟨hk, hk1⟩ := hk
    simp only [go_sem]
    repeat' first
      | exact Bool.noConfusion h
      | refine sw_seq ?_
      | refine sw_block ?_
      | refine sw_skip ?_
      | refine sw_inBlock ?_
      | refine sw_go 0 kp92 fun K hK => ?_
      | refine fun (K : List Oper → LS → Prop) (hK : KOk S 0 _ _ _ K) => ?_
      | refine sw_goD kp92 (by kernel_rfl) fun K hK => ?_
      | ((first | refine runL_go ?_ | refine runQ_go ?_); simp (disch := (refine Om.mk ?_; omega)) only [go_sem])
      | (refine hK.nil ?_; clear hK K; simp only [go_sem])
      | (refine runG_fork rfl rfl rfl rfl rfl (fun h => ?_) (fun h => ?_) <;> (try simp (disch := (refine Om.mk ?_; omega)) only [go_sem] at h))
      | (refine runQG_fork rfl rfl rfl rfl rfl (fun h => ?_) (fun h => ?_) <;> (try simp (disch := (refine Om.mk ?_; omega)) only [go_sem] at h))
      | (refine hK.skip rfl (by simp only [dstOk, Nat.reduceLT]) ?_)
      | (refine sw_cond rfl (fun h => ?_) (fun h => ?_) <;> (try simp (disch := (refine Om.mk ?_; omega)) only [go_sem] at h))
      | (refine sw_exit rfl ?_)
      | (refine sw_loopEnd ?_)
      | ((first | refine sw_ret (ret0 ?_) | refine sw_ret ?_); simp (disch := (refine Om.mk ?_; omega)) only [go_sem, Tryz.results92])
      | (refine hK.fork rfl rfl rfl (fun h => ?_) (fun h => ?_) <;> (try simp (disch := (refine Om.mk ?_; omega)) only [go_sem] at h))
      | (with_reducible refine And.intro (by first | omega | (simp only [List.length_append, List.length_take, List.length_drop, List.length_cons, List.length_nil, List.length_map]; omega)) ?_)
      | ((with_reducible refine And.intro ?_ ?_); · first | (intro x hx; subst hx; rfl) | exact upR_mem fun _ _ => rfl | exact mapR_mem fun _ _ => rfl | (intro x; refine And.intro ?_ ?_ <;> (intros; subst_vars; rfl)))
      | fail
    · exact fun hp => absurd ((hp.2 i (by omega)).2 _ (getD_mem _ k (by omega))) (by omega)
    · exact fun hp => absurd ((hp.2 i (by omega)).2 _ (getD_mem _ k (by omega))) (by omega)
    · exact ⟨k + 1, (by (refine covers_mk0 rfl rfl ?_ ?_ ?_ ?_ <;> simp (disch := (refine Om.mk ?_; omega)) only [go_sem] <;> (try omega))), ⟨by omega, upto_succ hk1 ⟨by omega, by omega⟩⟩, by omega⟩
    · exact ⟨i + 1, (by (refine covers_mk0 rfl rfl ?_ ?_ ?_ ?_ <;> simp (disch := (refine Om.mk ?_; omega)) only [go_sem] <;> (try omega))), ⟨by omega, upto_succ hj ⟨⟨by omega, by omega, by omega⟩, all_getD (P := fun x => 0 ≤ x ∧ x ≤ 9) fun j hj' => hk1 j (by omega)⟩⟩, by omega⟩
  · exact ⟨⟨by assumption, by omega⟩, fun j hj' => hj j (by omega)⟩
  · intro j hj'; omega
def kp170 : List (Nat × List Nat) := [(0, [1, 2]), (1, [1, 2, 9]), (2, [4]), (3, [4])]
attribute [go_sem] kp170
theorem lineAt_fc (p : PolyT) (i : Nat) : FC S 170 [] [] [] [PolyD p, .int .i64 i] (.int .i64 (p.coef.getD i default)) [] [] := by
  have hz := fun h => addJ_past [] p.coef 0 (j := i) h
  refine fc_body Tryz.func170 rfl (by kernel_rfl) (by simp [Tryz.f170]) fun B => ?_
  simp only [Tryz.ntmps170, enumD, List.map_nil, List.map_cons, List.length_map, Nat.zero_add, Nat.reduceAdd]
  refine sw_bnd_agg 0 1 rfl rfl fun hb0_1 => ?_
  simp only [D.bnd, List.length_map] at hb0_1
  repeat' first
    | exact Bool.noConfusion h
    | refine sw_seq ?_
    | refine sw_block ?_
    | refine sw_skip ?_
    | refine sw_inBlock ?_
    | refine sw_go 0 kp170 fun K hK => ?_
    | refine fun (K : List Oper → LS → Prop) (hK : KOk S 0 _ _ _ K) => ?_
    | ((first | refine runL_go ?_ | refine runQ_go ?_); simp (disch := (refine Om.mk ?_; omega)) only [go_sem])
    | (refine hK.nil ?_; clear hK K; simp only [go_sem])
    | (refine sw_cond rfl (fun h => ?_) (fun h => ?_) <;> (try simp (disch := (refine Om.mk ?_; omega)) only [go_sem] at h))
    | (refine sw_exit rfl ?_)
    | (refine sw_loopEnd ?_)
    | ((first | refine sw_ret (ret0 ?_) | refine sw_ret ?_); simp (disch := (refine Om.mk ?_; omega)) only [go_sem, Tryz.results170])
    | (with_reducible refine And.intro (by first | omega | (simp only [List.length_append, List.length_take, List.length_drop, List.length_cons, List.length_nil, List.length_map]; omega)) ?_)
    | ((with_reducible refine And.intro ?_ ?_); · first | (intro x hx; subst hx; rfl) | exact upR_mem fun _ _ => rfl | exact mapR_mem fun _ _ => rfl | (intro x; refine And.intro ?_ ?_ <;> (intros; subst_vars; rfl)))
    | fail
  exact (hz (by omega)).symm
def kp153 : List (Nat × List Nat) := [(0, [1, 2]), (1, [4])]
attribute [go_sem] kp153
theorem coef_fc (p : PolyT) (i : Nat) : FC S 153 [] [] [] [PolyD p, .int .i64 i] (.int .i64 (p.coef.getD i default)) [] [] := by
  refine fc_body Tryz.func153 rfl (by kernel_rfl) (by simp [Tryz.f153]) fun B => ?_
  simp only [Tryz.ntmps153, enumD, List.map_nil, List.map_cons, List.length_map, Nat.zero_add, Nat.reduceAdd]
  repeat' first
    | exact Bool.noConfusion h
    | refine sw_seq ?_
    | refine sw_block ?_
    | refine sw_skip ?_
    | refine sw_inBlock ?_
    | refine sw_go 0 kp153 fun K hK => ?_
    | refine fun (K : List Oper → LS → Prop) (hK : KOk S 0 _ _ _ K) => ?_
    | ((first | refine runL_go ?_ | refine runQ_go ?_); simp (disch := (refine Om.mk ?_; omega)) only [go_sem])
    | (refine hK.nil ?_; clear hK K; simp only [go_sem])
    | (refine sw_cond rfl (fun h => ?_) (fun h => ?_) <;> (try simp (disch := (refine Om.mk ?_; omega)) only [go_sem] at h))
    | (refine sw_exit rfl ?_)
    | (refine sw_loopEnd ?_)
    | ((first | refine sw_ret (ret0 ?_) | refine sw_ret ?_); simp (disch := (refine Om.mk ?_; omega)) only [go_sem, Tryz.results153])
    | refine hK.call rfl rfl rfl (lineAt_fc p i) ⟨(by intro p hp; cases hp), rfl, rfl, (by simp only [dstOk, Nat.reduceLT])⟩ ?_
    | (with_reducible refine And.intro (by first | omega | (simp only [List.length_append, List.length_take, List.length_drop, List.length_cons, List.length_nil, List.length_map]; omega)) ?_)
    | ((with_reducible refine And.intro ?_ ?_); · first | (intro x hx; subst hx; rfl) | exact upR_mem fun _ _ => rfl | exact mapR_mem fun _ _ => rfl | (intro x; refine And.intro ?_ ?_ <;> (intros; subst_vars; rfl)))
    | fail
open Classical in
noncomputable def mostR (a b : PolyT) : Bool × Bool := if MostP a b then (tst (a.const ≤ b.const), tst (a.const < b.const)) else (false, false)
theorem mostR_yes {a b : PolyT} (h : MostP a b) : mostR a b = (tst (a.const ≤ b.const), tst (a.const < b.const)) := if_pos h
theorem mostR_no {a b : PolyT} (h : ¬ MostP a b) : mostR a b = (false, false) := if_neg h
def kp132 : List (Nat × List Nat) := [(0, [2, 3]), (1, [2, 3, 9, 10, 11]), (2, [2, 3, 9, 10, 11, 12]), (3, [2, 3, 6, 7, 9, 10, 11]), (4, [2, 3, 9, 10, 11, 20]), (5, [4, 5]), (6, [2, 3, 9, 10, 11]), (7, [4, 5])]
attribute [go_sem] kp132
theorem atMost_fc (a b : PolyT) : FC S 132 [] [] [] [PolyD a, PolyD b] (.tup [.bool (mostR a b).1, .bool (mostR a b).2]) [] [] := by
  refine fc_body Tryz.func132 rfl (by kernel_rfl) (by simp [Tryz.f132]) fun B => ?_
  simp only [Tryz.ntmps132, enumD, List.map_nil, List.map_cons, List.length_map, Nat.zero_add, Nat.reduceAdd]
  refine sw_bnd_agg 0 1 rfl rfl fun hb0_1 => ?_
  simp only [D.bnd, List.length_map] at hb0_1
  repeat' first
    | exact Bool.noConfusion h
    | refine sw_seq ?_
    | refine sw_block ?_
    | refine sw_skip ?_
    | refine sw_inBlock ?_
    | refine sw_go 0 kp132 fun K hK => ?_
    | refine fun (K : List Oper → LS → Prop) (hK : KOk S 0 _ _ _ K) => ?_
    | refine sw_goD kp132 (by kernel_rfl) fun K hK => ?_
    | ((first | refine runL_go ?_ | refine runQ_go ?_); simp (disch := (refine Om.mk ?_; omega)) only [go_sem])
    | (refine hK.nil ?_; clear hK K; simp only [go_sem])
    | (refine sw_cond rfl (fun h => ?_) (fun h => ?_) <;> (try simp (disch := (refine Om.mk ?_; omega)) only [go_sem] at h))
    | (refine sw_exit rfl ?_)
    | (refine sw_loopEnd ?_)
    | ((first | refine sw_ret (ret0 ?_) | refine sw_ret ?_); simp (disch := (refine Om.mk ?_; omega)) only [go_sem, Tryz.results132])
    | (with_reducible refine And.intro (by first | omega | (simp only [List.length_append, List.length_take, List.length_drop, List.length_cons, List.length_nil, List.length_map]; omega)) ?_)
    | ((with_reducible refine And.intro ?_ ?_); · first | (intro x hx; subst hx; rfl) | exact upR_mem fun _ _ => rfl | exact mapR_mem fun _ _ => rfl | (intro x; refine And.intro ?_ ?_ <;> (intros; subst_vars; rfl)))
    | fail
  refine sw_loopU (ι := Nat) (fun i => [(11, .int .i64 i)]) (fun _ => []) (fun i => i ≤ a.coef.length ∧ (∀ j < i, a.coef.getD j default ≤ b.coef.getD j default)) (fun i => a.coef.length - i) 0 (by (refine covers_mk0 rfl rfl ?_ ?_ ?_ ?_ <;> simp (disch := (refine Om.mk ?_; omega)) only [go_sem] <;> (try omega))) ⟨by omega, ?_⟩ (fun i ⟨hi, hj⟩ => ?_)
  rotate_left
  simp only [go_sem]
  repeat' first
    | exact Bool.noConfusion h
    | refine sw_seq ?_
    | refine sw_block ?_
    | refine sw_skip ?_
    | refine sw_inBlock ?_
    | refine sw_go 0 kp132 fun K hK => ?_
    | refine fun (K : List Oper → LS → Prop) (hK : KOk S 0 _ _ _ K) => ?_
    | refine sw_goD kp132 (by kernel_rfl) fun K hK => ?_
    | ((first | refine runL_go ?_ | refine runQ_go ?_); simp (disch := (refine Om.mk ?_; omega)) only [go_sem])
    | (refine hK.nil ?_; clear hK K; simp only [go_sem])
    | (refine sw_cond rfl (fun h => ?_) (fun h => ?_) <;> (try simp (disch := (refine Om.mk ?_; omega)) only [go_sem] at h))
    | (refine sw_exit rfl ?_)
    | (refine sw_loopEnd ?_)
    | ((first | refine sw_ret (ret0 ?_) | refine sw_ret ?_); simp (disch := (refine Om.mk ?_; omega)) only [go_sem, Tryz.results132])
    | refine hK.call rfl rfl rfl (coef_fc b i) ⟨(by intro p hp; cases hp), rfl, rfl, (by simp only [dstOk, Nat.reduceLT])⟩ ?_
    | (with_reducible refine And.intro (by first | omega | (simp only [List.length_append, List.length_take, List.length_drop, List.length_cons, List.length_nil, List.length_map]; omega)) ?_)
    | ((with_reducible refine And.intro ?_ ?_); · first | (intro x hx; subst hx; rfl) | exact upR_mem fun _ _ => rfl | exact mapR_mem fun _ _ => rfl | (intro x; refine And.intro ?_ ?_ <;> (intros; subst_vars; rfl)))
    | fail
  · rw [mostR_no fun hm => absurd (hm i (by omega)) (by omega)]
    exact ⟨rfl, rfl⟩
  · exact ⟨i + 1, (by (refine covers_mk0 rfl rfl ?_ ?_ ?_ ?_ <;> simp (disch := (refine Om.mk ?_; omega)) only [go_sem] <;> (try omega))), ⟨by omega, upto_succ hj (by omega)⟩, by omega⟩
  · rw [mostR_yes fun j hj' => hj j (by omega)]
    exact ⟨decide_tst _, decide_tst _⟩
  · intro j hj'; omega
attribute [local go_sem] flat_zeros idsL_intsF
def kp178 : List (Nat × List Nat) := [(0, [0, 2]), (1, [0, 2, 3]), (2, [2, 3]), (3, [2])]
attribute [go_sem] kp178
theorem varForm_fc (n : Int) (h0 : n < 0) (h1 : -24 ≤ n) : FC S 178 [] [] [] [.int .i64 n] (PolyD (varF n)) [] [] := by
  refine fc_body Tryz.func178 rfl (by kernel_rfl) (by simp [Tryz.f178]) fun B => ?_
  simp only [Tryz.ntmps178, enumD, List.map_nil, List.map_cons, List.length_map, Nat.zero_add, Nat.reduceAdd]
  repeat' first
    | ((exfalso; omega))
    | ((refine ⟨by rw [List.length_replicate]; omega, ?_⟩))
    | ((refine sw_hold (id := 3) ?_))
    | exact Bool.noConfusion h
    | refine sw_seq ?_
    | refine sw_block ?_
    | refine sw_skip ?_
    | refine sw_inBlock ?_
    | refine sw_go 0 kp178 fun K hK => ?_
    | refine fun (K : List Oper → LS → Prop) (hK : KOk S 0 _ _ _ K) => ?_
    | ((first | refine runL_go ?_ | refine runQ_go ?_); simp (disch := (refine Om.mk ?_; omega)) only [go_sem])
    | (refine hK.nil ?_; clear hK K; simp only [go_sem])
    | (refine sw_cond rfl (fun h => ?_) (fun h => ?_) <;> (try simp (disch := (refine Om.mk ?_; omega)) only [go_sem] at h))
    | (refine sw_exit rfl ?_)
    | (refine sw_loopEnd ?_)
    | ((first | refine sw_ret (ret0 ?_) | refine sw_ret ?_); simp (disch := (refine Om.mk ?_; omega)) only [go_sem, Tryz.results178])
    | (with_reducible refine And.intro (by first | omega | (simp only [List.length_append, List.length_take, List.length_drop, List.length_cons, List.length_nil, List.length_map]; omega)) ?_)
    | ((with_reducible refine And.intro ?_ ?_); · first | (intro x hx; subst hx; rfl) | exact upR_mem fun _ _ => rfl | exact mapR_mem fun _ _ => rfl | (intro x; refine And.intro ?_ ?_ <;> (intros; subst_vars; rfl)))
    | fail
  refine HoldP.go ?_
  refine sw_freeze 3 1 .any ((varF n).coef.map (.int .i64)) rfl rfl (by rw [flat_ints]; unfold varF; rw [Int.zero_sub]) (by simp [varF]) (fun x hx => by obtain ⟨y, _, rfl⟩ := List.mem_map.1 hx; rfl) (fun d hd => by obtain ⟨y, _, rfl⟩ := List.mem_map.1 hd; rfl) (.inl rfl) ?_
  simp only [go_sem]
  repeat' first
    | exact Bool.noConfusion h
    | refine sw_seq ?_
    | refine sw_block ?_
    | refine sw_skip ?_
    | refine sw_inBlock ?_
    | refine sw_go 0 kp178 fun K hK => ?_
    | refine fun (K : List Oper → LS → Prop) (hK : KOk S 0 _ _ _ K) => ?_
    | ((first | refine runL_go ?_ | refine runQ_go ?_); simp (disch := (refine Om.mk ?_; omega)) only [go_sem])
    | (refine hK.nil ?_; clear hK K; simp only [go_sem])
    | (refine sw_cond rfl (fun h => ?_) (fun h => ?_) <;> (try simp (disch := (refine Om.mk ?_; omega)) only [go_sem] at h))
    | (refine sw_exit rfl ?_)
    | (refine sw_loopEnd ?_)
    | ((first | refine sw_ret (ret0 ?_) | refine sw_ret ?_); simp (disch := (refine Om.mk ?_; omega)) only [go_sem, Tryz.results178])
    | (with_reducible refine And.intro (by first | omega | (simp only [List.length_append, List.length_take, List.length_drop, List.length_cons, List.length_nil, List.length_map]; omega)) ?_)
    | ((with_reducible refine And.intro ?_ ?_); · first | (intro x hx; subst hx; rfl) | exact upR_mem fun _ _ => rfl | exact mapR_mem fun _ _ => rfl | (intro x; refine And.intro ?_ ?_ <;> (intros; subst_vars; rfl)))
    | fail
  all_goals rfl
def PolyLb (a : PolyT) : D := .agg [.int .i64 a.const, .sl (.lab [1]) (a.coef.map (.int .i64))]
attribute [local go_sem] PolyLb
theorem sto_polyL {k : Nat} {e : TypeId} {tk : List Nat} {ys zs : List Int} (qs : List PolyT) : StO k e tk ys zs (.sl (.lab [1]) (qs.map PolyLb)) (.sl (.lab [1]) (qs.map PolyLb)) := by
  refine sto_plain ?_
  show D.safeIL k tk (qs.map PolyLb) = true
  refine safeIL_of fun d hd => ?_
  obtain ⟨a, _, rfl⟩ := List.mem_map.1 hd
  simp [PolyLb, D.safeI, D.safeIL, safeIL_ints]
theorem addJ_zero (cs ds : List Int) (c : Int) : addJ cs ds c 0 = cs ++ List.replicate (ds.length - cs.length) 0 := rfl
theorem addJ_succ (cs ds : List Int) (c : Int) (j : Nat) : addJ cs ds c (j + 1) = (addJ cs ds c j).set j ((addJ cs ds c j).getD j default + c * ds.getD j default) := rfl
end Go.Proofs.YtpfeecgbiikpaaaGreat
